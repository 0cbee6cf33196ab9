/- Acts (chapter 46) that came in; the walk of the statement ScriptEncodes. -/
import Derived.Test.YtcghgahohmabnaaScE
import Derived.Test.YtcghgahohmabnaaScF
import Derived.Test.YtcghgahohmabnaaScH
import Derived.Test.YtcghgahohmabnaaFrmF
namespace Go.Proofs.Ytcghgahohmabnaa
open Go.ChangeShapes Go.WideShapes Go.ChangeAt Go.RowKit
theorem list9 {α : Type} (cs : List α) (h : cs.length = 9) : ∃ c0 c1 c2 c3 c4 c5 c6 c7 c8, cs = [c0, c1, c2, c3, c4, c5, c6, c7, c8] := by
  match cs, h with
  | [c0, c1, c2, c3, c4, c5, c6, c7, c8], _ => exact ⟨c0, c1, c2, c3, c4, c5, c6, c7, c8, rfl⟩
theorem cellsBytes9 : Try.prog.cellsOf 22 = 1 := by kernel_rfl
theorem cellsAct : Try.prog.cellsOf 108 = 9 := by kernel_rfl
set_option maxRecDepth 100000 in
theorem trod_act {H : Type} {enc : TypeId × Value → H} {W : World} {base : Nat} {spare : Nat → Bool} {held : Bool} {fuel : Nat} {cs : List Value} {x : DataW H × List MemPlace}
    (h : DataW.trod enc Try.prog W base spare held fuel 108 cs = some x) : ∃ y : AB, cs = (abc y).toList ∧ y.In W := by
  obtain ⟨xs, m, _, _, hlen, hl, hf⟩ := DataW.trod_struct Try.underlying108 h
  rw [cellsAct] at hlen
  obtain ⟨c0, c1, c2, c3, c4, c5, c6, c7, c8, rfl⟩ := list9 cs hlen
  simp at hl
  have h0 := field_of hf 0 3 0 1 (by rfl) cellsInt (by omega)
  have h1 := field_of hf 1 3 1 1 (by rfl) cellsInt (by omega)
  have h2 := field_of hf 2 2 2 1 (by rfl) cellsInt64 (by omega)
  have h3 := field_of hf 3 78 3 5 (by rfl) cellsFate (by omega)
  have h4 := field_of hf 4 22 8 1 (by rfl) cellsBytes9 (by omega)
  obtain ⟨k, e0, _, _⟩ := DataW.trod_int Try.underlying3 h0
  obtain ⟨d, e1, _, _⟩ := DataW.trod_int Try.underlying3 h1
  obtain ⟨n, e2, _, w2⟩ := DataW.trod_int Try.underlying2 h2
  obtain ⟨f, e3, okf⟩ := trod_fate h3
  have hb : ∃ A n c, c8 = .slice A n c := by
    rcases DataW.trod_slice Try.underlying22 h4 with ⟨h, _⟩ | ⟨a, len, cap, _, _, _, _, h, _⟩
    · simp at h; exact ⟨_, _, _, h⟩
    · simp at h; exact ⟨_, _, _, h⟩
  obtain ⟨A, nn, c, rfl⟩ := hb
  simp at e0 e1 e2 e3
  obtain ⟨l, rfl, hl1, _, hby⟩ := open_bytes (a := A) (len := nn) (cap := c) (d := (xs[4]).1) (p := (xs[4]).2) ⟨m, h4⟩
  obtain ⟨e3, e4, e5, e6, e7⟩ := e3
  subst e0 e1 e2 e3 e4 e5 e6 e7
  have b2 := bounds_i64 w2
  have b3 := bounds_u32 okf.pos
  have b4 := bounds_u32 okf.bits
  exact ⟨⟨⟨k, d, n, f⟩, A, l, c⟩, rfl, ⟨by dsimp only; omega, by dsimp only; omega, hby, hl1, ⟨b3.1, by dsimp only; omega⟩, ⟨b4.1, by dsimp only; omega⟩⟩⟩
theorem open_acts {H : Type} {enc : TypeId × Value → H} {W : World} {base : Nat} {spare : Nat → Bool} {held : Bool} {A : Option Addr} {len cap : Nat} {d : DataW H} {p : List MemPlace}
    (h : DataW.Trod enc Try.prog W base spare held 105 (.slice A len cap) d p) : ∃ L : List AB, len = L.length ∧ L.length ≤ cap ∧ cap ≤ 9223372036854775807 ∧ ActsIn W A L :=
  open_rows Try.underlying105 cellsAct (by omega) (fun _ => rfl) (fun _ _ _ h => trod_act h) h
theorem encR_len (L : List AB) : (encR L).1.length ≤ 4270000 := by
  unfold encR
  split
  · simp
  · rename_i hl
    split
    · rename_i hg
      have h1 := encBytes_len L (fun x hx => List.all_eq_true.1 hg x hx)
      have h2 := Buf.sevens_len L.length
      simp only [List.length_append]
      omega
    · simp
set_option maxRecDepth 100000 in
set_option maxHeartbeats 2000000 in
theorem scriptEncodes_any (A : Option Addr) (L : List AB) (c : Nat) (w : World) (hi : ActsIn w A L) (hL : L.length ≤ 9223372036854775807) :
    Calls Try.prog 18 #[.slice A L.length c] w fun e w' => e = .returned (.bool true) ∧ Grow w w' := by
  have hf := hide hi.fates
  go_enter Try.func18, Try.ntmps18
  go_wp2_with fail
  refine (cut46_any A L c w hi hL).mono ?_
  rintro r w1 ⟨⟨M, A1, c1, rfl, hM60, ha1, hM⟩, hg1⟩
  have hfm := hide (cut_fates hM hf.out)
  have hM := hide hM
  have HE := hide (encode_any A1 M c1 w1 ha1 (by omega))
  have HR := hide (fun W h => refaenc_any A1 M c1 W h (by omega))
  have hlen := encR_len M
  have hback := hide (fun b h => enc_back M b h hfm.out)
  obtain ⟨⟨b, e⟩, hT⟩ : ∃ T, encR M = T := ⟨_, rfl⟩
  rw [hT] at HE HR hlen hback
  clear hT
  dsimp only at HE HR hlen
  go_wp2_with fail
  refine HE.out.mono ?_
  rintro r w2 ⟨⟨A2, c2, rfl, _, _, hb2, _⟩, hg2⟩
  have ha2 := ha1.grow hg2
  have hgw2 := Grow.trans hg1 hg2
  go_wp2_with fail
  refine (HR.out _ ha2).mono ?_
  rintro r w3 ⟨⟨A3, c3, rfl, _, _, hb3⟩, hg3⟩
  have ha3 := ha2.grow hg3
  have hgw3 := Grow.trans hgw2 hg3
  have V2 : (convert 22 9 (.slice A2 b.length c2)).run Try.prog w3 = .ok (.string ⟨b.toArray⟩) w3 := conv_any c2 (hb2.grow hg3)
  have V3 : (convert 22 9 (.slice A3 b.length c3)).run Try.prog w3 = .ok (.string ⟨b.toArray⟩) w3 := conv_any c3 hb3
  by_cases he : e = 0
  rotate_left
  · have he' : (e != 0) = true := by simpa using he
    clear he
    go_wp2_with fail
    refine (works46_any _).mono ?_
    rintro r w5 ⟨rfl, hb5⟩
    go_wp2
    go_ret
    exact ⟨rfl, Grow.trans hgw3 hb5⟩
  subst he
  have HD := adec_any A3 b c3 w3 hb3 (by omega)
  unfold DecPost at HD
  rw [hback.out b rfl] at HD
  have HD := hide HD
  clear hb3 hb2
  go_wp2_with fail
  refine HD.out.mono ?_
  rintro r w4 ⟨⟨D, A4, c4, rfl, _, _, ha4, hx4, _⟩, hg4⟩
  have hgw4 := Grow.trans hgw3 hg4
  have HA := hide (all46_any A1 A4 M D c1 c4 w4 (ha3.grow hg4) ha4 hx4.symm (by omega))
  clear V2 V3 hx4
  go_wp2_with fail
  refine HA.out.mono ?_
  rintro r w5 ⟨rfl, hg5⟩
  go_wp2_with fail
  refine (works46_any _).mono ?_
  rintro r w6 ⟨rfl, hg6⟩
  go_wp2
  go_ret
  exact ⟨rfl, Grow.trans (Grow.trans hgw4 hg5) hg6⟩
end Go.Proofs.Ytcghgahohmabnaa
