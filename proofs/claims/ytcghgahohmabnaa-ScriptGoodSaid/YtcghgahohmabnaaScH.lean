/- Acts (chapter 46): the walk of the document's Encode. -/
import Derived.Test.YtcghgahohmabnaaScG
namespace Go.Proofs.Ytcghgahohmabnaa
open Go.RowKit
set_option maxRecDepth 100000 in
set_option maxHeartbeats 4000000 in
theorem refaenc_any (A : Option Addr) (L : List AB) (c : Nat) (w : World) (hi : Acts w A L) (hL : L.length ≤ 1000000000) :
    Calls Try.prog 76 #[.slice A L.length c] w fun r w' => (∃ A' c', r = .returned (.tuple #[.slice A' (encR L).1.length c', .int .i64 (encR L).2]) ∧ (encR L).1.length ≤ c' ∧ c' ≤ 9223372036854775807 ∧ Bytes w' A' (encR L).1) ∧ Grow w w' := by
  by_cases hbig : 4096 < L.length
  · have HR := hide (show encR L = ([], 4) from if_pos hbig)
    have hbi : (4096 : Int) < (L.length : Int) := by omega
    go_enter Try.func76, Try.ntmps76
    go_wp2
    go_ret2
    exact ⟨⟨none, 0, by rw [HR.out]; rfl, by rw [HR.out]; simp, by decide, by rw [HR.out]; exact Bytes.nil _ _⟩, Grow.refl w⟩
  have HR := hide (show encR L = if goodsB L then (Buf.sevens L.length ++ encBytes L, 0) else ([], 1) from if_neg hbig)
  have hbi : ¬ ((4096 : Int) < (L.length : Int)) := by omega
  have hsb := Buf.sevens_len L.length
  have HN := hide (fun W => refnum_any L.length W (by omega))
  generalize Buf.sevens L.length = s0 at *
  go_enter Try.func76, Try.ntmps76
  go_wp2_with fail
  refine (HN.out _).mono ?_
  rintro r w1 ⟨A0, c0, rfl, ho0, hg1⟩
  have ho0 := hide ho0
  go_wp2
  go_loopw [4, 5] (fun v i wr => ∃ (k : Nat) (Ab : Option Addr) (cb : Nat) (b : List UInt8), k ≤ L.length ∧ i = .int .i64 k ∧ v = .slice Ab b.length cb ∧ Hid (Own wr w.heap.size Ab cb b) ∧ Hid (b = s0 ++ encBytes (L.take k)) ∧ Hid (∀ x, x ∈ L.take k → actB x.p x.l = true) ∧ Grow w wr) (fun _ i _ => L.length - (intOf i).toNat)
  case atStart => exact ⟨0, A0, c0, s0, by omega, rfl, rfl, ho0, hide (by simp [encBytes]), hide (by simp), hg1⟩
  case round =>
    clear ho0 hg1 HN
    obtain ⟨k, Ab, cb, b, hk, rfl, rfl, hown, hb, hall, hgr⟩ := hrel
    have hgs := hgr.size
    have hbl : b.length ≤ 4270000 := by
      have h1 := encBytes_len (L.take k) hall.out
      rw [hb.out, List.length_append]
      rw [List.length_take] at h1
      omega
    by_cases hlt : k < L.length
    · have hlti : (k : Int) < (L.length : Int) := by omega
      obtain ⟨x, hx⟩ : ∃ x, Hid (x = L[k]) := ⟨_, hide rfl⟩
      obtain ⟨b3, o, rfl, hcs, hok⟩ := (hi.grow hgr).at_ k hlt
      rw [← hx.out] at hcs hok
      have d0 := hcs 0 (by omega)
      have d1 := hcs 1 (by omega)
      have d2 := hcs 2 (by omega)
      have d3 := hcs 3 (by omega)
      have d4 := hcs 4 (by omega)
      have d5 := hcs 5 (by omega)
      have d6 := hcs 6 (by omega)
      have d7 := hcs 7 (by omega)
      have d8 := hcs 8 (by omega)
      simp at d0 d1 d2 d3 d4 d5 d6 d7 d8
      clear hcs
      have HG := hide (refagood_any x.p x.A x.l x.c _ hok.bytes (by have := hok.len; omega))
      have hok := hide hok
      generalize hgb : actB x.p x.l = g at HG
      have hgb := hide hgb
      go_wp2_with fail
      refine HG.out.mono ?_
      rintro r w4 ⟨rfl, hg4⟩
      have hgr4 := Grow.trans hgr hg4
      have hs4 := hg4.size
      have e0 := Grow.cell' hg4 d0
      have e1 := Grow.cell' hg4 d1
      have e2 := Grow.cell' hg4 d2
      have e3 := Grow.cell' hg4 d3
      have e4 := Grow.cell' hg4 d4
      have e5 := Grow.cell' hg4 d5
      have e6 := Grow.cell' hg4 d6
      have e7 := Grow.cell' hg4 d7
      have e8 := Grow.cell' hg4 d8
      clear d0 d1 d2 d3 d4 d5 d6 d7 d8 HG
      cases g with
      | false =>
        have HN := hide (HR.out.trans (if_neg (by
          intro h
          have h1 := List.all_eq_true.1 h x (by rw [hx.out]; exact List.getElem_mem hlt)
          rw [hgb.out] at h1
          cases h1)))
        go_wp2
        go_ret2
        exact ⟨⟨none, 0, by rw [HN.out]; rfl, by rw [HN.out]; simp, by decide, by rw [HN.out]; exact Bytes.nil _ _⟩, hgr4⟩
      | true =>
        have HO := hide (refone_any x.p x.A x.l x.c w4 (hok.out.bytes.grow hg4) hok.out.len hgb.out)
        have hal := actBytes_len x.p x.l hgb.out
        have hbx : Hid (s0 ++ encBytes (L.take (k + 1)) = b ++ actBytes x.p x.l) := hide (by
          rw [List.take_succ_eq_append_getElem hlt, ← hx.out, hb.out]
          simp [encBytes])
        generalize actBytes x.p x.l = Y at *
        go_wp2_with fail
        refine HO.out.mono ?_
        rintro r w5 ⟨A5, c5, rfl, ho5, hg5⟩
        have hown5 := (hown.out.below hg4).below hg5
        have hg5w := Grow.trans hgr4 hg5
        clear e0 e1 e2 e3 e4 e5 e6 e7 e8 HO hown
        go_wp2_with (at_builtin; refine wpList_append_bytes byteT rfl (.tmp 25) (.tmp 30) rfl hown5 ho5.bytes rfl rfl ?_ ?_ ?_)
        · omega
        · have := hg5.size; omega
        intro A6 c6 l6 w6 HL6 ho6 hg6 _
        have hg6w := grown_after hg5w hg6 (fun q h => hown5.base h)
        have hb6 : Hid (l6 = s0 ++ encBytes (L.take (k + 1))) := hide (by rw [HL6.out, hbx.out])
        have hall6 : Hid (∀ y, y ∈ L.take (k + 1) → actB y.p y.l = true) := hide (by
          intro y hy
          rw [List.take_succ_eq_append_getElem hlt] at hy
          rcases List.mem_append.1 hy with h | h
          · exact hall.out y h
          · rw [List.mem_singleton.1 h, ← hx.out]; exact hgb.out)
        have ho6 := hide ho6
        clear hown5 ho5 hg6
        go_wp2
        go_roundw
        case rel => exact ⟨k + 1, A6, c6, l6, by omega, by go_num, rfl, ho6, hb6, hall6, hg6w⟩
        case measure => simp [intOf]; omega
    · obtain rfl : k = L.length := by omega
      have HY := hide (HR.out.trans (if_pos (List.all_eq_true.2 (fun y hy => hall.out y (by rw [List.take_length]; exact hy)))))
      have hbb : Hid (b = s0 ++ encBytes L) := hide (by have h := hb.out; rw [List.take_length] at h; exact h)
      clear hlt
      go_wp2
      go_ret2
      exact ⟨⟨Ab, cb, by rw [HY.out, ← hbb.out]; rfl, by rw [HY.out, ← hbb.out]; exact hown.out.le.1, hown.out.le.2, by rw [HY.out, ← hbb.out]; exact hown.out.bytes⟩, hgr⟩
end Go.Proofs.Ytcghgahohmabnaa
