/- PieceOrder (chapter 42), where the lengths' sum goes over. -/
import Derived.Test.YtbccbfmgjeknhaaPq
namespace Go.Proofs.Ytbccbfmgjeknhaa
open Go.RowKit
set_option maxRecDepth 100000 in
set_option maxHeartbeats 8000000 in
theorem pieceOrder_big (A : Option Addr) (l : List UInt8) (c s8 : Nat) (A2 : Option Addr) (lo : List UInt8) (c2 : Nat) (w : World) (hl : l.length ≤ c) (hc : c ≤ 9223372036854775807) (hb : Bytes w A l) (hs8 : s8 < 256) (hl2 : lo.length ≤ c2) (hc2 : c2 ≤ 9223372036854775807) (hb2 : Bytes w A2 lo) (hsum : 9223372036854775807 < lo.length + (splitR (s8 % 40 + 1) (l.take 200)).length) :
    Calls Try.prog 8 #[.slice A l.length c, .int .u8 s8, .slice A2 lo.length c2] w fun e w' => e = .returned (.bool true) ∧ Grow w w' := by
  obtain ⟨m, hm⟩ : ∃ m, m = l.take 200 := ⟨_, rfl⟩
  rw [← hm] at hsum
  have hmm : m.length = min 200 l.length := by rw [hm, List.length_take]
  have hb := hm ▸ hb.take 200
  have hmin : (if 200 < (l.length : Int) then (200 : Int) else (l.length : Int)) = ((m.length : Nat) : Int) := by split <;> omega
  have hmc : m.length ≤ c := by omega
  have hmN : m.length ≤ 200 := by omega
  clear hm hmm hl
  have htm : ((s8 : Int).tmod 40) = ((s8 % 40 : Nat) : Int) := by rw [Int.tmod_eq_emod_of_nonneg (by omega)]; omega
  have hr40 : s8 % 40 < 40 := Nat.mod_lt _ (by omega)
  generalize s8 % 40 = r at *
  go_enter Try.func8, Try.ntmps8
  go_wp2_with (at_builtin; refine wpList_append_fresh byteT rfl (.tmp 16) (.tmp 21) rfl (Own.made' _ (w.heap.size) (w.heap.size) (by simp) (by omega)) (by simp <;> omega) (hb.alloc _) rfl rfl (by omega) ?_)
  intro A1 c1 w1 hown1 hb1
  have hg1 := Grow.trans ((Grow.refl _).alloc _) hb1
  have hby1 := hown1.bytes
  have hc1 := hown1.le
  clear hown1 hb1 hmin hmc hc hb
  have HSp := hide (refsplit_any A1 m c1 (r + 1) w1 (by omega) (by omega) hby1)
  have hfl := hide (splitR_flat (r + 1) (by omega) m)
  have hlen : Hid (∀ z, ((splitR (r + 1) m).getD z []).length ≤ 1000) := hide (fun z => by
    rw [List.getD_eq_getElem?_getD]
    cases h : (splitR (r + 1) m)[z]? with
    | none => simp
    | some y => have := splitR_part (r + 1) (by omega) m y (List.mem_of_getElem? h); simp; omega)
  have hpt := hide (splitR_part (r + 1) (by omega) m)
  have hmo := (splitR_most (r + 1) (by omega) m)
  have hpos : 1 ≤ (splitR (r + 1) m).length := by rw [splitR_len]; omega
  have hle : (splitR (r + 1) m).length ≤ 200 := by
    by_cases h : m = []
    · have := hmo.1; rw [h] at this ⊢; simp at this; omega
    · have := hmo.2 h; omega
  generalize splitR (r + 1) m = S at *
  clear hmo
  rw [show ((r + 1 : Nat) : Int) = (r : Int) + 1 by simp] at HSp
  go_wp2_with fail
  refine HSp.out.mono ?_
  rintro r0 w2 ⟨⟨B, cB, rfl, hS2⟩, hg12⟩
  have hg2 := Grow.trans hg1 hg12
  have hby2 := hby1.grow hg12
  have hlo2 := hb2.grow hg2
  clear HSp hg12 hby1 hg1 hb2 htm
  go_wp2_with fail
  refine (pnew_any 1 w2).mono ?_
  rintro r0 w3 ⟨p, q, rfl, h3, hg23⟩
  obtain ⟨l1, l2, l3⟩ := h3.low
  have hpl := h3.box.lt
  have hql := h3.map.lt
  have h3 := hide h3
  obtain ⟨i0, hi0, hz0, hs0, hb0⟩ := info_parts boolInfo
  have hs23 := hg23.size
  go_wp2_with (at_make; refine Hid.out (?_ : Hid _))
  refine hide ?_
  refine (wpList_make_full _ rfl _ _ 53 rfl w2.heap.size 4 i0 _ 1 Try.underlying53 hi0 hz0 hs0 .i64 .i64 (S.length : Int) (S.length : Int) S.length rfl rfl rfl rfl (by rw [hb0]; omega) (by unfold maxLen; omega) hs23 ?_)
  intro w4 hown4 hgb4
  have hg34 : Grow w3 w4 := ngrown (Grow.refl w3) hgb4 (by simp)
  rw [made_bool] at hown4
  have hB4 : Hid (OwnB w4 w2.heap.size (.slice (some ⟨w3.heap.size, 0, none⟩) S.length S.length) S.length []) := hide hown4
  have h4 : Hid (Pc w4 w2.heap.size p q 1 (if ([] : List Nat) = [] then 0 else 9) (if ([] : List Nat) = [] then 0 else (S.length : Int)) []) := hide (h3.out.grow hg34)
  have hg24 := Grow.trans hg23 hg34
  have hgp : w3.heap.size ≠ p := by omega
  have hgq : w3.heap.size ≠ q := by omega
  have hg3s : w3.heap.size < w4.heap.size := (OwnB.lt hown4)
  clear hown4 hgb4 hi0 hz0 hs0 hb0 h3 hg23 hg34
  obtain ⟨g, hgd⟩ : ∃ g, g = w3.heap.size := ⟨_, rfl⟩
  have hgw2 : w2.heap.size ≤ g := by omega
  rw [← hgd] at hB4 hgp hgq hg3s ⊢
  clear hgd hpl hql hs23
  have hn200 : ¬ ((200 : Int) < (S.length : Int)) := by omega
  have hn1 : ¬ ((S.length : Int) < 1) := by omega
  have hcnt0 : Hid (([] : List Nat).length = (List.range S.length).countP (fun j => ([] : List Nat).contains j)) := hide (by simp)
  go_wp2
  clear hn200 hn1
  have hgw := Grow.trans hg2 hg24
  have hlo9 : lo.length ≤ 9223372036854775807 := by omega
  have hover : IntKind.i64.wrap ((lo.length : Int) + (S.length : Int)) = (lo.length : Int) + (S.length : Int) - 18446744073709551616 := by rw [IntKind.wrap_i64]; omega
  have hneg : ¬ (0 < (lo.length : Int) + (S.length : Int) - 18446744073709551616) := by omega
  clear h4 hB4 hcnt0 hg3s hg24 hby2 hlo2 hlen hpt hfl
  go_loopw [10, 11] (fun _ i wr => i = .int .i64 0 ∧ Grow w wr) (fun _ _ _ => 0)
  case atStart => exact ⟨rfl, hgw⟩
  case round =>
    obtain ⟨rfl, hgr⟩ := hrel
    clear hgw
    go_wp2_with fail
    refine (works42_any _).mono ?_
    rintro r0 w9 ⟨rfl, hg9⟩
    have hg9 := Grow.trans hgr hg9
    go_wp2
    go_ret
    exact ⟨rfl, hg9⟩
theorem pieceOrder_all (A : Option Addr) (l : List UInt8) (c : Nat) (n1 : Int) (A2 : Option Addr) (lo : List UInt8) (c2 : Nat) (w : World) (hl : l.length ≤ c) (hc : c ≤ 9223372036854775807) (hb : Bytes w A l) (h0 : 0 ≤ n1) (h1 : n1 < 256) (hl2 : lo.length ≤ c2) (hc2 : c2 ≤ 9223372036854775807) (hb2 : Bytes w A2 lo) :
    Calls Try.prog 8 #[.slice A l.length c, .int .u8 n1, .slice A2 lo.length c2] w fun e w' => e = .returned (.bool true) ∧ Grow w w' := by
  obtain ⟨s8, rfl⟩ := Int.eq_ofNat_of_zero_le h0
  by_cases h : lo.length + (splitR (s8 % 40 + 1) (l.take 200)).length ≤ 9223372036854775807
  · exact pieceOrder_any A l c s8 A2 lo c2 w hl hc hb (by omega) hl2 hc2 hb2 h
  · exact pieceOrder_big A l c s8 A2 lo c2 w hl hc hb (by omega) hl2 hc2 hb2 (by omega)
end Go.Proofs.Ytbccbfmgjeknhaa
