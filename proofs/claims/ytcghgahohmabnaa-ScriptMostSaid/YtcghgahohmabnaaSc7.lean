/- The walk of the statement ScriptMost. -/
import Derived.Test.YtcghgahohmabnaaSc6
import Derived.Test.YtcghgahohmabnaaScB
namespace Go.Proofs.Ytcghgahohmabnaa
open Go.RowKit
abbrev tickC : Array Value := #[.int .i64 1, .int .i64 0, .int .i64 1, .int .i64 0, .int .i64 0, .int .i64 0, .int .u32 0, .int .u32 0, .slice none 0 0]
def set9 (cs : Array Value) (k : Nat) : Array Value := ((((((((cs.setIfInBounds (k * 9) (.int .i64 1)).setIfInBounds (k * 9 + 1) (.int .i64 0)).setIfInBounds (k * 9 + 2) (.int .i64 1)).setIfInBounds (k * 9 + 3) (.int .i64 0)).setIfInBounds (k * 9 + 4) (.int .i64 0)).setIfInBounds (k * 9 + 5) (.int .i64 0)).setIfInBounds (k * 9 + 6) (.int .u32 0)).setIfInBounds (k * 9 + 7) (.int .u32 0)).setIfInBounds (k * 9 + 8) (.slice none 0 0)
theorem set9_size (cs : Array Value) (k : Nat) : (set9 cs k).size = cs.size := by simp [set9]
theorem set9_old (cs : Array Value) (k j : Nat) (h : j < k * 9) : (set9 cs k)[j]? = cs[j]? := by
  unfold set9
  repeat rw [Array.getElem?_setIfInBounds_ne (by omega)]
theorem set9_new (cs : Array Value) (k i : Nat) (hi : i < 9) (hs : k * 9 + 9 ≤ cs.size) : (set9 cs k)[k * 9 + i]? = tickC[i]? := by
  unfold set9
  rcases (show i = 0 ∨ i = 1 ∨ i = 2 ∨ i = 3 ∨ i = 4 ∨ i = 5 ∨ i = 6 ∨ i = 7 ∨ i = 8 by omega) with rfl | rfl | rfl | rfl | rfl | rfl | rfl | rfl | rfl
  all_goals
    repeat rw [Array.getElem?_setIfInBounds_ne (by omega)]
    first
      | rw [Array.getElem?_setIfInBounds_self_of_lt (by simp; omega)]
      | (rw [Nat.add_zero]; rw [Array.getElem?_setIfInBounds_self_of_lt (by omega)])
    rfl
theorem Box.set9 {w : World} {g : Nat} {cs : Array Value} (h : Box w g cs) (k : Nat) : Box (World.setCell (World.setCell (World.setCell (World.setCell (World.setCell (World.setCell (World.setCell (World.setCell (World.setCell w ⟨g, k * 9, none⟩ (.int .i64 1)) ⟨g, k * 9 + 1, none⟩ (.int .i64 0)) ⟨g, k * 9 + 2, none⟩ (.int .i64 1)) ⟨g, k * 9 + 3, none⟩ (.int .i64 0)) ⟨g, k * 9 + 4, none⟩ (.int .i64 0)) ⟨g, k * 9 + 5, none⟩ (.int .i64 0)) ⟨g, k * 9 + 6, none⟩ (.int .u32 0)) ⟨g, k * 9 + 7, none⟩ (.int .u32 0)) ⟨g, k * 9 + 8, none⟩ (.slice none 0 0)) g (set9 cs k) :=
  ((((((((h.set _ _).set _ _).set _ _).set _ _).set _ _).set _ _).set _ _).set _ _).set _ _
abbrev tickA : AB := ⟨⟨1, 0, 1, zF⟩, none, [], 0⟩
theorem Acts.ticks {w : World} {g n : Nat} {cs : Array Value} (h : Box w g cs) (hc : ∀ j, j < n → ∀ i, i < 9 → cs[j * 9 + i]? = tickC[i]?) : Acts w (some ⟨g, 0, none⟩) (List.replicate n tickA) := by
  intro _
  refine ⟨g, 0, rfl, fun k hk => ?_⟩
  rw [List.length_replicate] at hk
  rw [List.getElem_replicate]
  refine ⟨fun i hi => ?_, ⟨by show (-9223372036854775808 : Int) ≤ 1; decide, by show (1 : Int) < 9223372036854775808; decide, Bytes.nil _ _, by show 0 ≤ 1000000; decide, by show 0 ≤ 0; decide⟩⟩
  rw [Nat.zero_add, h.cell, hc k hk i hi]
  simp
theorem enc_ticks (n : Nat) : (encR (List.replicate n tickA)).2 = if 4096 < n then 4 else 0 := by
  have hg : goodsB (List.replicate n tickA) = true := by
    unfold goodsB
    rw [List.all_eq_true]
    intro x hx
    obtain rfl := List.eq_of_mem_replicate hx
    decide
  unfold encR
  rw [List.length_replicate, hg]
  split
  · rfl
  · rfl
set_option maxRecDepth 100000 in
set_option maxHeartbeats 4000000 in
theorem scriptMost_any (m : Nat) (w : World) (hm : m < 256) :
    Calls Try.prog 21 #[.int .u8 m] w fun e w' => e = .returned (.bool true) ∧ Grow w w' := by
  obtain ⟨i0, hi0, hz0, hs0, hb0⟩ := info_parts actInfo
  go_enter Try.func21, Try.ntmps21
  go_wp2_with (at_make; refine Hid.out (?_ : Hid _))
  refine hide ?_
  refine (wpList_make_full _ rfl _ _ 105 rfl w.heap.size 108 i0 _ 9 Try.underlying105 hi0 hz0 hs0 .i64 .i64 (4096 + (m:Int)) (4096 + (m:Int)) (4096 + m) rfl rfl (by simp) (by simp) (by rw [hb0]; omega) (by unfold maxLen; omega) (Nat.le_refl _) ?_)
  intro w1 hown hgb
  have hg1 : Grow w w1 := grown_after (Grow.refl w) hgb (by simp)
  obtain ⟨g, hgdef⟩ : ∃ g, Hid (g = w.heap.size) := ⟨_, hide rfl⟩
  have hbx : ∃ cs, Hid (Box w1 g cs) ∧ cs.size = (4096 + m) * 9 := by
    rcases hown.2 with ⟨h, _⟩ | ⟨g', cap, cur, he, _, hh, _, _, hsz, _⟩
    · cases h
    · injection he with e1 e2 e3
      injection e1 with e1
      injection e1 with e1
      subst e1 e3
      rw [hgdef.out]
      exact ⟨cur, hide ⟨_, hh⟩, hsz⟩
  rw [← hgdef.out]
  have hgw : w.heap.size ≤ g := by have := hgdef.out; omega
  obtain ⟨cs0, hbx, hsz⟩ := hbx
  clear hown hgb hi0 hz0 hs0 hb0
  go_wp2
  go_loopw [17] (fun i wr => ∃ (k : Nat) (cs : Array Value), k ≤ 4096 + m ∧ i = .int .i64 k ∧ Hid (Box wr g cs) ∧ cs.size = (4096 + m) * 9 ∧ Hid (∀ j, j < k → ∀ i, i < 9 → cs[j * 9 + i]? = tickC[i]?) ∧ Grow w wr) (fun i _ => 4096 + m - (intOf i).toNat)
  case atStart => exact ⟨0, cs0, by omega, rfl, hbx, hsz, hide (fun j h => by omega), hg1⟩
  case round =>
    clear hbx hsz hg1
    obtain ⟨k, cs, hk, rfl, hbx, hsz, hcs, hgr⟩ := hrel
    by_cases hlt : k < 4096 + m
    · have hki : (k : Int) < 4096 + (m : Int) := by omega
      have hfz := hbx.out.fz
      have hcell : ∀ i, i < 9 → ∃ v, wr.cell? ⟨g, k * 9 + i, none⟩ = some v := fun i hi => by
        rw [hbx.out.cell]
        exact ⟨_, Array.getElem?_eq_getElem (by omega)⟩
      obtain ⟨v0, d0⟩ := hcell 0 (by omega)
      rw [Nat.add_zero] at d0
      obtain ⟨v1, d1⟩ := hcell 1 (by omega)
      obtain ⟨v2, d2⟩ := hcell 2 (by omega)
      obtain ⟨v3, d3⟩ := hcell 3 (by omega)
      obtain ⟨v4, d4⟩ := hcell 4 (by omega)
      obtain ⟨v5, d5⟩ := hcell 5 (by omega)
      obtain ⟨v6, d6⟩ := hcell 6 (by omega)
      obtain ⟨v7, d7⟩ := hcell 7 (by omega)
      obtain ⟨v8, d8⟩ := hcell 8 (by omega)
      clear hcell
      have hbx2 := hide (hbx.out.set9 k)
      have hcs2 : Hid (∀ j, j < k + 1 → ∀ i, i < 9 → (set9 cs k)[j * 9 + i]? = tickC[i]?) := hide (fun j hj i hi => by
        by_cases hjk : j = k
        · subst hjk
          exact set9_new cs j i hi (by omega)
        · rw [set9_old cs k _ (by omega)]
          exact hcs.out j (by omega) i hi)
      go_wp2
      go_roundw
      case rel =>
        refine ⟨k + 1, set9 cs k, by omega, by go_num, hbx2, by rw [set9_size]; exact hsz, hcs2, ?_⟩
        show Below w.heap.size w _
        repeat (with_reducible refine Below.setCell ?_ hgw _)
        exact hgr
      case measure => simp [intOf]; omega
    · obtain rfl : k = 4096 + m := by omega
      clear hlt
      have HE := encode_any (some ⟨g, 0, none⟩) (List.replicate (4096 + m) tickA) (4096 + m) wr (Acts.ticks hbx.out hcs.out) (by rw [List.length_replicate]; omega)
      have hee := enc_ticks (4096 + m)
      rw [List.length_replicate] at HE
      generalize encR (List.replicate (4096 + m) tickA) = T at *
      obtain ⟨T1, e⟩ := T
      dsimp only at HE hee
      have HE := hide HE
      have heh := hide hee
      clear hee
      have HD := hide (fun B cb W h => adec_any B [129, 32] cb W h (by decide))
      clear hbx hcs hsz
      go_wp2_with fail
      refine HE.out.mono ?_
      rintro r w2 ⟨⟨A2, c2, rfl, _, _, _, _⟩, hb2⟩
      have hg2 := Grow.trans hgr hb2
      go_wp2_with fail
      refine (HD.out _ _ _ (Bytes.lit' w2 _ rfl [129, 32] _ _ _ (by simp [u8]))).mono ?_
      rintro r w3 ⟨⟨L, A3, c3, rfl, _, _, _, _, _⟩, hb3⟩
      have hg3 := Grow.trans (hg2.alloc _) hb3
      rw [show (decA [129, 32]).2 = 4 by decide +kernel]
      by_cases hm0 : m = 0
      · subst hm0
        have hee := heh.out
        rw [if_neg (by omega)] at hee
        clear heh
        subst hee
        go_wp2_with fail
        refine (works46_any _).mono ?_
        rintro r w5 ⟨rfl, hb5⟩
        go_wp2
        go_ret
        exact ⟨rfl, Grow.trans hg3 hb5⟩
      · have hee := heh.out
        rw [if_pos (by omega)] at hee
        clear heh
        subst hee
        have hm1 : ((4096 + (m : Int)) == 4096) = false := by simp; omega
        clear hm0
        go_wp2_with fail
        refine (works46_any _).mono ?_
        rintro r w5 ⟨rfl, hb5⟩
        go_wp2
        go_ret
        exact ⟨rfl, Grow.trans hg3 hb5⟩
theorem scriptMost_walk (n : Int) (w : World) (h : (Lit.int .u8 n).wf = true) :
    Calls Try.prog 21 #[.int .u8 n] w fun e w' => e = .returned (.bool true) ∧ Grow w w' := by
  obtain ⟨h1, h2⟩ := bounds_u8 h
  obtain ⟨m, rfl⟩ := Int.eq_ofNat_of_zero_le h1
  exact scriptMost_any m w (by omega)
end Go.Proofs.Ytcghgahohmabnaa
