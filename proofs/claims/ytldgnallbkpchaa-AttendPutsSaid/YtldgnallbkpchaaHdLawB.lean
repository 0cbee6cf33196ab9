/- The walks of the statements HeadNext and HeadKinds. -/
import Derived.Test.YtldgnallbkpchaaHdLaw
namespace Go.Proofs.Ytldgnallbkpchaa
open Go.RowKit
def nameB (k : Int) : ByteArray :=
  if k = 1 then ⟨#[112, 114, 111, 98, 101]⟩ else if k = 2 then ⟨#[101, 99, 104, 111]⟩ else if k = 3 then ⟨#[98, 101, 97, 99, 111, 110]⟩
  else if k = 4 then ⟨#[100, 97, 116, 97]⟩ else if k = 5 then ⟨#[97, 116, 116, 101, 110, 100]⟩ else if k = 6 then ⟨#[99, 104, 117, 110, 107]⟩ else ⟨#[63]⟩
theorem ret_str {a b : ByteArray} (h : a = b) : Ending.returned (.string a) = .returned (.string b) := by rw [h]
set_option maxHeartbeats 1000000 in
theorem name_any (k : Int) (w : World) : Calls Try.prog 65 #[.int .i64 k] w fun e w' => e = .returned (.string (nameB k)) ∧ w = w' := by
  go_enter Try.func65, Try.ntmps65
  go_wp2
  all_goals
    go_ret
    exact ⟨ret_str (by simp_all [nameB]), rfl⟩
set_option maxRecDepth 100000 in
set_option maxHeartbeats 1000000 in
theorem refname_any (k : Int) (w : World) : Calls Try.prog 66 #[.int .i64 k] w fun e w' => e = .returned (.string (nameB k)) ∧ Grow w w' := by
  by_cases h : k = 1 ∨ k = 2 ∨ k = 3 ∨ k = 4 ∨ k = 5 ∨ k = 6
  · rcases h with rfl | rfl | rfl | rfl | rfl | rfl
    all_goals
      go_enter Try.func66, Try.ntmps66
      go_wp2
      go_ret
      exact ⟨rfl, (Grow.refl w).alloc _⟩
  · have hn := hide (show nameB k = ⟨#[63]⟩ by unfold nameB; simp only [not_or] at h; simp [h])
    by_cases h1 : k < 1
    · clear h
      go_enter Try.func66, Try.ntmps66
      go_wp2
      go_ret
      exact ⟨by rw [hn.out]; rfl, Grow.refl w⟩
    · have h2 : 6 < k := by omega
      clear h
      go_enter Try.func66, Try.ntmps66
      go_wp2
      go_ret
      exact ⟨by rw [hn.out]; rfl, Grow.refl w⟩
set_option maxRecDepth 100000 in
set_option maxHeartbeats 2000000 in
theorem headNext_yes (p : Pkt) (A : Option Addr) (l : List UInt8) (c : Nat) (w : World) (hl : Bytes w A l) (h1 : floodB p.kind = true) (h2 : 1 ≤ p.hops) (h3 : p.hops ≤ 62) :
    Calls Try.prog 8 #[pv p A l.length c] w fun e w' => e = .returned (.bool true) ∧ Grow w w' := by
  obtain ⟨hp0, hb0⟩ := one_box w (pcells p A l.length c) 65
  have HN := hide (fun W => next_yes p A l.length c W h1 h2 h3)
  have HF := hide (refflood_any p.kind)
  rw [h1] at HF
  have HS := hide (fun W hl => refsame_any { p with hops := p.hops + 1 } { p with hops := p.hops + 1 } A A l l c c W hl hl)
  rw [sameB_refl, beq_self_eq_true, Bool.true_and] at HS
  clear h1
  go_enter Try.func8, Try.ntmps8
  go_wp2_with fail
  refine (HN.out _).mono ?_
  rintro e w1 ⟨rfl, hb1⟩
  have hp1 := hp0.grow (by simp) hb1
  have hlt1 : w.heap.size < w1.heap.size := by have := hb1.size; simp at this; omega
  have hl1 := (hl.grow hb0).grow hb1
  have hpx := hp1
  unfold Holds at hpx
  have HG1 := hide (hb0.trans hb1)
  clear hp0 hb0 hb1 hl
  go_wp2_with fail
  refine (HF.out _).mono ?_
  rintro e w' ⟨rfl, rfl⟩
  go_wp2_with fail
  refine (HS.out _ (hl1.below ?_)).mono ?_
  · repeat (refine Below.setCell ?_ (by simp) _)
    exact ((Grow.refl w1).alloc _).alloc _
  rintro e w3 ⟨rfl, hb3⟩
  have HG3 : Hid (Grow w w3) := by
    refine Grow.step ?_ hb3
    refine Grow.trans (show Grow w w1 from HG1.out) ?_
    show Below w1.heap.size w1 _
    repeat (refine Below.setCell ?_ (by simp) _)
    exact ((Grow.refl w1).alloc _).alloc _
  clear hb3
  go_wp2_with fail
  refine (works09_any _).mono ?_
  rintro e w4 ⟨rfl, hb4⟩
  go_wp2
  go_ret
  exact ⟨rfl, Grow.trans (show Grow w w3 from HG3.out) hb4⟩
set_option maxRecDepth 100000 in
set_option maxHeartbeats 2000000 in
theorem headNext_a (p : Pkt) (A : Option Addr) (l : List UInt8) (c : Nat) (w : World) (h1 : floodB p.kind = false) :
    Calls Try.prog 8 #[pv p A l.length c] w fun e w' => e = .returned (.bool true) ∧ Grow w w' := by
  obtain ⟨hp0, hb0⟩ := one_box w (pcells p A l.length c) 65
  have HN := hide (fun W => next_no p A l.length c W (.inl h1))
  have HF := hide (refflood_any p.kind)
  rw [h1] at HF
  clear h1
  go_enter Try.func8, Try.ntmps8
  go_wp2_with fail
  refine (HN.out _).mono ?_
  rintro e w1 ⟨rfl, hb1⟩
  have hp1 := hp0.grow (by simp) hb1
  have hlt1 : w.heap.size < w1.heap.size := by have := hb1.size; simp at this; omega
  have hpx := hp1
  unfold Holds at hpx
  have HG1 := hide (hb0.trans hb1)
  clear hp0 hb0 hb1
  go_wp2_with fail
  refine (HF.out _).mono ?_
  rintro e w' ⟨rfl, rfl⟩
  go_wp2_with fail
  refine (same_self noP _).mono ?_
  rintro e w3 ⟨rfl, hb3⟩
  have HG3 : Hid (Grow w w3) := by
    refine Grow.step ?_ hb3
    exact (show Grow w w1 from HG1.out).alloc _
  clear hb3
  go_wp2_with fail
  refine (works09_any _).mono ?_
  rintro e w4 ⟨rfl, hb4⟩
  go_wp2
  go_ret
  exact ⟨rfl, Grow.trans (show Grow w w3 from HG3.out) hb4⟩
set_option maxRecDepth 100000 in
set_option maxHeartbeats 2000000 in
theorem headNext_b (p : Pkt) (A : Option Addr) (l : List UInt8) (c : Nat) (w : World) (h1 : floodB p.kind = true) (h2 : p.hops < 1) :
    Calls Try.prog 8 #[pv p A l.length c] w fun e w' => e = .returned (.bool true) ∧ Grow w w' := by
  obtain ⟨hp0, hb0⟩ := one_box w (pcells p A l.length c) 65
  have HN := hide (fun W => next_no p A l.length c W (.inr (.inl h2)))
  have HF := hide (refflood_any p.kind)
  rw [h1] at HF
  clear h1
  go_enter Try.func8, Try.ntmps8
  go_wp2_with fail
  refine (HN.out _).mono ?_
  rintro e w1 ⟨rfl, hb1⟩
  have hp1 := hp0.grow (by simp) hb1
  have hlt1 : w.heap.size < w1.heap.size := by have := hb1.size; simp at this; omega
  have hpx := hp1
  unfold Holds at hpx
  have HG1 := hide (hb0.trans hb1)
  clear hp0 hb0 hb1
  go_wp2_with fail
  refine (HF.out _).mono ?_
  rintro e w' ⟨rfl, rfl⟩
  go_wp2_with fail
  refine (same_self noP _).mono ?_
  rintro e w3 ⟨rfl, hb3⟩
  have HG3 : Hid (Grow w w3) := by
    refine Grow.step ?_ hb3
    exact (show Grow w w1 from HG1.out).alloc _
  clear hb3
  go_wp2_with fail
  refine (works09_any _).mono ?_
  rintro e w4 ⟨rfl, hb4⟩
  go_wp2
  go_ret
  exact ⟨rfl, Grow.trans (show Grow w w3 from HG3.out) hb4⟩
set_option maxRecDepth 100000 in
set_option maxHeartbeats 2000000 in
theorem headNext_c (p : Pkt) (A : Option Addr) (l : List UInt8) (c : Nat) (w : World) (h1 : floodB p.kind = true) (h2 : 1 ≤ p.hops) (h3 : 62 < p.hops) :
    Calls Try.prog 8 #[pv p A l.length c] w fun e w' => e = .returned (.bool true) ∧ Grow w w' := by
  obtain ⟨hp0, hb0⟩ := one_box w (pcells p A l.length c) 65
  have HN := hide (fun W => next_no p A l.length c W (.inr (.inr h3)))
  have HF := hide (refflood_any p.kind)
  rw [h1] at HF
  clear h1
  go_enter Try.func8, Try.ntmps8
  go_wp2_with fail
  refine (HN.out _).mono ?_
  rintro e w1 ⟨rfl, hb1⟩
  have hp1 := hp0.grow (by simp) hb1
  have hlt1 : w.heap.size < w1.heap.size := by have := hb1.size; simp at this; omega
  have hpx := hp1
  unfold Holds at hpx
  have HG1 := hide (hb0.trans hb1)
  clear hp0 hb0 hb1
  go_wp2_with fail
  refine (HF.out _).mono ?_
  rintro e w' ⟨rfl, rfl⟩
  go_wp2_with fail
  refine (same_self noP _).mono ?_
  rintro e w3 ⟨rfl, hb3⟩
  have HG3 : Hid (Grow w w3) := by
    refine Grow.step ?_ hb3
    exact (show Grow w w1 from HG1.out).alloc _
  clear hb3
  go_wp2_with fail
  refine (works09_any _).mono ?_
  rintro e w4 ⟨rfl, hb4⟩
  go_wp2
  go_ret
  exact ⟨rfl, Grow.trans (show Grow w w3 from HG3.out) hb4⟩
theorem headNext_any (p : Pkt) (A : Option Addr) (l : List UInt8) (c : Nat) (w : World) (hl : Bytes w A l) :
    Calls Try.prog 8 #[pv p A l.length c] w fun e w' => e = .returned (.bool true) ∧ Grow w w' := by
  cases h1 : floodB p.kind with
  | false => exact headNext_a p A l c w h1
  | true =>
    by_cases h2 : p.hops < 1
    · exact headNext_b p A l c w h1 h2
    · by_cases h3 : 62 < p.hops
      · exact headNext_c p A l c w h1 (by omega) h3
      · exact headNext_yes p A l c w hl h1 (by omega) (by omega)
set_option maxRecDepth 100000 in
set_option maxHeartbeats 2000000 in
theorem headKinds_any (k : Int) (p : Pkt) (A : Option Addr) (n c : Nat) (w : World) :
    Calls Try.prog 10 #[.int .i64 k, pv p A n c] w fun e w' => e = .returned (.bool true) ∧ Grow w w' := by
  obtain ⟨hp0, hb0⟩ := one_box w (pcells p A n c) 65
  have H1 := hide (flood_any k)
  have H2 := hide (refflood_any k)
  generalize floodB k = x at H1 H2
  have H3 := hide (name_any k)
  have H4 := hide (refname_any k)
  generalize nameB k = y at H3 H4
  have H5 := hide (headgood_any p A n c)
  have H6 := hide (refheadgood_any p A n c)
  generalize headB p = z at H5 H6
  go_enter Try.func10, Try.ntmps10
  have hpc := fun (W : World) (h : Grow (w.alloc (.cells (pcells p A n c) 65)).drew W) => hp0.grow (by simp) (Grow.of_drew h)
  unfold Holds at hpc
  go_wp2_with fail
  refine wpG_region (by kernel_rfl) ?_
  refine wpG_take 0 rfl (by kernel_rfl) (fun _ _ _ h => h) rfl (v := ?_) ?_ ?_
  rotate_left
  · (intro w' hG; go_simp; try with_reducible rfl)
  try simp only [Act.put, List.setIfInBounds_toArray, List.set_cons_zero, List.set_cons_succ]
  refine wpG_take 2 rfl (by kernel_rfl) (fun _ _ _ h => h) rfl (v := ?_) ?_ ?_
  rotate_left
  · (intro w' hG; go_simp; try with_reducible rfl)
  try simp only [Act.put, List.setIfInBounds_toArray, List.set_cons_zero, List.set_cons_succ]
  refine wpG_call 1 rfl (by kernel_rfl) rfl fun K hK => ?_
  go_simp
  refine (H1.out _).mono ?_
  rintro e w1 ⟨rfl, rfl⟩
  refine hK.out _ _ (Grow.refl _) ?_
  clear hK
  try simp only [Act.put, List.setIfInBounds_toArray, List.set_cons_zero, List.set_cons_succ]
  refine wpG_call 3 rfl (by kernel_rfl) rfl fun K hK => ?_
  go_simp
  refine (H2.out _).mono ?_
  rintro e w2 ⟨rfl, rfl⟩
  refine hK.out _ _ (Grow.refl _) ?_
  clear hK
  try simp only [Act.put, List.setIfInBounds_toArray, List.set_cons_zero, List.set_cons_succ]
  refine wpG_take 4 rfl (by kernel_rfl) (fun _ _ _ h => h) rfl (v := ?_) ?_ ?_
  rotate_left
  · (intro w' hG; go_simp; try with_reducible rfl)
  try simp only [Act.put, List.setIfInBounds_toArray, List.set_cons_zero, List.set_cons_succ]
  refine wpG_take 5 rfl (by kernel_rfl) (fun _ _ _ h => h) rfl (v := ?_) ?_ ?_
  rotate_left
  · (intro w' hG; go_simp; try with_reducible rfl)
  try simp only [Act.put, List.setIfInBounds_toArray, List.set_cons_zero, List.set_cons_succ]
  refine wpG_take 6 rfl (by kernel_rfl) (fun _ _ _ h => h) rfl (v := ?_) ?_ ?_
  rotate_left
  · (intro w' hG; go_simp; try with_reducible rfl)
  try simp only [Act.put, List.setIfInBounds_toArray, List.set_cons_zero, List.set_cons_succ]
  refine wpG_take 8 rfl (by kernel_rfl) (fun _ _ _ h => h) rfl (v := ?_) ?_ ?_
  rotate_left
  · (intro w' hG; go_simp; try with_reducible rfl)
  try simp only [Act.put, List.setIfInBounds_toArray, List.set_cons_zero, List.set_cons_succ]
  refine wpG_call 7 rfl (by kernel_rfl) rfl fun K hK => ?_
  go_simp
  refine (H3.out _).mono ?_
  rintro e w3 ⟨rfl, rfl⟩
  refine hK.out _ _ (Grow.refl _) ?_
  clear hK
  try simp only [Act.put, List.setIfInBounds_toArray, List.set_cons_zero, List.set_cons_succ]
  refine wpG_call 9 rfl (by kernel_rfl) rfl fun K hK => ?_
  go_simp
  refine (H4.out _).mono ?_
  rintro e w4 ⟨rfl, hb4⟩
  refine hK.out _ _ (hb4) ?_
  clear hK
  try simp only [Act.put, List.setIfInBounds_toArray, List.set_cons_zero, List.set_cons_succ]
  have hpe := fun (W : World) (h : Grow w4 W) => hpc W (Grow.trans hb4 h)
  refine wpG_take 10 rfl (by kernel_rfl) (fun _ _ _ h => h) rfl (v := ?_) ?_ ?_
  rotate_left
  · (intro w' hG; go_simp; try with_reducible rfl)
  try simp only [Act.put, List.setIfInBounds_toArray, List.set_cons_zero, List.set_cons_succ]
  refine wpG_take 11 rfl (by kernel_rfl) (fun _ _ _ h => h) rfl (v := ?_) ?_ ?_
  rotate_left
  · (intro w' hG; go_simp; try with_reducible rfl)
  try simp only [Act.put, List.setIfInBounds_toArray, List.set_cons_zero, List.set_cons_succ]
  refine wpG_take 12 rfl (by kernel_rfl) (fun _ _ _ h => h) rfl (v := ?_) ?_ ?_
  rotate_left
  · (intro w' hG; go_simp; try with_reducible rfl)
  try simp only [Act.put, List.setIfInBounds_toArray, List.set_cons_zero, List.set_cons_succ]
  refine wpG_take 13 rfl (by kernel_rfl) (fun _ _ _ h => h) rfl (v := ?_) ?_ ?_
  rotate_left
  · (intro w' hG; go_simp; try with_reducible rfl)
  try simp only [Act.put, List.setIfInBounds_toArray, List.set_cons_zero, List.set_cons_succ]
  refine wpG_take 15 rfl (by kernel_rfl) (fun _ _ _ h => h) rfl (v := ?_) ?_ ?_
  rotate_left
  · (intro w' hG; go_simp; try with_reducible rfl)
  try simp only [Act.put, List.setIfInBounds_toArray, List.set_cons_zero, List.set_cons_succ]
  refine wpG_call 14 rfl (by kernel_rfl) rfl fun K hK => ?_
  go_simp
  refine (H5.out _).mono ?_
  rintro e w5 ⟨rfl, hb5⟩
  refine hK.out _ _ (hb5) ?_
  clear hK
  try simp only [Act.put, List.setIfInBounds_toArray, List.set_cons_zero, List.set_cons_succ]
  have hpd := fun (W : World) (h : Grow w5 W) => hpc W (Grow.trans (Grow.step hb4 hb5) h)
  refine wpG_call 16 rfl (by kernel_rfl) rfl fun K hK => ?_
  go_simp
  refine (H6.out _).mono ?_
  rintro e w6 ⟨rfl, hb6⟩
  refine hK.out _ _ (hb6) ?_
  clear hK
  try simp only [Act.put, List.setIfInBounds_toArray, List.set_cons_zero, List.set_cons_succ]
  refine wpG_take 17 rfl (by kernel_rfl) (fun _ _ _ h => h) rfl (v := ?_) ?_ ?_
  rotate_left
  · (intro w' hG; go_simp; try with_reducible rfl)
  try simp only [Act.put, List.setIfInBounds_toArray, List.set_cons_zero, List.set_cons_succ]
  refine wpG_take 18 rfl (by kernel_rfl) (fun _ _ _ h => h) rfl (v := ?_) ?_ ?_
  rotate_left
  · (intro w' hG; go_simp; try with_reducible rfl)
  try simp only [Act.put, List.setIfInBounds_toArray, List.set_cons_zero, List.set_cons_succ]
  refine wpG_take 19 rfl (by kernel_rfl) (fun _ _ _ h => h) rfl (v := ?_) ?_ ?_
  rotate_left
  · (intro w' hG; go_simp; try with_reducible rfl)
  try simp only [Act.put, List.setIfInBounds_toArray, List.set_cons_zero, List.set_cons_succ]
  refine wpG_call 20 rfl (by kernel_rfl) rfl fun K hK => ?_
  go_simp
  refine (works09_any _).mono ?_
  rintro e w7 ⟨rfl, hb7⟩
  refine hK.out _ _ (hb7) ?_
  clear hK
  try simp only [Act.put, List.setIfInBounds_toArray, List.set_cons_zero, List.set_cons_succ]
  refine wpG_take 21 rfl (by kernel_rfl) (fun _ _ _ h => h) rfl (v := ?_) ?_ ?_
  rotate_left
  · (intro w' hG; go_simp; try with_reducible rfl)
  try simp only [Act.put, List.setIfInBounds_toArray, List.set_cons_zero, List.set_cons_succ]
  refine wpG_take 22 rfl (by kernel_rfl) (fun _ _ _ h => h) rfl (v := ?_) ?_ ?_
  rotate_left
  · (intro w' hG; go_simp; try with_reducible rfl)
  try simp only [Act.put, List.setIfInBounds_toArray, List.set_cons_zero, List.set_cons_succ]
  refine wpG_done (by kernel_rfl) ?_ _
  go_wp2
  go_ret
  exact ⟨rfl, Grow.trans hb0 (Grow.of_drew (Grow.trans (Grow.step (Grow.step hb4 hb5) hb6) hb7))⟩
end Go.Proofs.Ytldgnallbkpchaa
