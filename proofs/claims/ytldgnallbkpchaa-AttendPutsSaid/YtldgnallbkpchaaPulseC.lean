/- The walk of the statement PulseNew. -/
import Derived.Test.YtldgnallbkpchaaPulseB
namespace Go.Proofs.Ytldgnallbkpchaa
open Go.RowKit
theorem sameB_refl (p : Pkt) : sameB p p = true := by simp [sameB, restB, keyEq]
theorem same_self (p : Pkt) (w : World) : Calls Try.prog 61 #[pv p none 0 0, pv p none 0 0] w fun e w' => e = .returned (.bool true) ∧ Below w.heap.size w w' := by
  have h := refsame_any p p none none [] [] 0 0 w (Bytes.nil _ _) (Bytes.nil _ _)
  rw [sameB_refl] at h
  exact h
set_option maxRecDepth 100000 in
set_option maxHeartbeats 4000000 in
theorem pulseNew_yes (s v : Int) (p : Pkt) (A : Option Addr) (l : List UInt8) (c : Nat) (w : World) (hl : Bytes w A l) (h1 : p.kind = 1) (h2 : pulseB p l = true) :
    Calls Try.prog 20 #[.int .i64 s, .int .i64 v, pv p A l.length c] w fun e w' => e = .returned (.bool true) ∧ Grow w w' := by
  obtain ⟨hp0, hb0⟩ := one_box w (pcells p A l.length c) 65
  have hl0 := hl.grow hb0
  have k1 : (p.kind == 1) = true := by simpa using h1
  have HE := hide (fun W hW => echo_yes p A l c v W hW h1 h2)
  have HR := hide (fun W hW => refpulsegood_any p A l c W hW)
  rw [h2] at HR
  clear h1 h2
  go_enter Try.func20, Try.ntmps20
  go_wp2_with fail
  refine (HE.out _ hl0).mono ?_
  rintro e w1 ⟨rfl, hb1⟩
  have hp1 := hp0.grow (by simp) hb1
  have hlt1 : w.heap.size < w1.heap.size := by have := hb1.size; simp at this; omega
  have hl1 := (hl0.grow hb1)
  have hpx := hp1
  unfold Holds at hpx
  have HW1 := hide (Grow.step hb0 hb1)
  clear hp0 hb0 hl hl0 hb1
  go_wp2_with fail
  refine (HR.out _ (hl1.alloc _)).mono ?_
  rintro e w3 ⟨rfl, hb3⟩
  have hp3 := hp1.grow (by simp) (Grow.step ((Grow.refl w1).alloc _) hb3)
  have hq3 := (Holds.new w1 (pcells (echoP p.stamp v) none 0 0) 65 (0, 0) rfl).grow (by simp) hb3
  have HW3 := hide (Grow.step ((show Grow w w1 from HW1.out).alloc _) hb3)
  have hl3 := (hl1.alloc _).grow hb3
  clear hp1 hl1 hpx HW1 hb3
  have hpc := fun (W : World) (h : Grow w3.drew W) => hp3.grow (by simp) (Grow.of_drew h)
  have hqc := fun (W : World) (h : Grow w3.drew W) => hq3.grow (by simp) (Grow.of_drew h)
  unfold Holds at hpc hqc
  go_wp2_with fail
  refine wpG_region (by kernel_rfl) ?_
  refine wpG_take 0 rfl (by kernel_rfl) (fun _ _ _ h => h) rfl (v := ?_) ?_ ?_
  rotate_left
  · (intro w' hG; go_simp; try with_reducible rfl)
  try simp only [Act.put, List.setIfInBounds_toArray, List.set_cons_zero, List.set_cons_succ]
  refine wpG_take 1 rfl (by kernel_rfl) (fun _ _ _ h => h) rfl (v := ?_) ?_ ?_
  rotate_left
  · (intro w' hG; go_simp; try with_reducible rfl)
  try simp only [Act.put, List.setIfInBounds_toArray, List.set_cons_zero, List.set_cons_succ]
  refine wpG_take 2 rfl (by kernel_rfl) (fun _ _ _ h => h) rfl (v := ?_) ?_ ?_
  rotate_left
  · (intro w' hG; go_simp; try with_reducible rfl)
  try simp only [Act.put, List.setIfInBounds_toArray, List.set_cons_zero, List.set_cons_succ]
  refine wpG_take 3 rfl (by kernel_rfl) (fun _ _ _ h => h) rfl (v := ?_) ?_ ?_
  rotate_left
  · (intro w' hG; go_simp; try with_reducible rfl)
  try simp only [Act.put, List.setIfInBounds_toArray, List.set_cons_zero, List.set_cons_succ]
  refine wpG_take 4 rfl (by kernel_rfl) (fun _ _ _ h => h) rfl (v := ?_) ?_ ?_
  rotate_left
  · (intro w' hG; go_simp; try with_reducible rfl)
  try simp only [Act.put, List.setIfInBounds_toArray, List.set_cons_zero, List.set_cons_succ]
  refine wpG_take 5 rfl (by kernel_rfl) (fun _ _ _ h => h) rfl (v := ?_) ?_ ?_
  rotate_left
  · (intro w' hG; go_simp; try with_reducible rfl)
  try simp only [Act.put, List.setIfInBounds_toArray, List.set_cons_zero, List.set_cons_succ]
  refine wpG_take 6 rfl (by kernel_rfl) (fun _ _ _ h => h) rfl (v := ?_) ?_ ?_
  rotate_left
  · (intro w' hG; go_simp; try with_reducible rfl)
  try simp only [Act.put, List.setIfInBounds_toArray, List.set_cons_zero, List.set_cons_succ]
  refine wpG_take 7 rfl (by kernel_rfl) (fun _ _ _ h => h) rfl (v := ?_) ?_ ?_
  rotate_left
  · (intro w' hG; go_simp; try with_reducible rfl)
  try simp only [Act.put, List.setIfInBounds_toArray, List.set_cons_zero, List.set_cons_succ]
  refine wpG_take 8 rfl (by kernel_rfl) (fun _ _ _ h => h) rfl (v := ?_) ?_ ?_
  rotate_left
  · (intro w' hG; go_simp; try with_reducible rfl)
  try simp only [Act.put, List.setIfInBounds_toArray, List.set_cons_zero, List.set_cons_succ]
  refine wpG_call 9 rfl (by kernel_rfl) rfl fun K hK => ?_
  go_simp
  refine (refecho_any p A l.length c v _).mono ?_
  rintro e wa ⟨rfl, hba⟩
  refine hK.out _ _ (hba) ?_
  clear hK
  try simp only [Act.put, List.setIfInBounds_toArray, List.set_cons_zero, List.set_cons_succ]
  refine wpG_call 10 rfl (by kernel_rfl) rfl fun K hK => ?_
  go_simp
  refine (same_self _ _).mono ?_
  rintro e w4 ⟨rfl, hbb⟩
  refine hK.out _ _ (hbb) ?_
  clear hK
  try simp only [Act.put, List.setIfInBounds_toArray, List.set_cons_zero, List.set_cons_succ]
  refine wpG_take 11 rfl (by kernel_rfl) (fun _ _ _ h => h) rfl (v := ?_) ?_ ?_
  rotate_left
  · (intro w' hG; go_simp; try with_reducible rfl)
  try simp only [Act.put, List.setIfInBounds_toArray, List.set_cons_zero, List.set_cons_succ]
  refine wpG_take 12 rfl (by kernel_rfl) (fun _ _ _ h => h) rfl (v := ?_) ?_ ?_
  rotate_left
  · (intro w' hG; go_simp; try with_reducible rfl)
  try simp only [Act.put, List.setIfInBounds_toArray, List.set_cons_zero, List.set_cons_succ]
  refine wpG_take 13 rfl (by kernel_rfl) (fun _ _ _ h => h) rfl (v := ?_) ?_ ?_
  rotate_left
  · (intro w' hG; go_simp; try with_reducible rfl)
  try simp only [Act.put, List.setIfInBounds_toArray, List.set_cons_zero, List.set_cons_succ]
  refine wpG_take 14 rfl (by kernel_rfl) (fun _ _ _ h => h) rfl (v := ?_) ?_ ?_
  rotate_left
  · (intro w' hG; go_simp; try with_reducible rfl)
  try simp only [Act.put, List.setIfInBounds_toArray, List.set_cons_zero, List.set_cons_succ]
  refine wpG_take 15 rfl (by kernel_rfl) (fun _ _ _ h => h) rfl (v := ?_) ?_ ?_
  rotate_left
  · (intro w' hG; go_simp; try with_reducible rfl)
  try simp only [Act.put, List.setIfInBounds_toArray, List.set_cons_zero, List.set_cons_succ]
  refine wpG_take 16 rfl (by kernel_rfl) (fun _ _ _ h => h) rfl (v := ?_) ?_ ?_
  rotate_left
  · (intro w' hG; go_simp; try with_reducible rfl)
  try simp only [Act.put, List.setIfInBounds_toArray, List.set_cons_zero, List.set_cons_succ]
  refine wpG_take 17 rfl (by kernel_rfl) (fun _ _ _ h => h) rfl (v := ?_) ?_ ?_
  rotate_left
  · (intro w' hG; go_simp; try with_reducible rfl)
  try simp only [Act.put, List.setIfInBounds_toArray, List.set_cons_zero, List.set_cons_succ]
  refine wpG_skip 18 rfl (by kernel_rfl) (fun _ _ _ h => h) rfl ?_
  try simp only [Act.put, List.setIfInBounds_toArray, List.set_cons_zero, List.set_cons_succ]
  refine wpG_skip 19 rfl (by kernel_rfl) (fun _ _ _ h => h) rfl ?_
  try simp only [Act.put, List.setIfInBounds_toArray, List.set_cons_zero, List.set_cons_succ]
  refine wpG_skip 20 rfl (by kernel_rfl) (fun _ _ _ h => h) rfl ?_
  try simp only [Act.put, List.setIfInBounds_toArray, List.set_cons_zero, List.set_cons_succ]
  refine wpG_skip 21 rfl (by kernel_rfl) (fun _ _ _ h => h) rfl ?_
  try simp only [Act.put, List.setIfInBounds_toArray, List.set_cons_zero, List.set_cons_succ]
  refine wpG_take 22 rfl (by kernel_rfl) (fun _ _ _ h => h) rfl (v := ?_) ?_ ?_
  rotate_left
  · (intro w' hG; go_simp; try with_reducible rfl)
  try simp only [Act.put, List.setIfInBounds_toArray, List.set_cons_zero, List.set_cons_succ]
  refine wpG_take 23 rfl (by kernel_rfl) (fun _ _ _ h => h) rfl (v := ?_) ?_ ?_
  rotate_left
  · (intro w' hG; go_simp; try with_reducible rfl)
  try simp only [Act.put, List.setIfInBounds_toArray, List.set_cons_zero, List.set_cons_succ]
  refine wpG_done (by kernel_rfl) ?_ _
  have hb3 : Grow w3 w4 := Grow.of_drew (Grow.step hba hbb)
  have hp4 := hp3.grow (by simp) hb3
  have HW4 := hide (Grow.step (show Grow w w3 from HW3.out) (show Below _ w3 w4 from hb3))
  clear hpc hqc hp3 hq3 HW3 hb3
  have hpc := fun (W : World) (h : Grow w4.drew W) => hp4.grow (by simp) (Grow.of_drew h)
  unfold Holds at hpc
  go_wp2_with fail
  refine wpG_region (by kernel_rfl) ?_
  refine wpG_take 0 rfl (by kernel_rfl) (fun _ _ _ h => h) rfl (v := ?_) ?_ ?_
  rotate_left
  · (intro w' hG; go_simp; try with_reducible rfl)
  try simp only [Act.put, List.setIfInBounds_toArray, List.set_cons_zero, List.set_cons_succ]
  refine wpG_take 2 rfl (by kernel_rfl) (fun _ _ _ h => h) rfl (v := ?_) ?_ ?_
  rotate_left
  · (intro w' hG; go_simp; try with_reducible rfl)
  try simp only [Act.put, List.setIfInBounds_toArray, List.set_cons_zero, List.set_cons_succ]
  refine wpG_call 1 rfl (by kernel_rfl) rfl fun K hK => ?_
  go_simp
  refine (probe_any _ _).mono ?_
  rintro e w5 ⟨rfl, hb5⟩
  refine hK.out _ _ (hb5) ?_
  clear hK
  try simp only [Act.put, List.setIfInBounds_toArray, List.set_cons_zero, List.set_cons_succ]
  refine wpG_call 3 rfl (by kernel_rfl) rfl fun K hK => ?_
  go_simp
  refine (refprobe_any _ _).mono ?_
  rintro e w6 ⟨rfl, hb6⟩
  refine hK.out _ _ (hb6) ?_
  clear hK
  try simp only [Act.put, List.setIfInBounds_toArray, List.set_cons_zero, List.set_cons_succ]
  refine wpG_call 4 rfl (by kernel_rfl) rfl fun K hK => ?_
  go_simp
  refine (same_self _ _).mono ?_
  rintro e w7 ⟨rfl, hb7⟩
  refine hK.out _ _ (hb7) ?_
  clear hK
  try simp only [Act.put, List.setIfInBounds_toArray, List.set_cons_zero, List.set_cons_succ]
  have hq7 : Grow w4.drew w7 := Grow.step (Grow.step hb5 hb6) hb7
  have hpd := fun (W : World) (h : Grow w7 W) => hpc W (Grow.trans hq7 h)
  refine wpG_take 5 rfl (by kernel_rfl) (fun _ _ _ h => h) rfl (v := ?_) ?_ ?_
  rotate_left
  · (intro w' hG; go_simp; try with_reducible rfl)
  try simp only [Act.put, List.setIfInBounds_toArray, List.set_cons_zero, List.set_cons_succ]
  refine wpG_take 6 rfl (by kernel_rfl) (fun _ _ _ h => h) rfl (v := ?_) ?_ ?_
  rotate_left
  · (intro w' hG; go_simp; try with_reducible rfl)
  try simp only [Act.put, List.setIfInBounds_toArray, List.set_cons_zero, List.set_cons_succ]
  refine wpG_take 7 rfl (by kernel_rfl) (fun _ _ _ h => h) rfl (v := ?_) ?_ ?_
  rotate_left
  · (intro w' hG; go_simp; try with_reducible rfl)
  try simp only [Act.put, List.setIfInBounds_toArray, List.set_cons_zero, List.set_cons_succ]
  refine wpG_take 8 rfl (by kernel_rfl) (fun _ _ _ h => h) rfl (v := ?_) ?_ ?_
  rotate_left
  · (intro w' hG; go_simp; try with_reducible rfl)
  try simp only [Act.put, List.setIfInBounds_toArray, List.set_cons_zero, List.set_cons_succ]
  refine wpG_take 10 rfl (by kernel_rfl) (fun _ _ _ h => h) rfl (v := ?_) ?_ ?_
  rotate_left
  · (intro w' hG; go_simp; try with_reducible rfl)
  try simp only [Act.put, List.setIfInBounds_toArray, List.set_cons_zero, List.set_cons_succ]
  refine wpG_take 11 rfl (by kernel_rfl) (fun _ _ _ h => h) rfl (v := ?_) ?_ ?_
  rotate_left
  · (intro w' hG; go_simp; try with_reducible rfl)
  try simp only [Act.put, List.setIfInBounds_toArray, List.set_cons_zero, List.set_cons_succ]
  refine wpG_take 12 rfl (by kernel_rfl) (fun _ _ _ h => h) rfl (v := ?_) ?_ ?_
  rotate_left
  · (intro w' hG; go_simp; try with_reducible rfl)
  try simp only [Act.put, List.setIfInBounds_toArray, List.set_cons_zero, List.set_cons_succ]
  refine wpG_call 9 rfl (by kernel_rfl) rfl fun K hK => ?_
  go_simp
  refine (beacon_any _ _ _ _ _).mono ?_
  rintro e w8 ⟨rfl, hb8⟩
  refine hK.out _ _ (hb8) ?_
  clear hK
  try simp only [Act.put, List.setIfInBounds_toArray, List.set_cons_zero, List.set_cons_succ]
  refine wpG_call 13 rfl (by kernel_rfl) rfl fun K hK => ?_
  go_simp
  refine (refbeacon_any _ _ _ _ _).mono ?_
  rintro e w9 ⟨rfl, hb9⟩
  refine hK.out _ _ (hb9) ?_
  clear hK
  try simp only [Act.put, List.setIfInBounds_toArray, List.set_cons_zero, List.set_cons_succ]
  refine wpG_call 14 rfl (by kernel_rfl) rfl fun K hK => ?_
  go_simp
  refine (same_self _ _).mono ?_
  rintro e w10 ⟨rfl, hb10⟩
  refine hK.out _ _ (hb10) ?_
  clear hK
  try simp only [Act.put, List.setIfInBounds_toArray, List.set_cons_zero, List.set_cons_succ]
  refine wpG_take 15 rfl (by kernel_rfl) (fun _ _ _ h => h) rfl (v := ?_) ?_ ?_
  rotate_left
  · (intro w' hG; go_simp; try with_reducible rfl)
  try simp only [Act.put, List.setIfInBounds_toArray, List.set_cons_zero, List.set_cons_succ]
  refine wpG_take 16 rfl (by kernel_rfl) (fun _ _ _ h => h) rfl (v := ?_) ?_ ?_
  rotate_left
  · (intro w' hG; go_simp; try with_reducible rfl)
  try simp only [Act.put, List.setIfInBounds_toArray, List.set_cons_zero, List.set_cons_succ]
  refine wpG_call 17 rfl (by kernel_rfl) rfl fun K hK => ?_
  go_simp
  refine (works11_any _).mono ?_
  rintro e w11 ⟨rfl, hb11⟩
  refine hK.out _ _ (hb11) ?_
  clear hK
  try simp only [Act.put, List.setIfInBounds_toArray, List.set_cons_zero, List.set_cons_succ]
  refine wpG_take 18 rfl (by kernel_rfl) (fun _ _ _ h => h) rfl (v := ?_) ?_ ?_
  rotate_left
  · (intro w' hG; go_simp; try with_reducible rfl)
  try simp only [Act.put, List.setIfInBounds_toArray, List.set_cons_zero, List.set_cons_succ]
  refine wpG_take 19 rfl (by kernel_rfl) (fun _ _ _ h => h) rfl (v := ?_) ?_ ?_
  rotate_left
  · (intro w' hG; go_simp; try with_reducible rfl)
  try simp only [Act.put, List.setIfInBounds_toArray, List.set_cons_zero, List.set_cons_succ]
  refine wpG_done (by kernel_rfl) ?_ _
  go_wp2
  go_ret
  exact ⟨rfl, Grow.trans (Grow.trans (show Grow w w4 from HW4.out) (Grow.of_drew hq7)) (Grow.trans (Grow.step (Grow.trans hb8 hb9) hb10) hb11)⟩
set_option maxRecDepth 100000 in
set_option maxHeartbeats 4000000 in
theorem pulseNew_no (s v : Int) (p : Pkt) (A : Option Addr) (l : List UInt8) (c : Nat) (w : World) (hl : Bytes w A l) (h1 : p.kind = 1) (h2 : pulseB p l = false) :
    Calls Try.prog 20 #[.int .i64 s, .int .i64 v, pv p A l.length c] w fun e w' => e = .returned (.bool true) ∧ Grow w w' := by
  obtain ⟨hp0, hb0⟩ := one_box w (pcells p A l.length c) 65
  have hl0 := hl.grow hb0
  have k1 : (p.kind == 1) = true := by simpa using h1
  have HE := hide (fun W hW => echo_no p A l c v W hW (by simp [isProbe, h2]))
  have HR := hide (fun W hW => refpulsegood_any p A l c W hW)
  rw [h2] at HR
  clear h1 h2
  go_enter Try.func20, Try.ntmps20
  go_wp2_with fail
  refine (HE.out _ hl0).mono ?_
  rintro e w1 ⟨rfl, hb1⟩
  have hp1 := hp0.grow (by simp) hb1
  have hlt1 : w.heap.size < w1.heap.size := by have := hb1.size; simp at this; omega
  have hl1 := (hl0.grow hb1)
  have hpx := hp1
  unfold Holds at hpx
  have HW1 := hide (Grow.step hb0 hb1)
  clear hp0 hb0 hl hl0 hb1
  go_wp2_with fail
  refine (HR.out _ (hl1.alloc _)).mono ?_
  rintro e w3 ⟨rfl, hb3⟩
  have hp3 := hp1.grow (by simp) (Grow.step ((Grow.refl w1).alloc _) hb3)
  have hq3 := (Holds.new w1 (pcells noP none 0 0) 65 (0, 0) rfl).grow (by simp) hb3
  have HW3 := hide (Grow.step ((show Grow w w1 from HW1.out).alloc _) hb3)
  have hl3 := (hl1.alloc _).grow hb3
  clear hp1 hl1 hpx HW1 hb3
  have hpc := fun (W : World) (h : Grow w3.drew W) => hp3.grow (by simp) (Grow.of_drew h)
  have hqc := fun (W : World) (h : Grow w3.drew W) => hq3.grow (by simp) (Grow.of_drew h)
  unfold Holds at hpc hqc
  go_wp2_with fail
  refine wpG_region (by kernel_rfl) ?_
  refine wpG_take 0 rfl (by kernel_rfl) (fun _ _ _ h => h) rfl (v := ?_) ?_ ?_
  rotate_left
  · (intro w' hG; go_simp; try with_reducible rfl)
  try simp only [Act.put, List.setIfInBounds_toArray, List.set_cons_zero, List.set_cons_succ]
  refine wpG_take 1 rfl (by kernel_rfl) (fun _ _ _ h => h) rfl (v := ?_) ?_ ?_
  rotate_left
  · (intro w' hG; go_simp; try with_reducible rfl)
  try simp only [Act.put, List.setIfInBounds_toArray, List.set_cons_zero, List.set_cons_succ]
  refine wpG_take 2 rfl (by kernel_rfl) (fun _ _ _ h => h) rfl (v := ?_) ?_ ?_
  rotate_left
  · (intro w' hG; go_simp; try with_reducible rfl)
  try simp only [Act.put, List.setIfInBounds_toArray, List.set_cons_zero, List.set_cons_succ]
  refine wpG_take 3 rfl (by kernel_rfl) (fun _ _ _ h => h) rfl (v := ?_) ?_ ?_
  rotate_left
  · (intro w' hG; go_simp; try with_reducible rfl)
  try simp only [Act.put, List.setIfInBounds_toArray, List.set_cons_zero, List.set_cons_succ]
  refine wpG_take 4 rfl (by kernel_rfl) (fun _ _ _ h => h) rfl (v := ?_) ?_ ?_
  rotate_left
  · (intro w' hG; go_simp; try with_reducible rfl)
  try simp only [Act.put, List.setIfInBounds_toArray, List.set_cons_zero, List.set_cons_succ]
  refine wpG_take 5 rfl (by kernel_rfl) (fun _ _ _ h => h) rfl (v := ?_) ?_ ?_
  rotate_left
  · (intro w' hG; go_simp; try with_reducible rfl)
  try simp only [Act.put, List.setIfInBounds_toArray, List.set_cons_zero, List.set_cons_succ]
  refine wpG_skip 6 rfl (by kernel_rfl) (fun _ _ _ h => h) rfl ?_
  try simp only [Act.put, List.setIfInBounds_toArray, List.set_cons_zero, List.set_cons_succ]
  refine wpG_skip 7 rfl (by kernel_rfl) (fun _ _ _ h => h) rfl ?_
  try simp only [Act.put, List.setIfInBounds_toArray, List.set_cons_zero, List.set_cons_succ]
  refine wpG_skip 8 rfl (by kernel_rfl) (fun _ _ _ h => h) rfl ?_
  try simp only [Act.put, List.setIfInBounds_toArray, List.set_cons_zero, List.set_cons_succ]
  refine wpG_skip 9 rfl (by kernel_rfl) (fun _ _ _ h => h) rfl ?_
  try simp only [Act.put, List.setIfInBounds_toArray, List.set_cons_zero, List.set_cons_succ]
  refine wpG_skip 10 rfl (by kernel_rfl) (fun _ _ _ h => h) rfl ?_
  try simp only [Act.put, List.setIfInBounds_toArray, List.set_cons_zero, List.set_cons_succ]
  refine wpG_skip 11 rfl (by kernel_rfl) (fun _ _ _ h => h) rfl ?_
  try simp only [Act.put, List.setIfInBounds_toArray, List.set_cons_zero, List.set_cons_succ]
  refine wpG_take 12 rfl (by kernel_rfl) (fun _ _ _ h => h) rfl (v := ?_) ?_ ?_
  rotate_left
  · (intro w' hG; go_simp; try with_reducible rfl)
  try simp only [Act.put, List.setIfInBounds_toArray, List.set_cons_zero, List.set_cons_succ]
  refine wpG_take 13 rfl (by kernel_rfl) (fun _ _ _ h => h) rfl (v := ?_) ?_ ?_
  rotate_left
  · (intro w' hG; go_simp; try with_reducible rfl)
  try simp only [Act.put, List.setIfInBounds_toArray, List.set_cons_zero, List.set_cons_succ]
  refine wpG_take 14 rfl (by kernel_rfl) (fun _ _ _ h => h) rfl (v := ?_) ?_ ?_
  rotate_left
  · (intro w' hG; go_simp; try with_reducible rfl)
  try simp only [Act.put, List.setIfInBounds_toArray, List.set_cons_zero, List.set_cons_succ]
  refine wpG_take 15 rfl (by kernel_rfl) (fun _ _ _ h => h) rfl (v := ?_) ?_ ?_
  rotate_left
  · (intro w' hG; go_simp; try with_reducible rfl)
  try simp only [Act.put, List.setIfInBounds_toArray, List.set_cons_zero, List.set_cons_succ]
  refine wpG_take 16 rfl (by kernel_rfl) (fun _ _ _ h => h) rfl (v := ?_) ?_ ?_
  rotate_left
  · (intro w' hG; go_simp; try with_reducible rfl)
  try simp only [Act.put, List.setIfInBounds_toArray, List.set_cons_zero, List.set_cons_succ]
  refine wpG_take 17 rfl (by kernel_rfl) (fun _ _ _ h => h) rfl (v := ?_) ?_ ?_
  rotate_left
  · (intro w' hG; go_simp; try with_reducible rfl)
  try simp only [Act.put, List.setIfInBounds_toArray, List.set_cons_zero, List.set_cons_succ]
  refine wpG_take 18 rfl (by kernel_rfl) (fun _ _ _ h => h) rfl (v := ?_) ?_ ?_
  rotate_left
  · (intro w' hG; go_simp; try with_reducible rfl)
  try simp only [Act.put, List.setIfInBounds_toArray, List.set_cons_zero, List.set_cons_succ]
  refine wpG_take 19 rfl (by kernel_rfl) (fun _ _ _ h => h) rfl (v := ?_) ?_ ?_
  rotate_left
  · (intro w' hG; go_simp; try with_reducible rfl)
  try simp only [Act.put, List.setIfInBounds_toArray, List.set_cons_zero, List.set_cons_succ]
  refine wpG_call 20 rfl (by kernel_rfl) rfl fun K hK => ?_
  go_simp
  refine (same_self noP _).mono ?_
  rintro e w4 ⟨rfl, hbb⟩
  refine hK.out _ _ (hbb) ?_
  clear hK
  try simp only [Act.put, List.setIfInBounds_toArray, List.set_cons_zero, List.set_cons_succ]
  refine wpG_take 21 rfl (by kernel_rfl) (fun _ _ _ h => h) rfl (v := ?_) ?_ ?_
  rotate_left
  · (intro w' hG; go_simp; try with_reducible rfl)
  try simp only [Act.put, List.setIfInBounds_toArray, List.set_cons_zero, List.set_cons_succ]
  refine wpG_take 22 rfl (by kernel_rfl) (fun _ _ _ h => h) rfl (v := ?_) ?_ ?_
  rotate_left
  · (intro w' hG; go_simp; try with_reducible rfl)
  try simp only [Act.put, List.setIfInBounds_toArray, List.set_cons_zero, List.set_cons_succ]
  refine wpG_take 23 rfl (by kernel_rfl) (fun _ _ _ h => h) rfl (v := ?_) ?_ ?_
  rotate_left
  · (intro w' hG; go_simp; try with_reducible rfl)
  try simp only [Act.put, List.setIfInBounds_toArray, List.set_cons_zero, List.set_cons_succ]
  refine wpG_done (by kernel_rfl) ?_ _
  have hb3 : Grow w3 w4 := Grow.of_drew hbb
  have hp4 := hp3.grow (by simp) hb3
  have HW4 := hide (Grow.step (show Grow w w3 from HW3.out) (show Below _ w3 w4 from hb3))
  clear hpc hqc hp3 hq3 HW3 hb3
  have hpc := fun (W : World) (h : Grow w4.drew W) => hp4.grow (by simp) (Grow.of_drew h)
  unfold Holds at hpc
  go_wp2_with fail
  refine wpG_region (by kernel_rfl) ?_
  refine wpG_take 0 rfl (by kernel_rfl) (fun _ _ _ h => h) rfl (v := ?_) ?_ ?_
  rotate_left
  · (intro w' hG; go_simp; try with_reducible rfl)
  try simp only [Act.put, List.setIfInBounds_toArray, List.set_cons_zero, List.set_cons_succ]
  refine wpG_take 2 rfl (by kernel_rfl) (fun _ _ _ h => h) rfl (v := ?_) ?_ ?_
  rotate_left
  · (intro w' hG; go_simp; try with_reducible rfl)
  try simp only [Act.put, List.setIfInBounds_toArray, List.set_cons_zero, List.set_cons_succ]
  refine wpG_call 1 rfl (by kernel_rfl) rfl fun K hK => ?_
  go_simp
  refine (probe_any _ _).mono ?_
  rintro e w5 ⟨rfl, hb5⟩
  refine hK.out _ _ (hb5) ?_
  clear hK
  try simp only [Act.put, List.setIfInBounds_toArray, List.set_cons_zero, List.set_cons_succ]
  refine wpG_call 3 rfl (by kernel_rfl) rfl fun K hK => ?_
  go_simp
  refine (refprobe_any _ _).mono ?_
  rintro e w6 ⟨rfl, hb6⟩
  refine hK.out _ _ (hb6) ?_
  clear hK
  try simp only [Act.put, List.setIfInBounds_toArray, List.set_cons_zero, List.set_cons_succ]
  refine wpG_call 4 rfl (by kernel_rfl) rfl fun K hK => ?_
  go_simp
  refine (same_self _ _).mono ?_
  rintro e w7 ⟨rfl, hb7⟩
  refine hK.out _ _ (hb7) ?_
  clear hK
  try simp only [Act.put, List.setIfInBounds_toArray, List.set_cons_zero, List.set_cons_succ]
  have hq7 : Grow w4.drew w7 := Grow.step (Grow.step hb5 hb6) hb7
  have hpd := fun (W : World) (h : Grow w7 W) => hpc W (Grow.trans hq7 h)
  refine wpG_take 5 rfl (by kernel_rfl) (fun _ _ _ h => h) rfl (v := ?_) ?_ ?_
  rotate_left
  · (intro w' hG; go_simp; try with_reducible rfl)
  try simp only [Act.put, List.setIfInBounds_toArray, List.set_cons_zero, List.set_cons_succ]
  refine wpG_take 6 rfl (by kernel_rfl) (fun _ _ _ h => h) rfl (v := ?_) ?_ ?_
  rotate_left
  · (intro w' hG; go_simp; try with_reducible rfl)
  try simp only [Act.put, List.setIfInBounds_toArray, List.set_cons_zero, List.set_cons_succ]
  refine wpG_take 7 rfl (by kernel_rfl) (fun _ _ _ h => h) rfl (v := ?_) ?_ ?_
  rotate_left
  · (intro w' hG; go_simp; try with_reducible rfl)
  try simp only [Act.put, List.setIfInBounds_toArray, List.set_cons_zero, List.set_cons_succ]
  refine wpG_take 8 rfl (by kernel_rfl) (fun _ _ _ h => h) rfl (v := ?_) ?_ ?_
  rotate_left
  · (intro w' hG; go_simp; try with_reducible rfl)
  try simp only [Act.put, List.setIfInBounds_toArray, List.set_cons_zero, List.set_cons_succ]
  refine wpG_take 10 rfl (by kernel_rfl) (fun _ _ _ h => h) rfl (v := ?_) ?_ ?_
  rotate_left
  · (intro w' hG; go_simp; try with_reducible rfl)
  try simp only [Act.put, List.setIfInBounds_toArray, List.set_cons_zero, List.set_cons_succ]
  refine wpG_take 11 rfl (by kernel_rfl) (fun _ _ _ h => h) rfl (v := ?_) ?_ ?_
  rotate_left
  · (intro w' hG; go_simp; try with_reducible rfl)
  try simp only [Act.put, List.setIfInBounds_toArray, List.set_cons_zero, List.set_cons_succ]
  refine wpG_take 12 rfl (by kernel_rfl) (fun _ _ _ h => h) rfl (v := ?_) ?_ ?_
  rotate_left
  · (intro w' hG; go_simp; try with_reducible rfl)
  try simp only [Act.put, List.setIfInBounds_toArray, List.set_cons_zero, List.set_cons_succ]
  refine wpG_call 9 rfl (by kernel_rfl) rfl fun K hK => ?_
  go_simp
  refine (beacon_any _ _ _ _ _).mono ?_
  rintro e w8 ⟨rfl, hb8⟩
  refine hK.out _ _ (hb8) ?_
  clear hK
  try simp only [Act.put, List.setIfInBounds_toArray, List.set_cons_zero, List.set_cons_succ]
  refine wpG_call 13 rfl (by kernel_rfl) rfl fun K hK => ?_
  go_simp
  refine (refbeacon_any _ _ _ _ _).mono ?_
  rintro e w9 ⟨rfl, hb9⟩
  refine hK.out _ _ (hb9) ?_
  clear hK
  try simp only [Act.put, List.setIfInBounds_toArray, List.set_cons_zero, List.set_cons_succ]
  refine wpG_call 14 rfl (by kernel_rfl) rfl fun K hK => ?_
  go_simp
  refine (same_self _ _).mono ?_
  rintro e w10 ⟨rfl, hb10⟩
  refine hK.out _ _ (hb10) ?_
  clear hK
  try simp only [Act.put, List.setIfInBounds_toArray, List.set_cons_zero, List.set_cons_succ]
  refine wpG_take 15 rfl (by kernel_rfl) (fun _ _ _ h => h) rfl (v := ?_) ?_ ?_
  rotate_left
  · (intro w' hG; go_simp; try with_reducible rfl)
  try simp only [Act.put, List.setIfInBounds_toArray, List.set_cons_zero, List.set_cons_succ]
  refine wpG_take 16 rfl (by kernel_rfl) (fun _ _ _ h => h) rfl (v := ?_) ?_ ?_
  rotate_left
  · (intro w' hG; go_simp; try with_reducible rfl)
  try simp only [Act.put, List.setIfInBounds_toArray, List.set_cons_zero, List.set_cons_succ]
  refine wpG_call 17 rfl (by kernel_rfl) rfl fun K hK => ?_
  go_simp
  refine (works11_any _).mono ?_
  rintro e w11 ⟨rfl, hb11⟩
  refine hK.out _ _ (hb11) ?_
  clear hK
  try simp only [Act.put, List.setIfInBounds_toArray, List.set_cons_zero, List.set_cons_succ]
  refine wpG_take 18 rfl (by kernel_rfl) (fun _ _ _ h => h) rfl (v := ?_) ?_ ?_
  rotate_left
  · (intro w' hG; go_simp; try with_reducible rfl)
  try simp only [Act.put, List.setIfInBounds_toArray, List.set_cons_zero, List.set_cons_succ]
  refine wpG_take 19 rfl (by kernel_rfl) (fun _ _ _ h => h) rfl (v := ?_) ?_ ?_
  rotate_left
  · (intro w' hG; go_simp; try with_reducible rfl)
  try simp only [Act.put, List.setIfInBounds_toArray, List.set_cons_zero, List.set_cons_succ]
  refine wpG_done (by kernel_rfl) ?_ _
  go_wp2
  go_ret
  exact ⟨rfl, Grow.trans (Grow.trans (show Grow w w4 from HW4.out) (Grow.of_drew hq7)) (Grow.trans (Grow.step (Grow.trans hb8 hb9) hb10) hb11)⟩
set_option maxRecDepth 100000 in
set_option maxHeartbeats 4000000 in
theorem pulseNew_not (s v : Int) (p : Pkt) (A : Option Addr) (l : List UInt8) (c : Nat) (w : World) (hl : Bytes w A l) (h1 : p.kind ≠ 1) :
    Calls Try.prog 20 #[.int .i64 s, .int .i64 v, pv p A l.length c] w fun e w' => e = .returned (.bool true) ∧ Grow w w' := by
  obtain ⟨hp0, hb0⟩ := one_box w (pcells p A l.length c) 65
  have hl0 := hl.grow hb0
  have k1 : (p.kind == 1) = false := by simpa using h1
  have HE := hide (fun W hW => echo_no p A l c v W hW (by simp [isProbe, k1]))
  clear h1
  go_enter Try.func20, Try.ntmps20
  go_wp2_with fail
  refine (HE.out _ hl0).mono ?_
  rintro e w1 ⟨rfl, hb1⟩
  have hp1 := hp0.grow (by simp) hb1
  have hlt1 : w.heap.size < w1.heap.size := by have := hb1.size; simp at this; omega
  have hl1 := (hl0.grow hb1)
  have hpx := hp1
  unfold Holds at hpx
  have HW1 := hide (Grow.step hb0 hb1)
  clear hp0 hb0 hl hl0 hb1
  go_wp2_with fail
  generalize hw3 : w1.alloc (.cells (pcells noP none 0 0) 65) = w3
  have hp3 : Holds w3 w.heap.size (pcells p A l.length c) := by rw [← hw3]; exact hp1.grow (by simp) ((Grow.refl w1).alloc _)
  have hq3 : Holds w3 w1.heap.size (pcells noP none 0 0) := by rw [← hw3]; exact Holds.new w1 _ _ (0, 0) rfl
  have HW3 : Hid (Grow w w3) := by rw [← hw3]; exact (show Grow w w1 from HW1.out).alloc _
  have hl3 : Bytes w3 A l := by rw [← hw3]; exact hl1.alloc _
  clear hp1 hl1 hpx HW1 hw3
  have hpc := fun (W : World) (h : Grow w3.drew W) => hp3.grow (by simp) (Grow.of_drew h)
  have hqc := fun (W : World) (h : Grow w3.drew W) => hq3.grow (by simp) (Grow.of_drew h)
  unfold Holds at hpc hqc
  refine wpG_region (by kernel_rfl) ?_
  refine wpG_take 0 rfl (by kernel_rfl) (fun _ _ _ h => h) rfl (v := ?_) ?_ ?_
  rotate_left
  · (intro w' hG; go_simp; try with_reducible rfl)
  try simp only [Act.put, List.setIfInBounds_toArray, List.set_cons_zero, List.set_cons_succ]
  refine wpG_take 1 rfl (by kernel_rfl) (fun _ _ _ h => h) rfl (v := ?_) ?_ ?_
  rotate_left
  · (intro w' hG; go_simp; try with_reducible rfl)
  try simp only [Act.put, List.setIfInBounds_toArray, List.set_cons_zero, List.set_cons_succ]
  refine wpG_take 2 rfl (by kernel_rfl) (fun _ _ _ h => h) rfl (v := ?_) ?_ ?_
  rotate_left
  · (intro w' hG; go_simp; try with_reducible rfl)
  try simp only [Act.put, List.setIfInBounds_toArray, List.set_cons_zero, List.set_cons_succ]
  refine wpG_take 3 rfl (by kernel_rfl) (fun _ _ _ h => h) rfl (v := ?_) ?_ ?_
  rotate_left
  · (intro w' hG; go_simp; try with_reducible rfl)
  try simp only [Act.put, List.setIfInBounds_toArray, List.set_cons_zero, List.set_cons_succ]
  refine wpG_take 4 rfl (by kernel_rfl) (fun _ _ _ h => h) rfl (v := ?_) ?_ ?_
  rotate_left
  · (intro w' hG; go_simp; try with_reducible rfl)
  try simp only [Act.put, List.setIfInBounds_toArray, List.set_cons_zero, List.set_cons_succ]
  refine wpG_take 5 rfl (by kernel_rfl) (fun _ _ _ h => h) rfl (v := ?_) ?_ ?_
  rotate_left
  · (intro w' hG; go_simp; try with_reducible rfl)
  try simp only [Act.put, List.setIfInBounds_toArray, List.set_cons_zero, List.set_cons_succ]
  refine wpG_skip 6 rfl (by kernel_rfl) (fun _ _ _ h => h) rfl ?_
  try simp only [Act.put, List.setIfInBounds_toArray, List.set_cons_zero, List.set_cons_succ]
  refine wpG_skip 7 rfl (by kernel_rfl) (fun _ _ _ h => h) rfl ?_
  try simp only [Act.put, List.setIfInBounds_toArray, List.set_cons_zero, List.set_cons_succ]
  refine wpG_skip 8 rfl (by kernel_rfl) (fun _ _ _ h => h) rfl ?_
  try simp only [Act.put, List.setIfInBounds_toArray, List.set_cons_zero, List.set_cons_succ]
  refine wpG_skip 9 rfl (by kernel_rfl) (fun _ _ _ h => h) rfl ?_
  try simp only [Act.put, List.setIfInBounds_toArray, List.set_cons_zero, List.set_cons_succ]
  refine wpG_skip 10 rfl (by kernel_rfl) (fun _ _ _ h => h) rfl ?_
  try simp only [Act.put, List.setIfInBounds_toArray, List.set_cons_zero, List.set_cons_succ]
  refine wpG_skip 11 rfl (by kernel_rfl) (fun _ _ _ h => h) rfl ?_
  try simp only [Act.put, List.setIfInBounds_toArray, List.set_cons_zero, List.set_cons_succ]
  refine wpG_take 12 rfl (by kernel_rfl) (fun _ _ _ h => h) rfl (v := ?_) ?_ ?_
  rotate_left
  · (intro w' hG; go_simp; try with_reducible rfl)
  try simp only [Act.put, List.setIfInBounds_toArray, List.set_cons_zero, List.set_cons_succ]
  refine wpG_take 13 rfl (by kernel_rfl) (fun _ _ _ h => h) rfl (v := ?_) ?_ ?_
  rotate_left
  · (intro w' hG; go_simp; try with_reducible rfl)
  try simp only [Act.put, List.setIfInBounds_toArray, List.set_cons_zero, List.set_cons_succ]
  refine wpG_take 14 rfl (by kernel_rfl) (fun _ _ _ h => h) rfl (v := ?_) ?_ ?_
  rotate_left
  · (intro w' hG; go_simp; try with_reducible rfl)
  try simp only [Act.put, List.setIfInBounds_toArray, List.set_cons_zero, List.set_cons_succ]
  refine wpG_take 15 rfl (by kernel_rfl) (fun _ _ _ h => h) rfl (v := ?_) ?_ ?_
  rotate_left
  · (intro w' hG; go_simp; try with_reducible rfl)
  try simp only [Act.put, List.setIfInBounds_toArray, List.set_cons_zero, List.set_cons_succ]
  refine wpG_take 16 rfl (by kernel_rfl) (fun _ _ _ h => h) rfl (v := ?_) ?_ ?_
  rotate_left
  · (intro w' hG; go_simp; try with_reducible rfl)
  try simp only [Act.put, List.setIfInBounds_toArray, List.set_cons_zero, List.set_cons_succ]
  refine wpG_take 17 rfl (by kernel_rfl) (fun _ _ _ h => h) rfl (v := ?_) ?_ ?_
  rotate_left
  · (intro w' hG; go_simp; try with_reducible rfl)
  try simp only [Act.put, List.setIfInBounds_toArray, List.set_cons_zero, List.set_cons_succ]
  refine wpG_take 18 rfl (by kernel_rfl) (fun _ _ _ h => h) rfl (v := ?_) ?_ ?_
  rotate_left
  · (intro w' hG; go_simp; try with_reducible rfl)
  try simp only [Act.put, List.setIfInBounds_toArray, List.set_cons_zero, List.set_cons_succ]
  refine wpG_take 19 rfl (by kernel_rfl) (fun _ _ _ h => h) rfl (v := ?_) ?_ ?_
  rotate_left
  · (intro w' hG; go_simp; try with_reducible rfl)
  try simp only [Act.put, List.setIfInBounds_toArray, List.set_cons_zero, List.set_cons_succ]
  refine wpG_call 20 rfl (by kernel_rfl) rfl fun K hK => ?_
  go_simp
  refine (same_self noP _).mono ?_
  rintro e w4 ⟨rfl, hbb⟩
  refine hK.out _ _ (hbb) ?_
  clear hK
  try simp only [Act.put, List.setIfInBounds_toArray, List.set_cons_zero, List.set_cons_succ]
  refine wpG_take 21 rfl (by kernel_rfl) (fun _ _ _ h => h) rfl (v := ?_) ?_ ?_
  rotate_left
  · (intro w' hG; go_simp; try with_reducible rfl)
  try simp only [Act.put, List.setIfInBounds_toArray, List.set_cons_zero, List.set_cons_succ]
  refine wpG_take 22 rfl (by kernel_rfl) (fun _ _ _ h => h) rfl (v := ?_) ?_ ?_
  rotate_left
  · (intro w' hG; go_simp; try with_reducible rfl)
  try simp only [Act.put, List.setIfInBounds_toArray, List.set_cons_zero, List.set_cons_succ]
  refine wpG_take 23 rfl (by kernel_rfl) (fun _ _ _ h => h) rfl (v := ?_) ?_ ?_
  rotate_left
  · (intro w' hG; go_simp; try with_reducible rfl)
  try simp only [Act.put, List.setIfInBounds_toArray, List.set_cons_zero, List.set_cons_succ]
  refine wpG_done (by kernel_rfl) ?_ _
  have hb3 : Grow w3 w4 := Grow.of_drew hbb
  have hp4 := hp3.grow (by simp) hb3
  have HW4 := hide (Grow.step (show Grow w w3 from HW3.out) (show Below _ w3 w4 from hb3))
  clear hpc hqc hp3 hq3 HW3 hb3
  have hpc := fun (W : World) (h : Grow w4.drew W) => hp4.grow (by simp) (Grow.of_drew h)
  unfold Holds at hpc
  go_wp2_with fail
  refine wpG_region (by kernel_rfl) ?_
  refine wpG_take 0 rfl (by kernel_rfl) (fun _ _ _ h => h) rfl (v := ?_) ?_ ?_
  rotate_left
  · (intro w' hG; go_simp; try with_reducible rfl)
  try simp only [Act.put, List.setIfInBounds_toArray, List.set_cons_zero, List.set_cons_succ]
  refine wpG_take 2 rfl (by kernel_rfl) (fun _ _ _ h => h) rfl (v := ?_) ?_ ?_
  rotate_left
  · (intro w' hG; go_simp; try with_reducible rfl)
  try simp only [Act.put, List.setIfInBounds_toArray, List.set_cons_zero, List.set_cons_succ]
  refine wpG_call 1 rfl (by kernel_rfl) rfl fun K hK => ?_
  go_simp
  refine (probe_any _ _).mono ?_
  rintro e w5 ⟨rfl, hb5⟩
  refine hK.out _ _ (hb5) ?_
  clear hK
  try simp only [Act.put, List.setIfInBounds_toArray, List.set_cons_zero, List.set_cons_succ]
  refine wpG_call 3 rfl (by kernel_rfl) rfl fun K hK => ?_
  go_simp
  refine (refprobe_any _ _).mono ?_
  rintro e w6 ⟨rfl, hb6⟩
  refine hK.out _ _ (hb6) ?_
  clear hK
  try simp only [Act.put, List.setIfInBounds_toArray, List.set_cons_zero, List.set_cons_succ]
  refine wpG_call 4 rfl (by kernel_rfl) rfl fun K hK => ?_
  go_simp
  refine (same_self _ _).mono ?_
  rintro e w7 ⟨rfl, hb7⟩
  refine hK.out _ _ (hb7) ?_
  clear hK
  try simp only [Act.put, List.setIfInBounds_toArray, List.set_cons_zero, List.set_cons_succ]
  have hq7 : Grow w4.drew w7 := Grow.step (Grow.step hb5 hb6) hb7
  have hpd := fun (W : World) (h : Grow w7 W) => hpc W (Grow.trans hq7 h)
  refine wpG_take 5 rfl (by kernel_rfl) (fun _ _ _ h => h) rfl (v := ?_) ?_ ?_
  rotate_left
  · (intro w' hG; go_simp; try with_reducible rfl)
  try simp only [Act.put, List.setIfInBounds_toArray, List.set_cons_zero, List.set_cons_succ]
  refine wpG_take 6 rfl (by kernel_rfl) (fun _ _ _ h => h) rfl (v := ?_) ?_ ?_
  rotate_left
  · (intro w' hG; go_simp; try with_reducible rfl)
  try simp only [Act.put, List.setIfInBounds_toArray, List.set_cons_zero, List.set_cons_succ]
  refine wpG_take 7 rfl (by kernel_rfl) (fun _ _ _ h => h) rfl (v := ?_) ?_ ?_
  rotate_left
  · (intro w' hG; go_simp; try with_reducible rfl)
  try simp only [Act.put, List.setIfInBounds_toArray, List.set_cons_zero, List.set_cons_succ]
  refine wpG_take 8 rfl (by kernel_rfl) (fun _ _ _ h => h) rfl (v := ?_) ?_ ?_
  rotate_left
  · (intro w' hG; go_simp; try with_reducible rfl)
  try simp only [Act.put, List.setIfInBounds_toArray, List.set_cons_zero, List.set_cons_succ]
  refine wpG_take 10 rfl (by kernel_rfl) (fun _ _ _ h => h) rfl (v := ?_) ?_ ?_
  rotate_left
  · (intro w' hG; go_simp; try with_reducible rfl)
  try simp only [Act.put, List.setIfInBounds_toArray, List.set_cons_zero, List.set_cons_succ]
  refine wpG_take 11 rfl (by kernel_rfl) (fun _ _ _ h => h) rfl (v := ?_) ?_ ?_
  rotate_left
  · (intro w' hG; go_simp; try with_reducible rfl)
  try simp only [Act.put, List.setIfInBounds_toArray, List.set_cons_zero, List.set_cons_succ]
  refine wpG_take 12 rfl (by kernel_rfl) (fun _ _ _ h => h) rfl (v := ?_) ?_ ?_
  rotate_left
  · (intro w' hG; go_simp; try with_reducible rfl)
  try simp only [Act.put, List.setIfInBounds_toArray, List.set_cons_zero, List.set_cons_succ]
  refine wpG_call 9 rfl (by kernel_rfl) rfl fun K hK => ?_
  go_simp
  refine (beacon_any _ _ _ _ _).mono ?_
  rintro e w8 ⟨rfl, hb8⟩
  refine hK.out _ _ (hb8) ?_
  clear hK
  try simp only [Act.put, List.setIfInBounds_toArray, List.set_cons_zero, List.set_cons_succ]
  refine wpG_call 13 rfl (by kernel_rfl) rfl fun K hK => ?_
  go_simp
  refine (refbeacon_any _ _ _ _ _).mono ?_
  rintro e w9 ⟨rfl, hb9⟩
  refine hK.out _ _ (hb9) ?_
  clear hK
  try simp only [Act.put, List.setIfInBounds_toArray, List.set_cons_zero, List.set_cons_succ]
  refine wpG_call 14 rfl (by kernel_rfl) rfl fun K hK => ?_
  go_simp
  refine (same_self _ _).mono ?_
  rintro e w10 ⟨rfl, hb10⟩
  refine hK.out _ _ (hb10) ?_
  clear hK
  try simp only [Act.put, List.setIfInBounds_toArray, List.set_cons_zero, List.set_cons_succ]
  refine wpG_take 15 rfl (by kernel_rfl) (fun _ _ _ h => h) rfl (v := ?_) ?_ ?_
  rotate_left
  · (intro w' hG; go_simp; try with_reducible rfl)
  try simp only [Act.put, List.setIfInBounds_toArray, List.set_cons_zero, List.set_cons_succ]
  refine wpG_take 16 rfl (by kernel_rfl) (fun _ _ _ h => h) rfl (v := ?_) ?_ ?_
  rotate_left
  · (intro w' hG; go_simp; try with_reducible rfl)
  try simp only [Act.put, List.setIfInBounds_toArray, List.set_cons_zero, List.set_cons_succ]
  refine wpG_call 17 rfl (by kernel_rfl) rfl fun K hK => ?_
  go_simp
  refine (works11_any _).mono ?_
  rintro e w11 ⟨rfl, hb11⟩
  refine hK.out _ _ (hb11) ?_
  clear hK
  try simp only [Act.put, List.setIfInBounds_toArray, List.set_cons_zero, List.set_cons_succ]
  refine wpG_take 18 rfl (by kernel_rfl) (fun _ _ _ h => h) rfl (v := ?_) ?_ ?_
  rotate_left
  · (intro w' hG; go_simp; try with_reducible rfl)
  try simp only [Act.put, List.setIfInBounds_toArray, List.set_cons_zero, List.set_cons_succ]
  refine wpG_take 19 rfl (by kernel_rfl) (fun _ _ _ h => h) rfl (v := ?_) ?_ ?_
  rotate_left
  · (intro w' hG; go_simp; try with_reducible rfl)
  try simp only [Act.put, List.setIfInBounds_toArray, List.set_cons_zero, List.set_cons_succ]
  refine wpG_done (by kernel_rfl) ?_ _
  go_wp2
  go_ret
  exact ⟨rfl, Grow.trans (Grow.trans (show Grow w w4 from HW4.out) (Grow.of_drew hq7)) (Grow.trans (Grow.step (Grow.trans hb8 hb9) hb10) hb11)⟩
theorem pulseNew_any (s v : Int) (p : Pkt) (A : Option Addr) (l : List UInt8) (c : Nat) (w : World) (hl : Bytes w A l) :
    Calls Try.prog 20 #[.int .i64 s, .int .i64 v, pv p A l.length c] w fun e w' => e = .returned (.bool true) ∧ Grow w w' := by
  by_cases h1 : p.kind = 1
  · cases h2 : pulseB p l with
    | true => exact pulseNew_yes s v p A l c w hl h1 h2
    | false => exact pulseNew_no s v p A l c w hl h1 h2
  · exact pulseNew_not s v p A l c w hl h1
end Go.Proofs.Ytldgnallbkpchaa

