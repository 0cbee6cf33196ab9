/- The walks of the statements of chapter 11: PulseGood, PulseEchoes. -/
import Derived.Test.YtldgnallbkpchaaPulseL
namespace Go.Proofs.Ytldgnallbkpchaa
open Go.RowKit
set_option maxRecDepth 100000 in
set_option maxHeartbeats 4000000 in
theorem pulseGood_any (p : Pkt) (A : Option Addr) (l : List UInt8) (c : Nat) (w : World) (hl : Bytes w A l) :
    Calls Try.prog 18 #[pv p A l.length c] w fun e w' => e = .returned (.bool true) ∧ Grow w w' := by
  obtain ⟨hp0, hb0⟩ := one_box w (pcells p A l.length c) 65
  have hp0' : ∀ W, Grow (w.alloc (.cells (pcells p A l.length c) 65)) W → Holds W w.heap.size (pcells p A l.length c) := fun W h => hp0.grow (by simp) h
  have hl0 := hl.grow hb0
  generalize hb : pulseB p l = b
  have HG := hide (fun W hW => pulsegood_any p A l c W hW)
  have HR := hide (fun W hW => refpulsegood_any p A l c W hW)
  rw [hb] at HG HR
  go_enter Try.func18, Try.ntmps18
  have hpc := fun (W : World) (h : Grow (w.alloc (.cells (pcells p A l.length c) 65)).drew W) => hp0' W (Grow.of_drew h)
  unfold Holds at hpc
  go_wp2_with fail
  refine wpG_region (by kernel_rfl) ?_
  refine wpG_take 0 rfl (by kernel_rfl) (fun _ _ _ h => h) rfl (v := ?_) ?_ ?_
  rotate_left
  · (intro w' hG; go_simp; try with_reducible rfl)
  try simp only [Act.put, List.setIfInBounds_toArray, List.set_cons_zero, List.set_cons_succ]
  refine wpG_take 2 rfl (by kernel_rfl) (fun _ _ _ h => h) rfl (v := ?_) ?_ ?_
  rotate_left
  · (intro w' hG; go_simp; try with_reducible rfl)
  try simp only [Act.put, List.setIfInBounds_toArray, List.set_cons_zero, List.set_cons_succ]
  refine wpG_call 1 rfl (by kernel_rfl) rfl fun K hK => ?_
  go_simp
  refine (HG.out _ hl0.drew).mono ?_
  rintro e w1 ⟨rfl, hb1⟩
  refine hK.out _ _ (hb1) ?_
  clear hK
  try simp only [Act.put, List.setIfInBounds_toArray, List.set_cons_zero, List.set_cons_succ]
  refine wpG_call 3 rfl (by kernel_rfl) rfl fun K hK => ?_
  go_simp
  refine (HR.out _ (hl0.drew.grow hb1)).mono ?_
  rintro e w2 ⟨rfl, hb2⟩
  refine hK.out _ _ (hb2) ?_
  clear hK
  try simp only [Act.put, List.setIfInBounds_toArray, List.set_cons_zero, List.set_cons_succ]
  refine wpG_take 4 rfl (by kernel_rfl) (fun _ _ _ h => h) rfl (v := ?_) ?_ ?_
  rotate_left
  · (intro w' hG; go_simp; try with_reducible rfl)
  try simp only [Act.put, List.setIfInBounds_toArray, List.set_cons_zero, List.set_cons_succ]
  refine wpG_take 5 rfl (by kernel_rfl) (fun _ _ _ h => h) rfl (v := ?_) ?_ ?_
  rotate_left
  · (intro w' hG; go_simp; try with_reducible rfl)
  try simp only [Act.put, List.setIfInBounds_toArray, List.set_cons_zero, List.set_cons_succ]
  refine wpG_call 6 rfl (by kernel_rfl) rfl fun K hK => ?_
  go_simp
  refine (works11_any _).mono ?_
  rintro e w3 ⟨rfl, hb3⟩
  refine hK.out _ _ (hb3) ?_
  clear hK
  try simp only [Act.put, List.setIfInBounds_toArray, List.set_cons_zero, List.set_cons_succ]
  refine wpG_take 7 rfl (by kernel_rfl) (fun _ _ _ h => h) rfl (v := ?_) ?_ ?_
  rotate_left
  · (intro w' hG; go_simp; try with_reducible rfl)
  try simp only [Act.put, List.setIfInBounds_toArray, List.set_cons_zero, List.set_cons_succ]
  refine wpG_take 8 rfl (by kernel_rfl) (fun _ _ _ h => h) rfl (v := ?_) ?_ ?_
  rotate_left
  · (intro w' hG; go_simp; try with_reducible rfl)
  try simp only [Act.put, List.setIfInBounds_toArray, List.set_cons_zero, List.set_cons_succ]
  refine wpG_done (by kernel_rfl) ?_ _
  go_wp2
  go_ret
  exact ⟨rfl, fin_ hb3 (Grow.step (hb0.trans (Grow.of_drew hb1)) hb2)⟩
end Go.Proofs.Ytldgnallbkpchaa
