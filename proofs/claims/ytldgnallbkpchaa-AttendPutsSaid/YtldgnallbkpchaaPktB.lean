/- Whether two packets are the same, as the program has it. -/
import Derived.Test.YtldgnallbkpchaaPktSame
namespace Go.Proofs.Ytldgnallbkpchaa
open Go.RowKit
set_option maxHeartbeats 400000 in
theorem beq_any (A B : Option Addr) (l m : List UInt8) (c d : Nat) (w : World) (hl : Bytes w A l) (hm : Bytes w B m) :
    Calls Try.prog 151 #[.slice A l.length c, .slice B m.length d] w fun e w' => e = .returned (.bool (l == m)) ∧ w = w' := by
  have hc1 := conv_any c hl
  have hc2 := conv_any d hm
  clear hl hm
  go_enter Try.func151, Try.ntmps151
  go_wp2
  go_ret
  exact ⟨ret_bool (by simp), rfl⟩
/-- old cells in a grown world: a rule -/
theorem grow_cell {W W' : World} (h : Grow W W') (b o : Nat) (hb : b < W.heap.size) : W'.cell? ⟨b, o, none⟩ = W.cell? ⟨b, o, none⟩ := Below.cell (p := ⟨b, o, none⟩) h hb
set_option maxRecDepth 100000 in
set_option maxHeartbeats 2000000 in
theorem same_any (p q : Pkt) (A B : Option Addr) (l m : List UInt8) (c d : Nat) (w : World) (hl : Bytes w A l) (hm : Bytes w B m) :
    Calls Try.prog 63 #[pv p A l.length c, pv q B m.length d] w fun e w' => e = .returned (.bool (sameB p q && l == m)) ∧ Below w.heap.size w w' := by
  obtain ⟨hp, hq, hG⟩ := two_boxes w (pcells p A l.length c) (pcells q B m.length d) 65 65 (by simp)
  have hl := hl.grow hG
  have hm := hm.grow hG
  by_cases h1 : restB p q = true
  · have hr := fun W => run_eqRest p q W
    simp only [h1] at hr
    by_cases h2 : keyEq p q = true
    · have hk := fun W => run_eqKey p q W
      simp only [h2] at hk
      have HS := hide (show sameB p q = true by simp [sameB, h1, h2])
      clear h1 h2
      go_enter Try.func63, Try.ntmps63
      go_wp2_with fail
      generalize World.alloc (World.alloc w _) _ = W0 at *
      have hpc := fun (W : World) (h : Grow W0.drew W) => hp.grow (by simp) (Grow.of_drew h)
      have hqc := fun (W : World) (h : Grow W0.drew W) => hq.grow (by simp) (Grow.of_drew h)
      unfold Holds at hpc hqc
      clear hp hq
      refine wpG_region (by kernel_rfl) ?_
      refine wpG_take 0 rfl (by kernel_rfl) (fun _ _ _ h => h) rfl (v := ?_) ?_ ?_
      rotate_left
      · (intro w' hG; go_simp; try with_reducible rfl)
      try simp only [Act.put, List.setIfInBounds_toArray, List.set_cons_zero, List.set_cons_succ]
      refine wpG_take 2 rfl (by kernel_rfl) (fun _ _ _ h => h) rfl (v := ?_) ?_ ?_
      rotate_left
      · (intro w' hG; go_simp; try with_reducible rfl)
      try simp only [Act.put, List.setIfInBounds_toArray, List.set_cons_zero, List.set_cons_succ]
      refine wpG_call 1 rfl (by kernel_rfl) rfl fun K hK => ?_
      go_simp
      refine (rest_any p A l.length c _).mono ?_
      rintro e w1 ⟨rfl, hb1⟩
      refine hK.out _ _ (hb1) ?_
      clear hK
      try simp only [Act.put, List.setIfInBounds_toArray, List.set_cons_zero, List.set_cons_succ]
      have hg1 : Grow W0.drew w1 := hb1
      have hqc := fun (W : World) (h : Grow w1 W) => hqc W (hg1.trans h)
      have hpc := fun (W : World) (h : Grow w1 W) => hpc W (hg1.trans h)
      refine wpG_call 3 rfl (by kernel_rfl) rfl fun K hK => ?_
      go_simp
      refine (rest_any q B m.length d _).mono ?_
      rintro e w2 ⟨rfl, hb2⟩
      refine hK.out _ _ (hb2) ?_
      clear hK
      try simp only [Act.put, List.setIfInBounds_toArray, List.set_cons_zero, List.set_cons_succ]
      have hg2 : Grow w1 w2 := hb2
      have hqc := fun (W : World) (h : Grow w2 W) => hqc W (hg2.trans h)
      have hpc := fun (W : World) (h : Grow w2 W) => hpc W (hg2.trans h)
      refine wpG_take 4 rfl (by kernel_rfl) (fun _ _ _ h => h) rfl (v := ?_) ?_ ?_
      rotate_left
      · (intro w' hG; go_simp; try with_reducible rfl)
      try simp only [Act.put, List.setIfInBounds_toArray, List.set_cons_zero, List.set_cons_succ]
      refine wpG_take 5 rfl (by kernel_rfl) (fun _ _ _ h => h) rfl (v := ?_) ?_ ?_
      rotate_left
      · (intro w' hG; go_simp; try with_reducible rfl)
      try simp only [Act.put, List.setIfInBounds_toArray, List.set_cons_zero, List.set_cons_succ]
      refine wpG_take 6 rfl (by kernel_rfl) (fun _ _ _ h => h) rfl (v := ?_) ?_ ?_
      rotate_left
      · (intro w' hG; go_simp; try with_reducible rfl)
      try simp only [Act.put, List.setIfInBounds_toArray, List.set_cons_zero, List.set_cons_succ]
      refine wpG_take 7 rfl (by kernel_rfl) (fun _ _ _ h => h) rfl (v := ?_) ?_ ?_
      rotate_left
      · (intro w' hG; go_simp; try with_reducible rfl)
      try simp only [Act.put, List.setIfInBounds_toArray, List.set_cons_zero, List.set_cons_succ]
      refine wpG_take 8 rfl (by kernel_rfl) (fun _ _ _ h => h) rfl (v := ?_) ?_ ?_
      rotate_left
      · (intro w' hG; go_simp; try with_reducible rfl)
      try simp only [Act.put, List.setIfInBounds_toArray, List.set_cons_zero, List.set_cons_succ]
      refine wpG_take 9 rfl (by kernel_rfl) (fun _ _ _ h => h) rfl (v := ?_) ?_ ?_
      rotate_left
      · (intro w' hG; go_simp; try with_reducible rfl)
      try simp only [Act.put, List.setIfInBounds_toArray, List.set_cons_zero, List.set_cons_succ]
      refine wpG_take 10 rfl (by kernel_rfl) (fun _ _ _ h => h) rfl (v := ?_) ?_ ?_
      rotate_left
      · (intro w' hG; go_simp; try with_reducible rfl)
      try simp only [Act.put, List.setIfInBounds_toArray, List.set_cons_zero, List.set_cons_succ]
      refine wpG_take 11 rfl (by kernel_rfl) (fun _ _ _ h => h) rfl (v := ?_) ?_ ?_
      rotate_left
      · (intro w' hG; go_simp; try with_reducible rfl)
      try simp only [Act.put, List.setIfInBounds_toArray, List.set_cons_zero, List.set_cons_succ]
      refine wpG_take 12 rfl (by kernel_rfl) (fun _ _ _ h => h) rfl (v := ?_) ?_ ?_
      rotate_left
      · (intro w' hG; go_simp; try with_reducible rfl)
      try simp only [Act.put, List.setIfInBounds_toArray, List.set_cons_zero, List.set_cons_succ]
      refine wpG_take 13 rfl (by kernel_rfl) (fun _ _ _ h => h) rfl (v := ?_) ?_ ?_
      rotate_left
      · (intro w' hG; go_simp; try with_reducible rfl)
      try simp only [Act.put, List.setIfInBounds_toArray, List.set_cons_zero, List.set_cons_succ]
      refine wpG_take 14 rfl (by kernel_rfl) (fun _ _ _ h => h) rfl (v := ?_) ?_ ?_
      rotate_left
      · (intro w' hG; go_simp; try with_reducible rfl)
      try simp only [Act.put, List.setIfInBounds_toArray, List.set_cons_zero, List.set_cons_succ]
      refine wpG_take 15 rfl (by kernel_rfl) (fun _ _ _ h => h) rfl (v := ?_) ?_ ?_
      rotate_left
      · (intro w' hG; go_simp; try with_reducible rfl)
      try simp only [Act.put, List.setIfInBounds_toArray, List.set_cons_zero, List.set_cons_succ]
      refine wpG_take 16 rfl (by kernel_rfl) (fun _ _ _ h => h) rfl (v := ?_) ?_ ?_
      rotate_left
      · (intro w' hG; go_simp; try with_reducible rfl)
      try simp only [Act.put, List.setIfInBounds_toArray, List.set_cons_zero, List.set_cons_succ]
      refine wpG_call 17 rfl (by kernel_rfl) rfl fun K hK => ?_
      go_simp
      refine (beq_any A B l m c d _ (hl.drew.grow (hg1.trans hg2)) (hm.drew.grow (hg1.trans hg2))).mono ?_
      rintro e w3 ⟨rfl, rfl⟩
      refine hK.out _ _ (Grow.refl _) ?_
      clear hK
      try simp only [Act.put, List.setIfInBounds_toArray, List.set_cons_zero, List.set_cons_succ]
      refine wpG_take 18 rfl (by kernel_rfl) (fun _ _ _ h => h) rfl (v := ?_) ?_ ?_
      rotate_left
      · (intro w' hG; go_simp; try with_reducible rfl)
      try simp only [Act.put, List.setIfInBounds_toArray, List.set_cons_zero, List.set_cons_succ]
      refine wpG_take 19 rfl (by kernel_rfl) (fun _ _ _ h => h) rfl (v := ?_) ?_ ?_
      rotate_left
      · (intro w' hG; go_simp; try with_reducible rfl)
      try simp only [Act.put, List.setIfInBounds_toArray, List.set_cons_zero, List.set_cons_succ]
      refine wpG_done (by kernel_rfl) ?_ _
      go_wp2
      go_ret
      exact ⟨ret_bool (by rw [HS.out]; simp), (hG.trans (Grow.of_drew hg1)).trans hg2⟩
    · have h2 : keyEq p q = false := by simpa using h2
      have hk := fun W => run_eqKey p q W
      simp only [h2] at hk
      have HS := hide (show sameB p q = false by simp [sameB, h1, h2])
      clear h1 h2
      go_enter Try.func63, Try.ntmps63
      go_wp2_with fail
      generalize World.alloc (World.alloc w _) _ = W0 at *
      have hpc := fun (W : World) (h : Grow W0.drew W) => hp.grow (by simp) (Grow.of_drew h)
      have hqc := fun (W : World) (h : Grow W0.drew W) => hq.grow (by simp) (Grow.of_drew h)
      unfold Holds at hpc hqc
      clear hp hq
      refine wpG_region (by kernel_rfl) ?_
      refine wpG_take 0 rfl (by kernel_rfl) (fun _ _ _ h => h) rfl (v := ?_) ?_ ?_
      rotate_left
      · (intro w' hG; go_simp; try with_reducible rfl)
      try simp only [Act.put, List.setIfInBounds_toArray, List.set_cons_zero, List.set_cons_succ]
      refine wpG_take 2 rfl (by kernel_rfl) (fun _ _ _ h => h) rfl (v := ?_) ?_ ?_
      rotate_left
      · (intro w' hG; go_simp; try with_reducible rfl)
      try simp only [Act.put, List.setIfInBounds_toArray, List.set_cons_zero, List.set_cons_succ]
      refine wpG_call 1 rfl (by kernel_rfl) rfl fun K hK => ?_
      go_simp
      refine (rest_any p A l.length c _).mono ?_
      rintro e w1 ⟨rfl, hb1⟩
      refine hK.out _ _ (hb1) ?_
      clear hK
      try simp only [Act.put, List.setIfInBounds_toArray, List.set_cons_zero, List.set_cons_succ]
      have hg1 : Grow W0.drew w1 := hb1
      have hqc := fun (W : World) (h : Grow w1 W) => hqc W (hg1.trans h)
      have hpc := fun (W : World) (h : Grow w1 W) => hpc W (hg1.trans h)
      refine wpG_call 3 rfl (by kernel_rfl) rfl fun K hK => ?_
      go_simp
      refine (rest_any q B m.length d _).mono ?_
      rintro e w2 ⟨rfl, hb2⟩
      refine hK.out _ _ (hb2) ?_
      clear hK
      try simp only [Act.put, List.setIfInBounds_toArray, List.set_cons_zero, List.set_cons_succ]
      have hg2 : Grow w1 w2 := hb2
      have hqc := fun (W : World) (h : Grow w2 W) => hqc W (hg2.trans h)
      have hpc := fun (W : World) (h : Grow w2 W) => hpc W (hg2.trans h)
      refine wpG_take 4 rfl (by kernel_rfl) (fun _ _ _ h => h) rfl (v := ?_) ?_ ?_
      rotate_left
      · (intro w' hG; go_simp; try with_reducible rfl)
      try simp only [Act.put, List.setIfInBounds_toArray, List.set_cons_zero, List.set_cons_succ]
      refine wpG_take 5 rfl (by kernel_rfl) (fun _ _ _ h => h) rfl (v := ?_) ?_ ?_
      rotate_left
      · (intro w' hG; go_simp; try with_reducible rfl)
      try simp only [Act.put, List.setIfInBounds_toArray, List.set_cons_zero, List.set_cons_succ]
      refine wpG_take 6 rfl (by kernel_rfl) (fun _ _ _ h => h) rfl (v := ?_) ?_ ?_
      rotate_left
      · (intro w' hG; go_simp; try with_reducible rfl)
      try simp only [Act.put, List.setIfInBounds_toArray, List.set_cons_zero, List.set_cons_succ]
      refine wpG_take 7 rfl (by kernel_rfl) (fun _ _ _ h => h) rfl (v := ?_) ?_ ?_
      rotate_left
      · (intro w' hG; go_simp; try with_reducible rfl)
      try simp only [Act.put, List.setIfInBounds_toArray, List.set_cons_zero, List.set_cons_succ]
      refine wpG_take 8 rfl (by kernel_rfl) (fun _ _ _ h => h) rfl (v := ?_) ?_ ?_
      rotate_left
      · (intro w' hG; go_simp; try with_reducible rfl)
      try simp only [Act.put, List.setIfInBounds_toArray, List.set_cons_zero, List.set_cons_succ]
      refine wpG_take 9 rfl (by kernel_rfl) (fun _ _ _ h => h) rfl (v := ?_) ?_ ?_
      rotate_left
      · (intro w' hG; go_simp; try with_reducible rfl)
      try simp only [Act.put, List.setIfInBounds_toArray, List.set_cons_zero, List.set_cons_succ]
      refine wpG_take 10 rfl (by kernel_rfl) (fun _ _ _ h => h) rfl (v := ?_) ?_ ?_
      rotate_left
      · (intro w' hG; go_simp; try with_reducible rfl)
      try simp only [Act.put, List.setIfInBounds_toArray, List.set_cons_zero, List.set_cons_succ]
      refine wpG_take 11 rfl (by kernel_rfl) (fun _ _ _ h => h) rfl (v := ?_) ?_ ?_
      rotate_left
      · (intro w' hG; go_simp; try with_reducible rfl)
      try simp only [Act.put, List.setIfInBounds_toArray, List.set_cons_zero, List.set_cons_succ]
      refine wpG_take 12 rfl (by kernel_rfl) (fun _ _ _ h => h) rfl (v := ?_) ?_ ?_
      rotate_left
      · (intro w' hG; go_simp; try with_reducible rfl)
      try simp only [Act.put, List.setIfInBounds_toArray, List.set_cons_zero, List.set_cons_succ]
      refine wpG_skip 13 rfl (by kernel_rfl) (fun _ _ _ h => h) rfl ?_
      try simp only [Act.put, List.setIfInBounds_toArray, List.set_cons_zero, List.set_cons_succ]
      refine wpG_skip 14 rfl (by kernel_rfl) (fun _ _ _ h => h) rfl ?_
      try simp only [Act.put, List.setIfInBounds_toArray, List.set_cons_zero, List.set_cons_succ]
      refine wpG_skip 15 rfl (by kernel_rfl) (fun _ _ _ h => h) rfl ?_
      try simp only [Act.put, List.setIfInBounds_toArray, List.set_cons_zero, List.set_cons_succ]
      refine wpG_skip 16 rfl (by kernel_rfl) (fun _ _ _ h => h) rfl ?_
      try simp only [Act.put, List.setIfInBounds_toArray, List.set_cons_zero, List.set_cons_succ]
      refine wpG_skip 17 rfl (by kernel_rfl) (fun _ _ _ h => h) rfl ?_
      try simp only [Act.put, List.setIfInBounds_toArray, List.set_cons_zero, List.set_cons_succ]
      refine wpG_take 18 rfl (by kernel_rfl) (fun _ _ _ h => h) rfl (v := ?_) ?_ ?_
      rotate_left
      · (intro w' hG; go_simp; try with_reducible rfl)
      try simp only [Act.put, List.setIfInBounds_toArray, List.set_cons_zero, List.set_cons_succ]
      refine wpG_take 19 rfl (by kernel_rfl) (fun _ _ _ h => h) rfl (v := ?_) ?_ ?_
      rotate_left
      · (intro w' hG; go_simp; try with_reducible rfl)
      try simp only [Act.put, List.setIfInBounds_toArray, List.set_cons_zero, List.set_cons_succ]
      refine wpG_done (by kernel_rfl) ?_ _
      go_wp2
      go_ret
      exact ⟨ret_bool (by rw [HS.out]; rfl), (hG.trans (Grow.of_drew hg1)).trans hg2⟩
  · have h1 : restB p q = false := by simpa using h1
    have hr := fun W => run_eqRest p q W
    simp only [h1] at hr
    have HS := hide (show sameB p q = false by simp [sameB, h1])
    clear h1
    go_enter Try.func63, Try.ntmps63
    go_wp2_with fail
    generalize World.alloc (World.alloc w _) _ = W0 at *
    have hpc := fun (W : World) (h : Grow W0.drew W) => hp.grow (by simp) (Grow.of_drew h)
    have hqc := fun (W : World) (h : Grow W0.drew W) => hq.grow (by simp) (Grow.of_drew h)
    unfold Holds at hpc hqc
    clear hp hq
    refine wpG_region (by kernel_rfl) ?_
    refine wpG_take 0 rfl (by kernel_rfl) (fun _ _ _ h => h) rfl (v := ?_) ?_ ?_
    rotate_left
    · (intro w' hG; go_simp; try with_reducible rfl)
    try simp only [Act.put, List.setIfInBounds_toArray, List.set_cons_zero, List.set_cons_succ]
    refine wpG_take 2 rfl (by kernel_rfl) (fun _ _ _ h => h) rfl (v := ?_) ?_ ?_
    rotate_left
    · (intro w' hG; go_simp; try with_reducible rfl)
    try simp only [Act.put, List.setIfInBounds_toArray, List.set_cons_zero, List.set_cons_succ]
    refine wpG_call 1 rfl (by kernel_rfl) rfl fun K hK => ?_
    go_simp
    refine (rest_any p A l.length c _).mono ?_
    rintro e w1 ⟨rfl, hb1⟩
    refine hK.out _ _ (hb1) ?_
    clear hK
    try simp only [Act.put, List.setIfInBounds_toArray, List.set_cons_zero, List.set_cons_succ]
    have hg1 : Grow W0.drew w1 := hb1
    have hqc := fun (W : World) (h : Grow w1 W) => hqc W (hg1.trans h)
    have hpc := fun (W : World) (h : Grow w1 W) => hpc W (hg1.trans h)
    refine wpG_call 3 rfl (by kernel_rfl) rfl fun K hK => ?_
    go_simp
    refine (rest_any q B m.length d _).mono ?_
    rintro e w2 ⟨rfl, hb2⟩
    refine hK.out _ _ (hb2) ?_
    clear hK
    try simp only [Act.put, List.setIfInBounds_toArray, List.set_cons_zero, List.set_cons_succ]
    have hg2 : Grow w1 w2 := hb2
    have hqc := fun (W : World) (h : Grow w2 W) => hqc W (hg2.trans h)
    have hpc := fun (W : World) (h : Grow w2 W) => hpc W (hg2.trans h)
    refine wpG_take 4 rfl (by kernel_rfl) (fun _ _ _ h => h) rfl (v := ?_) ?_ ?_
    rotate_left
    · (intro w' hG; go_simp; try with_reducible rfl)
    try simp only [Act.put, List.setIfInBounds_toArray, List.set_cons_zero, List.set_cons_succ]
    refine wpG_take 5 rfl (by kernel_rfl) (fun _ _ _ h => h) rfl (v := ?_) ?_ ?_
    rotate_left
    · (intro w' hG; go_simp; try with_reducible rfl)
    try simp only [Act.put, List.setIfInBounds_toArray, List.set_cons_zero, List.set_cons_succ]
    refine wpG_skip 6 rfl (by kernel_rfl) (fun _ _ _ h => h) rfl ?_
    try simp only [Act.put, List.setIfInBounds_toArray, List.set_cons_zero, List.set_cons_succ]
    refine wpG_skip 7 rfl (by kernel_rfl) (fun _ _ _ h => h) rfl ?_
    try simp only [Act.put, List.setIfInBounds_toArray, List.set_cons_zero, List.set_cons_succ]
    refine wpG_skip 8 rfl (by kernel_rfl) (fun _ _ _ h => h) rfl ?_
    try simp only [Act.put, List.setIfInBounds_toArray, List.set_cons_zero, List.set_cons_succ]
    refine wpG_skip 9 rfl (by kernel_rfl) (fun _ _ _ h => h) rfl ?_
    try simp only [Act.put, List.setIfInBounds_toArray, List.set_cons_zero, List.set_cons_succ]
    refine wpG_skip 10 rfl (by kernel_rfl) (fun _ _ _ h => h) rfl ?_
    try simp only [Act.put, List.setIfInBounds_toArray, List.set_cons_zero, List.set_cons_succ]
    refine wpG_take 11 rfl (by kernel_rfl) (fun _ _ _ h => h) rfl (v := ?_) ?_ ?_
    rotate_left
    · (intro w' hG; go_simp; try with_reducible rfl)
    try simp only [Act.put, List.setIfInBounds_toArray, List.set_cons_zero, List.set_cons_succ]
    refine wpG_take 12 rfl (by kernel_rfl) (fun _ _ _ h => h) rfl (v := ?_) ?_ ?_
    rotate_left
    · (intro w' hG; go_simp; try with_reducible rfl)
    try simp only [Act.put, List.setIfInBounds_toArray, List.set_cons_zero, List.set_cons_succ]
    refine wpG_skip 13 rfl (by kernel_rfl) (fun _ _ _ h => h) rfl ?_
    try simp only [Act.put, List.setIfInBounds_toArray, List.set_cons_zero, List.set_cons_succ]
    refine wpG_skip 14 rfl (by kernel_rfl) (fun _ _ _ h => h) rfl ?_
    try simp only [Act.put, List.setIfInBounds_toArray, List.set_cons_zero, List.set_cons_succ]
    refine wpG_skip 15 rfl (by kernel_rfl) (fun _ _ _ h => h) rfl ?_
    try simp only [Act.put, List.setIfInBounds_toArray, List.set_cons_zero, List.set_cons_succ]
    refine wpG_skip 16 rfl (by kernel_rfl) (fun _ _ _ h => h) rfl ?_
    try simp only [Act.put, List.setIfInBounds_toArray, List.set_cons_zero, List.set_cons_succ]
    refine wpG_skip 17 rfl (by kernel_rfl) (fun _ _ _ h => h) rfl ?_
    try simp only [Act.put, List.setIfInBounds_toArray, List.set_cons_zero, List.set_cons_succ]
    refine wpG_take 18 rfl (by kernel_rfl) (fun _ _ _ h => h) rfl (v := ?_) ?_ ?_
    rotate_left
    · (intro w' hG; go_simp; try with_reducible rfl)
    try simp only [Act.put, List.setIfInBounds_toArray, List.set_cons_zero, List.set_cons_succ]
    refine wpG_take 19 rfl (by kernel_rfl) (fun _ _ _ h => h) rfl (v := ?_) ?_ ?_
    rotate_left
    · (intro w' hG; go_simp; try with_reducible rfl)
    try simp only [Act.put, List.setIfInBounds_toArray, List.set_cons_zero, List.set_cons_succ]
    refine wpG_done (by kernel_rfl) ?_ _
    go_wp2
    go_ret
    exact ⟨ret_bool (by rw [HS.out]; rfl), (hG.trans (Grow.of_drew hg1)).trans hg2⟩
end Go.Proofs.Ytldgnallbkpchaa
