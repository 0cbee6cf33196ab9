/- Walks and plain lemmas that several statements share. -/
import Derived.Test.YtpobjcdcimcdnaaFew
import Derived.Test.YtpobjcdcimcdnaaHdPt
import Derived.Test.YtpobjcdcimcdnaaR05
import Derived.Test.YtpobjcdcimcdnaaRdX
import Derived.Test.YtpobjcdcimcdnaaFrm
import Derived.Test.YtpobjcdcimcdnaaTool
import Derived.Laws.Rows
import Derived.Deep.RegionLaw
import Derived.Laws.OwnMore
import Derived.Deep.QuietTactic
import Derived.BigQuiet
namespace Go.Proofs.Ytpobjcdcimcdnaa
open Go.RowKit
end Go.Proofs.Ytpobjcdcimcdnaa
namespace Go.Proofs.Ytpobjcdcimcdnaa
open Go.RowKit
abbrev restV (p : Pkt) : Value := .agg #[.int .i64 p.kind, .int .i64 p.hops, .int .i64 p.to, .int .i64 p.index, .int .i64 p.total, .int .i64 p.no, .int .i64 p.stamp, .int .i64 p.value]
set_option maxHeartbeats 400000 in
theorem rest_any (p : Pkt) (A : Option Addr) (n c : Nat) (w : World) : Calls Try.prog 137 #[pv p A n c] w fun e w' => e = .returned (restV p) ∧ Below w.heap.size w w' := by
  go_enter Try.func137, Try.ntmps137
  go_wp2
  exact bodyPost_ret (v := restV p) (by simp [results, Try.results137, go_sem]) rfl ⟨rfl, ((Below.refl _ _).alloc (Nat.le_refl _) _).alloc (by simp) _⟩
theorem run_eqRest (p q : Pkt) (W : World) : (Op.equalIn 10000 137 (restV p) (restV q)).run Try.prog W = .ok (restB p q) W := by
  by_cases h0 : p.kind = q.kind
  rotate_left
  · simp [go_sem, restB, h0]
  by_cases h1 : p.hops = q.hops
  rotate_left
  · simp [go_sem, restB, h0, h1]
  by_cases h2 : p.to = q.to
  rotate_left
  · simp [go_sem, restB, h0, h1, h2]
  by_cases h3 : p.index = q.index
  rotate_left
  · simp [go_sem, restB, h0, h1, h2, h3]
  by_cases h4 : p.total = q.total
  rotate_left
  · simp [go_sem, restB, h0, h1, h2, h3, h4]
  by_cases h5 : p.no = q.no
  rotate_left
  · simp [go_sem, restB, h0, h1, h2, h3, h4, h5]
  by_cases h6 : p.stamp = q.stamp
  rotate_left
  · simp [go_sem, restB, h0, h1, h2, h3, h4, h5, h6]
  by_cases h7 : p.value = q.value
  rotate_left
  · simp [go_sem, restB, h0, h1, h2, h3, h4, h5, h6, h7]
  simp [go_sem, restB, h0, h1, h2, h3, h4, h5, h6, h7]
end Go.Proofs.Ytpobjcdcimcdnaa
namespace Go.Proofs.Ytpobjcdcimcdnaa
open Go.RowKit
set_option maxHeartbeats 400000 in
theorem beq_any (A B : Option Addr) (l m : List UInt8) (c d : Nat) (w : World) (hl : Bytes w A l) (hm : Bytes w B m) :
    Calls Try.prog 138 #[.slice A l.length c, .slice B m.length d] w fun e w' => e = .returned (.bool (l == m)) ∧ w = w' := by
  have hc1 := conv_any c hl
  have hc2 := conv_any d hm
  clear hl hm
  go_enter Try.func138, Try.ntmps138
  go_wp2
  go_ret
  exact ⟨ret_bool (by simp), rfl⟩
set_option maxRecDepth 100000 in
set_option maxHeartbeats 2000000 in
theorem same_any (p q : Pkt) (A B : Option Addr) (l m : List UInt8) (c d : Nat) (w : World) (hl : Bytes w A l) (hm : Bytes w B m) :
    Calls Try.prog 115 #[pv p A l.length c, pv q B m.length d] w fun e w' => e = .returned (.bool (sameB p q && l == m)) ∧ Below w.heap.size w w' := by
  obtain ⟨hp, hq, hG⟩ := two_boxes w (pcells p A l.length c) (pcells q B m.length d) 65 65 (by simp)
  have hl := hl.grow hG
  have hm := hm.grow hG
  by_cases h1 : restB p q = true
  · have hr := fun W => run_eqRest p q W
    simp only [h1] at hr
    by_cases h2 : keyEq p q = true
    · have hk := fun W => run_eqKey p q W
      simp only [h2] at hk
      have HS := hide (show sameB p q = true by simp [sameB, h1, h2])
      clear h1 h2
      go_enter Try.func115, Try.ntmps115
      go_wp2_with fail
      generalize World.alloc (World.alloc w _) _ = W0 at *
      have hpc := fun (W : World) (h : Grow W0.drew W) => hp.grow (by simp) (Grow.of_drew h)
      have hqc := fun (W : World) (h : Grow W0.drew W) => hq.grow (by simp) (Grow.of_drew h)
      unfold Holds at hpc hqc
      clear hp hq
      refine wpG_region (by kernel_rfl) ?_
      refine wpG_take 0 rfl (by kernel_rfl) (fun _ _ _ h => h) rfl (v := ?_) ?_ ?_
      rotate_left
      · (intro w' hG; go_simp; try with_reducible rfl)
      try simp only [Act.put, List.setIfInBounds_toArray, List.set_cons_zero, List.set_cons_succ]
      refine wpG_take 2 rfl (by kernel_rfl) (fun _ _ _ h => h) rfl (v := ?_) ?_ ?_
      rotate_left
      · (intro w' hG; go_simp; try with_reducible rfl)
      try simp only [Act.put, List.setIfInBounds_toArray, List.set_cons_zero, List.set_cons_succ]
      refine wpG_call 1 rfl (by kernel_rfl) rfl fun K hK => ?_
      go_simp
      refine (rest_any p A l.length c _).mono ?_
      rintro e w1 ⟨rfl, hb1⟩
      refine hK.out _ _ (hb1) ?_
      clear hK
      try simp only [Act.put, List.setIfInBounds_toArray, List.set_cons_zero, List.set_cons_succ]
      have hg1 : Grow W0.drew w1 := hb1
      have hqc := fun (W : World) (h : Grow w1 W) => hqc W (hg1.trans h)
      have hpc := fun (W : World) (h : Grow w1 W) => hpc W (hg1.trans h)
      refine wpG_call 3 rfl (by kernel_rfl) rfl fun K hK => ?_
      go_simp
      refine (rest_any q B m.length d _).mono ?_
      rintro e w2 ⟨rfl, hb2⟩
      refine hK.out _ _ (hb2) ?_
      clear hK
      try simp only [Act.put, List.setIfInBounds_toArray, List.set_cons_zero, List.set_cons_succ]
      have hg2 : Grow w1 w2 := hb2
      have hqc := fun (W : World) (h : Grow w2 W) => hqc W (hg2.trans h)
      have hpc := fun (W : World) (h : Grow w2 W) => hpc W (hg2.trans h)
      refine wpG_take 4 rfl (by kernel_rfl) (fun _ _ _ h => h) rfl (v := ?_) ?_ ?_
      rotate_left
      · (intro w' hG; go_simp; try with_reducible rfl)
      try simp only [Act.put, List.setIfInBounds_toArray, List.set_cons_zero, List.set_cons_succ]
      refine wpG_take 5 rfl (by kernel_rfl) (fun _ _ _ h => h) rfl (v := ?_) ?_ ?_
      rotate_left
      · (intro w' hG; go_simp; try with_reducible rfl)
      try simp only [Act.put, List.setIfInBounds_toArray, List.set_cons_zero, List.set_cons_succ]
      refine wpG_take 6 rfl (by kernel_rfl) (fun _ _ _ h => h) rfl (v := ?_) ?_ ?_
      rotate_left
      · (intro w' hG; go_simp; try with_reducible rfl)
      try simp only [Act.put, List.setIfInBounds_toArray, List.set_cons_zero, List.set_cons_succ]
      refine wpG_take 7 rfl (by kernel_rfl) (fun _ _ _ h => h) rfl (v := ?_) ?_ ?_
      rotate_left
      · (intro w' hG; go_simp; try with_reducible rfl)
      try simp only [Act.put, List.setIfInBounds_toArray, List.set_cons_zero, List.set_cons_succ]
      refine wpG_take 8 rfl (by kernel_rfl) (fun _ _ _ h => h) rfl (v := ?_) ?_ ?_
      rotate_left
      · (intro w' hG; go_simp; try with_reducible rfl)
      try simp only [Act.put, List.setIfInBounds_toArray, List.set_cons_zero, List.set_cons_succ]
      refine wpG_take 9 rfl (by kernel_rfl) (fun _ _ _ h => h) rfl (v := ?_) ?_ ?_
      rotate_left
      · (intro w' hG; go_simp; try with_reducible rfl)
      try simp only [Act.put, List.setIfInBounds_toArray, List.set_cons_zero, List.set_cons_succ]
      refine wpG_take 10 rfl (by kernel_rfl) (fun _ _ _ h => h) rfl (v := ?_) ?_ ?_
      rotate_left
      · (intro w' hG; go_simp; try with_reducible rfl)
      try simp only [Act.put, List.setIfInBounds_toArray, List.set_cons_zero, List.set_cons_succ]
      refine wpG_take 11 rfl (by kernel_rfl) (fun _ _ _ h => h) rfl (v := ?_) ?_ ?_
      rotate_left
      · (intro w' hG; go_simp; try with_reducible rfl)
      try simp only [Act.put, List.setIfInBounds_toArray, List.set_cons_zero, List.set_cons_succ]
      refine wpG_take 12 rfl (by kernel_rfl) (fun _ _ _ h => h) rfl (v := ?_) ?_ ?_
      rotate_left
      · (intro w' hG; go_simp; try with_reducible rfl)
      try simp only [Act.put, List.setIfInBounds_toArray, List.set_cons_zero, List.set_cons_succ]
      refine wpG_take 13 rfl (by kernel_rfl) (fun _ _ _ h => h) rfl (v := ?_) ?_ ?_
      rotate_left
      · (intro w' hG; go_simp; try with_reducible rfl)
      try simp only [Act.put, List.setIfInBounds_toArray, List.set_cons_zero, List.set_cons_succ]
      refine wpG_take 14 rfl (by kernel_rfl) (fun _ _ _ h => h) rfl (v := ?_) ?_ ?_
      rotate_left
      · (intro w' hG; go_simp; try with_reducible rfl)
      try simp only [Act.put, List.setIfInBounds_toArray, List.set_cons_zero, List.set_cons_succ]
      refine wpG_take 15 rfl (by kernel_rfl) (fun _ _ _ h => h) rfl (v := ?_) ?_ ?_
      rotate_left
      · (intro w' hG; go_simp; try with_reducible rfl)
      try simp only [Act.put, List.setIfInBounds_toArray, List.set_cons_zero, List.set_cons_succ]
      refine wpG_take 16 rfl (by kernel_rfl) (fun _ _ _ h => h) rfl (v := ?_) ?_ ?_
      rotate_left
      · (intro w' hG; go_simp; try with_reducible rfl)
      try simp only [Act.put, List.setIfInBounds_toArray, List.set_cons_zero, List.set_cons_succ]
      refine wpG_call 17 rfl (by kernel_rfl) rfl fun K hK => ?_
      go_simp
      refine (beq_any A B l m c d _ (hl.drew.grow (hg1.trans hg2)) (hm.drew.grow (hg1.trans hg2))).mono ?_
      rintro e w3 ⟨rfl, rfl⟩
      refine hK.out _ _ (Grow.refl _) ?_
      clear hK
      try simp only [Act.put, List.setIfInBounds_toArray, List.set_cons_zero, List.set_cons_succ]
      refine wpG_take 18 rfl (by kernel_rfl) (fun _ _ _ h => h) rfl (v := ?_) ?_ ?_
      rotate_left
      · (intro w' hG; go_simp; try with_reducible rfl)
      try simp only [Act.put, List.setIfInBounds_toArray, List.set_cons_zero, List.set_cons_succ]
      refine wpG_take 19 rfl (by kernel_rfl) (fun _ _ _ h => h) rfl (v := ?_) ?_ ?_
      rotate_left
      · (intro w' hG; go_simp; try with_reducible rfl)
      try simp only [Act.put, List.setIfInBounds_toArray, List.set_cons_zero, List.set_cons_succ]
      refine wpG_done (by kernel_rfl) ?_ _
      go_wp2
      go_ret
      exact ⟨ret_bool (by rw [HS.out]; simp), (hG.trans (Grow.of_drew hg1)).trans hg2⟩
    · have h2 : keyEq p q = false := by simpa using h2
      have hk := fun W => run_eqKey p q W
      simp only [h2] at hk
      have HS := hide (show sameB p q = false by simp [sameB, h1, h2])
      clear h1 h2
      go_enter Try.func115, Try.ntmps115
      go_wp2_with fail
      generalize World.alloc (World.alloc w _) _ = W0 at *
      have hpc := fun (W : World) (h : Grow W0.drew W) => hp.grow (by simp) (Grow.of_drew h)
      have hqc := fun (W : World) (h : Grow W0.drew W) => hq.grow (by simp) (Grow.of_drew h)
      unfold Holds at hpc hqc
      clear hp hq
      refine wpG_region (by kernel_rfl) ?_
      refine wpG_take 0 rfl (by kernel_rfl) (fun _ _ _ h => h) rfl (v := ?_) ?_ ?_
      rotate_left
      · (intro w' hG; go_simp; try with_reducible rfl)
      try simp only [Act.put, List.setIfInBounds_toArray, List.set_cons_zero, List.set_cons_succ]
      refine wpG_take 2 rfl (by kernel_rfl) (fun _ _ _ h => h) rfl (v := ?_) ?_ ?_
      rotate_left
      · (intro w' hG; go_simp; try with_reducible rfl)
      try simp only [Act.put, List.setIfInBounds_toArray, List.set_cons_zero, List.set_cons_succ]
      refine wpG_call 1 rfl (by kernel_rfl) rfl fun K hK => ?_
      go_simp
      refine (rest_any p A l.length c _).mono ?_
      rintro e w1 ⟨rfl, hb1⟩
      refine hK.out _ _ (hb1) ?_
      clear hK
      try simp only [Act.put, List.setIfInBounds_toArray, List.set_cons_zero, List.set_cons_succ]
      have hg1 : Grow W0.drew w1 := hb1
      have hqc := fun (W : World) (h : Grow w1 W) => hqc W (hg1.trans h)
      have hpc := fun (W : World) (h : Grow w1 W) => hpc W (hg1.trans h)
      refine wpG_call 3 rfl (by kernel_rfl) rfl fun K hK => ?_
      go_simp
      refine (rest_any q B m.length d _).mono ?_
      rintro e w2 ⟨rfl, hb2⟩
      refine hK.out _ _ (hb2) ?_
      clear hK
      try simp only [Act.put, List.setIfInBounds_toArray, List.set_cons_zero, List.set_cons_succ]
      have hg2 : Grow w1 w2 := hb2
      have hqc := fun (W : World) (h : Grow w2 W) => hqc W (hg2.trans h)
      have hpc := fun (W : World) (h : Grow w2 W) => hpc W (hg2.trans h)
      refine wpG_take 4 rfl (by kernel_rfl) (fun _ _ _ h => h) rfl (v := ?_) ?_ ?_
      rotate_left
      · (intro w' hG; go_simp; try with_reducible rfl)
      try simp only [Act.put, List.setIfInBounds_toArray, List.set_cons_zero, List.set_cons_succ]
      refine wpG_take 5 rfl (by kernel_rfl) (fun _ _ _ h => h) rfl (v := ?_) ?_ ?_
      rotate_left
      · (intro w' hG; go_simp; try with_reducible rfl)
      try simp only [Act.put, List.setIfInBounds_toArray, List.set_cons_zero, List.set_cons_succ]
      refine wpG_take 6 rfl (by kernel_rfl) (fun _ _ _ h => h) rfl (v := ?_) ?_ ?_
      rotate_left
      · (intro w' hG; go_simp; try with_reducible rfl)
      try simp only [Act.put, List.setIfInBounds_toArray, List.set_cons_zero, List.set_cons_succ]
      refine wpG_take 7 rfl (by kernel_rfl) (fun _ _ _ h => h) rfl (v := ?_) ?_ ?_
      rotate_left
      · (intro w' hG; go_simp; try with_reducible rfl)
      try simp only [Act.put, List.setIfInBounds_toArray, List.set_cons_zero, List.set_cons_succ]
      refine wpG_take 8 rfl (by kernel_rfl) (fun _ _ _ h => h) rfl (v := ?_) ?_ ?_
      rotate_left
      · (intro w' hG; go_simp; try with_reducible rfl)
      try simp only [Act.put, List.setIfInBounds_toArray, List.set_cons_zero, List.set_cons_succ]
      refine wpG_take 9 rfl (by kernel_rfl) (fun _ _ _ h => h) rfl (v := ?_) ?_ ?_
      rotate_left
      · (intro w' hG; go_simp; try with_reducible rfl)
      try simp only [Act.put, List.setIfInBounds_toArray, List.set_cons_zero, List.set_cons_succ]
      refine wpG_take 10 rfl (by kernel_rfl) (fun _ _ _ h => h) rfl (v := ?_) ?_ ?_
      rotate_left
      · (intro w' hG; go_simp; try with_reducible rfl)
      try simp only [Act.put, List.setIfInBounds_toArray, List.set_cons_zero, List.set_cons_succ]
      refine wpG_take 11 rfl (by kernel_rfl) (fun _ _ _ h => h) rfl (v := ?_) ?_ ?_
      rotate_left
      · (intro w' hG; go_simp; try with_reducible rfl)
      try simp only [Act.put, List.setIfInBounds_toArray, List.set_cons_zero, List.set_cons_succ]
      refine wpG_take 12 rfl (by kernel_rfl) (fun _ _ _ h => h) rfl (v := ?_) ?_ ?_
      rotate_left
      · (intro w' hG; go_simp; try with_reducible rfl)
      try simp only [Act.put, List.setIfInBounds_toArray, List.set_cons_zero, List.set_cons_succ]
      refine wpG_skip 13 rfl (by kernel_rfl) (fun _ _ _ h => h) rfl ?_
      try simp only [Act.put, List.setIfInBounds_toArray, List.set_cons_zero, List.set_cons_succ]
      refine wpG_skip 14 rfl (by kernel_rfl) (fun _ _ _ h => h) rfl ?_
      try simp only [Act.put, List.setIfInBounds_toArray, List.set_cons_zero, List.set_cons_succ]
      refine wpG_skip 15 rfl (by kernel_rfl) (fun _ _ _ h => h) rfl ?_
      try simp only [Act.put, List.setIfInBounds_toArray, List.set_cons_zero, List.set_cons_succ]
      refine wpG_skip 16 rfl (by kernel_rfl) (fun _ _ _ h => h) rfl ?_
      try simp only [Act.put, List.setIfInBounds_toArray, List.set_cons_zero, List.set_cons_succ]
      refine wpG_skip 17 rfl (by kernel_rfl) (fun _ _ _ h => h) rfl ?_
      try simp only [Act.put, List.setIfInBounds_toArray, List.set_cons_zero, List.set_cons_succ]
      refine wpG_take 18 rfl (by kernel_rfl) (fun _ _ _ h => h) rfl (v := ?_) ?_ ?_
      rotate_left
      · (intro w' hG; go_simp; try with_reducible rfl)
      try simp only [Act.put, List.setIfInBounds_toArray, List.set_cons_zero, List.set_cons_succ]
      refine wpG_take 19 rfl (by kernel_rfl) (fun _ _ _ h => h) rfl (v := ?_) ?_ ?_
      rotate_left
      · (intro w' hG; go_simp; try with_reducible rfl)
      try simp only [Act.put, List.setIfInBounds_toArray, List.set_cons_zero, List.set_cons_succ]
      refine wpG_done (by kernel_rfl) ?_ _
      go_wp2
      go_ret
      exact ⟨ret_bool (by rw [HS.out]; rfl), (hG.trans (Grow.of_drew hg1)).trans hg2⟩
  · have h1 : restB p q = false := by simpa using h1
    have hr := fun W => run_eqRest p q W
    simp only [h1] at hr
    have HS := hide (show sameB p q = false by simp [sameB, h1])
    clear h1
    go_enter Try.func115, Try.ntmps115
    go_wp2_with fail
    generalize World.alloc (World.alloc w _) _ = W0 at *
    have hpc := fun (W : World) (h : Grow W0.drew W) => hp.grow (by simp) (Grow.of_drew h)
    have hqc := fun (W : World) (h : Grow W0.drew W) => hq.grow (by simp) (Grow.of_drew h)
    unfold Holds at hpc hqc
    clear hp hq
    refine wpG_region (by kernel_rfl) ?_
    refine wpG_take 0 rfl (by kernel_rfl) (fun _ _ _ h => h) rfl (v := ?_) ?_ ?_
    rotate_left
    · (intro w' hG; go_simp; try with_reducible rfl)
    try simp only [Act.put, List.setIfInBounds_toArray, List.set_cons_zero, List.set_cons_succ]
    refine wpG_take 2 rfl (by kernel_rfl) (fun _ _ _ h => h) rfl (v := ?_) ?_ ?_
    rotate_left
    · (intro w' hG; go_simp; try with_reducible rfl)
    try simp only [Act.put, List.setIfInBounds_toArray, List.set_cons_zero, List.set_cons_succ]
    refine wpG_call 1 rfl (by kernel_rfl) rfl fun K hK => ?_
    go_simp
    refine (rest_any p A l.length c _).mono ?_
    rintro e w1 ⟨rfl, hb1⟩
    refine hK.out _ _ (hb1) ?_
    clear hK
    try simp only [Act.put, List.setIfInBounds_toArray, List.set_cons_zero, List.set_cons_succ]
    have hg1 : Grow W0.drew w1 := hb1
    have hqc := fun (W : World) (h : Grow w1 W) => hqc W (hg1.trans h)
    have hpc := fun (W : World) (h : Grow w1 W) => hpc W (hg1.trans h)
    refine wpG_call 3 rfl (by kernel_rfl) rfl fun K hK => ?_
    go_simp
    refine (rest_any q B m.length d _).mono ?_
    rintro e w2 ⟨rfl, hb2⟩
    refine hK.out _ _ (hb2) ?_
    clear hK
    try simp only [Act.put, List.setIfInBounds_toArray, List.set_cons_zero, List.set_cons_succ]
    have hg2 : Grow w1 w2 := hb2
    have hqc := fun (W : World) (h : Grow w2 W) => hqc W (hg2.trans h)
    have hpc := fun (W : World) (h : Grow w2 W) => hpc W (hg2.trans h)
    refine wpG_take 4 rfl (by kernel_rfl) (fun _ _ _ h => h) rfl (v := ?_) ?_ ?_
    rotate_left
    · (intro w' hG; go_simp; try with_reducible rfl)
    try simp only [Act.put, List.setIfInBounds_toArray, List.set_cons_zero, List.set_cons_succ]
    refine wpG_take 5 rfl (by kernel_rfl) (fun _ _ _ h => h) rfl (v := ?_) ?_ ?_
    rotate_left
    · (intro w' hG; go_simp; try with_reducible rfl)
    try simp only [Act.put, List.setIfInBounds_toArray, List.set_cons_zero, List.set_cons_succ]
    refine wpG_skip 6 rfl (by kernel_rfl) (fun _ _ _ h => h) rfl ?_
    try simp only [Act.put, List.setIfInBounds_toArray, List.set_cons_zero, List.set_cons_succ]
    refine wpG_skip 7 rfl (by kernel_rfl) (fun _ _ _ h => h) rfl ?_
    try simp only [Act.put, List.setIfInBounds_toArray, List.set_cons_zero, List.set_cons_succ]
    refine wpG_skip 8 rfl (by kernel_rfl) (fun _ _ _ h => h) rfl ?_
    try simp only [Act.put, List.setIfInBounds_toArray, List.set_cons_zero, List.set_cons_succ]
    refine wpG_skip 9 rfl (by kernel_rfl) (fun _ _ _ h => h) rfl ?_
    try simp only [Act.put, List.setIfInBounds_toArray, List.set_cons_zero, List.set_cons_succ]
    refine wpG_skip 10 rfl (by kernel_rfl) (fun _ _ _ h => h) rfl ?_
    try simp only [Act.put, List.setIfInBounds_toArray, List.set_cons_zero, List.set_cons_succ]
    refine wpG_take 11 rfl (by kernel_rfl) (fun _ _ _ h => h) rfl (v := ?_) ?_ ?_
    rotate_left
    · (intro w' hG; go_simp; try with_reducible rfl)
    try simp only [Act.put, List.setIfInBounds_toArray, List.set_cons_zero, List.set_cons_succ]
    refine wpG_take 12 rfl (by kernel_rfl) (fun _ _ _ h => h) rfl (v := ?_) ?_ ?_
    rotate_left
    · (intro w' hG; go_simp; try with_reducible rfl)
    try simp only [Act.put, List.setIfInBounds_toArray, List.set_cons_zero, List.set_cons_succ]
    refine wpG_skip 13 rfl (by kernel_rfl) (fun _ _ _ h => h) rfl ?_
    try simp only [Act.put, List.setIfInBounds_toArray, List.set_cons_zero, List.set_cons_succ]
    refine wpG_skip 14 rfl (by kernel_rfl) (fun _ _ _ h => h) rfl ?_
    try simp only [Act.put, List.setIfInBounds_toArray, List.set_cons_zero, List.set_cons_succ]
    refine wpG_skip 15 rfl (by kernel_rfl) (fun _ _ _ h => h) rfl ?_
    try simp only [Act.put, List.setIfInBounds_toArray, List.set_cons_zero, List.set_cons_succ]
    refine wpG_skip 16 rfl (by kernel_rfl) (fun _ _ _ h => h) rfl ?_
    try simp only [Act.put, List.setIfInBounds_toArray, List.set_cons_zero, List.set_cons_succ]
    refine wpG_skip 17 rfl (by kernel_rfl) (fun _ _ _ h => h) rfl ?_
    try simp only [Act.put, List.setIfInBounds_toArray, List.set_cons_zero, List.set_cons_succ]
    refine wpG_take 18 rfl (by kernel_rfl) (fun _ _ _ h => h) rfl (v := ?_) ?_ ?_
    rotate_left
    · (intro w' hG; go_simp; try with_reducible rfl)
    try simp only [Act.put, List.setIfInBounds_toArray, List.set_cons_zero, List.set_cons_succ]
    refine wpG_take 19 rfl (by kernel_rfl) (fun _ _ _ h => h) rfl (v := ?_) ?_ ?_
    rotate_left
    · (intro w' hG; go_simp; try with_reducible rfl)
    try simp only [Act.put, List.setIfInBounds_toArray, List.set_cons_zero, List.set_cons_succ]
    refine wpG_done (by kernel_rfl) ?_ _
    go_wp2
    go_ret
    exact ⟨ret_bool (by rw [HS.out]; rfl), (hG.trans (Grow.of_drew hg1)).trans hg2⟩
end Go.Proofs.Ytpobjcdcimcdnaa

namespace Buf
end Buf
namespace Go.Proofs.Ytpobjcdcimcdnaa
open Go.RowKit
section
variable {w w' : World} {B p : Nat} {A : Option Addr} {c : Nat} {e : Int} {b : List UInt8} {most : Int}
end
end Go.Proofs.Ytpobjcdcimcdnaa
namespace Go.Proofs.Ytpobjcdcimcdnaa
open Go.RowKit
section
variable {w w' : World} {g n k : Nat} {f : Nat → Value}
end
end Go.Proofs.Ytpobjcdcimcdnaa
namespace Go.Proofs.Ytpobjcdcimcdnaa
open Go.RowKit
end Go.Proofs.Ytpobjcdcimcdnaa
namespace Go.Proofs.Ytpobjcdcimcdnaa
open Go.RowKit
end Go.Proofs.Ytpobjcdcimcdnaa

namespace Buf
theorem fixed_num : ∀ l, fixed (num l) l.length = l
  | [] => rfl
  | c :: l => by
    have h := c.toNat_lt
    have h1 : (c.toNat + 256 * num l) / 256 = num l := by omega
    have h2 : UInt8.ofNat (c.toNat + 256 * num l) = c := by
      apply UInt8.toNat_inj.1
      rw [UInt8.toNat_ofNat']
      omega
    simp only [List.length_cons, num, fixed, h1, h2, fixed_num l]
/-! ### written and read back -/
theorem getFixed_once (b : List UInt8) (n : Int) (h : (getFixed b n).2.2 = 0) : b = fixed (getFixed b n).1 n.toNat ++ (getFixed b n).2.1 := by
  unfold getFixed at h ⊢
  split at h
  · cases h
  · split at h
    · cases h
    · rename_i h1 h2
      rw [if_neg h1, if_neg h2]
      have e : (b.take n.toNat).length = n.toNat := by rw [List.length_take]; omega
      have := fixed_num (b.take n.toNat)
      rw [e] at this
      show b = fixed (num (b.take n.toNat)) n.toNat ++ b.drop n.toNat
      rw [this, List.take_append_drop]
theorem getBytes_once (b : List UInt8) (m : Int) (h : (getBytes b m).2.2 = 0) : b = sevens (getBytes b m).1.length ++ (getBytes b m).1 ++ (getBytes b m).2.1 := by
  unfold getBytes at h ⊢
  split at h
  · rename_i h0; exact absurd h h0
  · split at h
    · cases h
    · split at h
      · cases h
      · rename_i h1 h2 h3
        rw [if_neg h1, if_neg h2, if_neg h3]
        have e : ((getNum b).2.1.take (getNum b).1).length = (getNum b).1 := by rw [List.length_take]; omega
        show b = sevens ((getNum b).2.1.take (getNum b).1).length ++ (getNum b).2.1.take (getNum b).1 ++ (getNum b).2.1.drop (getNum b).1
        rw [e, List.append_assoc, List.take_append_drop]
        exact getNum_once b (by simpa using h1)
/-! ### what a reader has: the bytes that are left, what is wrong -/
end Buf
namespace Go.Proofs.Ytpobjcdcimcdnaa
open Go.RowKit
section
variable {w w' : World} {N p : Nat} {s : List UInt8 × Int}
end
end Go.Proofs.Ytpobjcdcimcdnaa
namespace Go.Proofs.Ytpobjcdcimcdnaa
open Go.RowKit
end Go.Proofs.Ytpobjcdcimcdnaa
namespace Go.Proofs.Ytpobjcdcimcdnaa
open Go.RowKit
end Go.Proofs.Ytpobjcdcimcdnaa
namespace Go.Proofs.Ytpobjcdcimcdnaa
open Go.RowKit
end Go.Proofs.Ytpobjcdcimcdnaa
namespace Go.Proofs.Ytpobjcdcimcdnaa
open Go.RowKit
end Go.Proofs.Ytpobjcdcimcdnaa

namespace Go.Proofs.Ytpobjcdcimcdnaa
open Go.RowKit
end Go.Proofs.Ytpobjcdcimcdnaa
namespace Go.Proofs.Ytpobjcdcimcdnaa
open Go.RowKit
end Go.Proofs.Ytpobjcdcimcdnaa
namespace Go.Proofs.Ytpobjcdcimcdnaa
open Go.RowKit
end Go.Proofs.Ytpobjcdcimcdnaa

namespace Go.Proofs.Ytpobjcdcimcdnaa
open Go.RowKit
end Go.Proofs.Ytpobjcdcimcdnaa
namespace Go.Proofs.Ytpobjcdcimcdnaa
open Go.RowKit
end Go.Proofs.Ytpobjcdcimcdnaa
