/- Acts (chapter 46): whether two are the same, whether one may be. -/
import Derived.Test.YtcghgahohmabnaaFtW
import Derived.Test.YtcghgahohmabnaaFtX
import Derived.Test.YtcghgahohmabnaaRdX
import Derived.RegionTactic
namespace Go.Proofs.Ytcghgahohmabnaa
open Go.RowKit
/-- an act without its body -/
structure ActP where
  kind : Int
  node : Int
  n : Int
  f : Fate
abbrev acells (p : ActP) (A : Option Addr) (n c : Nat) : Array Value := #[.int .i64 p.kind, .int .i64 p.node, .int .i64 p.n, .int .i64 p.f.kind, .int .i64 p.f.delay, .int .i64 p.f.again, .int .u32 p.f.pos, .int .u32 p.f.bits, .slice A n c]
abbrev av (p : ActP) (A : Option Addr) (n c : Nat) : Value := .agg (acells p A n c)
abbrev arv (p : ActP) : Value := .agg #[.int .i64 p.kind, .int .i64 p.node, .int .i64 p.n, .int .i64 p.f.kind, .int .i64 p.f.delay, .int .i64 p.f.again, .int .u32 p.f.pos, .int .u32 p.f.bits]
def fateEq (f g : Fate) : Bool := f.kind == g.kind && f.delay == g.delay && f.again == g.again && f.pos == g.pos && f.bits == g.bits
def actEq (p q : ActP) : Bool := p.kind == q.kind && p.node == q.node && p.n == q.n && fateEq p.f q.f
theorem run_eqAct (p q : ActP) (W : World) : (Op.equalIn 10000 159 (arv p) (arv q)).run Try.prog W = .ok (actEq p q) W := by
  by_cases h0 : p.kind = q.kind
  rotate_left
  · simp [go_sem, actEq, h0]
  by_cases h1 : p.node = q.node
  rotate_left
  · simp [go_sem, actEq, h0, h1]
  by_cases h2 : p.n = q.n
  rotate_left
  · simp [go_sem, actEq, h0, h1, h2]
  by_cases h3 : p.f.kind = q.f.kind
  rotate_left
  · simp [go_sem, actEq, fateEq, h0, h1, h2, h3]
  by_cases h4 : p.f.delay = q.f.delay
  rotate_left
  · simp [go_sem, actEq, fateEq, h0, h1, h2, h3, h4]
  by_cases h5 : p.f.again = q.f.again
  rotate_left
  · simp [go_sem, actEq, fateEq, h0, h1, h2, h3, h4, h5]
  by_cases h6 : p.f.pos = q.f.pos
  rotate_left
  · simp [go_sem, actEq, fateEq, h0, h1, h2, h3, h4, h5, h6]
  by_cases h7 : p.f.bits = q.f.bits
  rotate_left
  · simp [go_sem, actEq, fateEq, h0, h1, h2, h3, h4, h5, h6, h7]
  simp [go_sem, actEq, fateEq, h0, h1, h2, h3, h4, h5, h6, h7]
theorem run_eqFt (f g : Fate) (W : World) : (Op.equalIn 10000 78 (fv f) (fv g)).run Try.prog W = .ok (fateEq f g) W := by
  by_cases h3 : f.kind = g.kind
  rotate_left
  · simp [go_sem, fateEq, h3]
  by_cases h4 : f.delay = g.delay
  rotate_left
  · simp [go_sem, fateEq, h3, h4]
  by_cases h5 : f.again = g.again
  rotate_left
  · simp [go_sem, fateEq, h3, h4, h5]
  by_cases h6 : f.pos = g.pos
  rotate_left
  · simp [go_sem, fateEq, h3, h4, h5, h6]
  by_cases h7 : f.bits = g.bits
  rotate_left
  · simp [go_sem, fateEq, h3, h4, h5, h6, h7]
  simp [go_sem, fateEq, h3, h4, h5, h6, h7]
set_option maxHeartbeats 400000 in
theorem of_any (p : ActP) (A : Option Addr) (n c : Nat) (w : World) : Calls Try.prog 111 #[av p A n c] w fun e w' => e = .returned (arv p) ∧ Below w.heap.size w w' := by
  go_enter Try.func111, Try.ntmps111
  go_wp2
  exact bodyPost_ret (v := arv p) (by simp [results, Try.results111, go_sem]) rfl ⟨rfl, ((Below.refl _ _).alloc (Nat.le_refl _) _).alloc (by simp) _⟩
set_option maxRecDepth 100000 in
set_option maxHeartbeats 2000000 in
theorem asame_any (p q : ActP) (A B : Option Addr) (l m : List UInt8) (c d : Nat) (w : World) (hl : Bytes w A l) (hm : Bytes w B m) :
    Calls Try.prog 69 #[av p A l.length c, av q B m.length d] w fun e w' => e = .returned (.bool (actEq p q && l == m)) ∧ Grow w w' := by
  obtain ⟨hp, hq, hG⟩ := two_boxes w (acells p A l.length c) (acells q B m.length d) 108 108 (by simp)
  have hl := hl.grow hG
  have hm := hm.grow hG
  have hr := fun W => run_eqAct p q W
  by_cases h1 : actEq p q = true
  · simp only [h1] at hr
    have HS := hide h1
    clear h1
    go_enter Try.func69, Try.ntmps69
    go_wp2_with fail
    generalize World.alloc (World.alloc w _) _ = W0 at *
    have hpc := fun (W : World) (h : Grow W0.drew W) => hp.grow (by simp) (Grow.of_drew h)
    have hqc := fun (W : World) (h : Grow W0.drew W) => hq.grow (by simp) (Grow.of_drew h)
    unfold Holds at hpc hqc
    clear hp hq
    refine wpG_region (by kernel_rfl) ?_
    refine wpG_take 0 rfl (by kernel_rfl) (fun _ _ _ h => h) rfl (v := ?_) ?_ ?_
    rotate_left
    · (intro w' hG; go_simp; try with_reducible rfl)
    try simp only [Act.put, List.setIfInBounds_toArray, List.set_cons_zero, List.set_cons_succ]
    refine wpG_take 2 rfl (by kernel_rfl) (fun _ _ _ h => h) rfl (v := ?_) ?_ ?_
    rotate_left
    · (intro w' hG; go_simp; try with_reducible rfl)
    try simp only [Act.put, List.setIfInBounds_toArray, List.set_cons_zero, List.set_cons_succ]
    refine wpG_call 1 rfl (by kernel_rfl) rfl fun K hK => ?_
    go_simp
    refine (of_any p A l.length c _).mono ?_
    rintro e w1 ⟨rfl, hb1⟩
    refine hK.out _ _ (hb1) ?_
    clear hK
    try simp only [Act.put, List.setIfInBounds_toArray, List.set_cons_zero, List.set_cons_succ]
    have hg1 : Grow W0.drew w1 := hb1
    have hqc := fun (W : World) (h : Grow w1 W) => hqc W (hg1.trans h)
    have hpc := fun (W : World) (h : Grow w1 W) => hpc W (hg1.trans h)
    refine wpG_call 3 rfl (by kernel_rfl) rfl fun K hK => ?_
    go_simp
    refine (of_any q B m.length d _).mono ?_
    rintro e w2 ⟨rfl, hb2⟩
    refine hK.out _ _ (hb2) ?_
    clear hK
    try simp only [Act.put, List.setIfInBounds_toArray, List.set_cons_zero, List.set_cons_succ]
    have hg2 : Grow w1 w2 := hb2
    have hqc := fun (W : World) (h : Grow w2 W) => hqc W (hg2.trans h)
    have hpc := fun (W : World) (h : Grow w2 W) => hpc W (hg2.trans h)
    refine wpG_take 4 rfl (by kernel_rfl) (fun _ _ _ h => h) rfl (v := ?_) ?_ ?_
    rotate_left
    · (intro w' hG; go_simp; try with_reducible rfl)
    try simp only [Act.put, List.setIfInBounds_toArray, List.set_cons_zero, List.set_cons_succ]
    refine wpG_take 5 rfl (by kernel_rfl) (fun _ _ _ h => h) rfl (v := ?_) ?_ ?_
    rotate_left
    · (intro w' hG; go_simp; try with_reducible rfl)
    try simp only [Act.put, List.setIfInBounds_toArray, List.set_cons_zero, List.set_cons_succ]
    refine wpG_take 6 rfl (by kernel_rfl) (fun _ _ _ h => h) rfl (v := ?_) ?_ ?_
    rotate_left
    · (intro w' hG; go_simp; try with_reducible rfl)
    try simp only [Act.put, List.setIfInBounds_toArray, List.set_cons_zero, List.set_cons_succ]
    refine wpG_take 7 rfl (by kernel_rfl) (fun _ _ _ h => h) rfl (v := ?_) ?_ ?_
    rotate_left
    · (intro w' hG; go_simp; try with_reducible rfl)
    try simp only [Act.put, List.setIfInBounds_toArray, List.set_cons_zero, List.set_cons_succ]
    refine wpG_take 8 rfl (by kernel_rfl) (fun _ _ _ h => h) rfl (v := ?_) ?_ ?_
    rotate_left
    · (intro w' hG; go_simp; try with_reducible rfl)
    try simp only [Act.put, List.setIfInBounds_toArray, List.set_cons_zero, List.set_cons_succ]
    refine wpG_take 9 rfl (by kernel_rfl) (fun _ _ _ h => h) rfl (v := ?_) ?_ ?_
    rotate_left
    · (intro w' hG; go_simp; try with_reducible rfl)
    try simp only [Act.put, List.setIfInBounds_toArray, List.set_cons_zero, List.set_cons_succ]
    refine wpG_call 10 rfl (by kernel_rfl) rfl fun K hK => ?_
    go_simp
    refine (beq_any A B l m c d _ (hl.drew.grow (hg1.trans hg2)) (hm.drew.grow (hg1.trans hg2))).mono ?_
    rintro e w3 ⟨rfl, rfl⟩
    refine hK.out _ _ (Grow.refl _) ?_
    clear hK
    try simp only [Act.put, List.setIfInBounds_toArray, List.set_cons_zero, List.set_cons_succ]
    refine wpG_take 11 rfl (by kernel_rfl) (fun _ _ _ h => h) rfl (v := ?_) ?_ ?_
    rotate_left
    · (intro w' hG; go_simp; try with_reducible rfl)
    try simp only [Act.put, List.setIfInBounds_toArray, List.set_cons_zero, List.set_cons_succ]
    refine wpG_take 12 rfl (by kernel_rfl) (fun _ _ _ h => h) rfl (v := ?_) ?_ ?_
    rotate_left
    · (intro w' hG; go_simp; try with_reducible rfl)
    try simp only [Act.put, List.setIfInBounds_toArray, List.set_cons_zero, List.set_cons_succ]
    refine wpG_done (by kernel_rfl) ?_ _
    go_wp2
    go_ret
    exact ⟨fret_bool (by rw [HS.out]; simp), (hG.trans (Grow.of_drew hg1)).trans hg2⟩
  · have h1 : actEq p q = false := by simpa using h1
    simp only [h1] at hr
    have HS := hide h1
    clear h1
    go_enter Try.func69, Try.ntmps69
    go_wp2_with fail
    generalize World.alloc (World.alloc w _) _ = W0 at *
    have hpc := fun (W : World) (h : Grow W0.drew W) => hp.grow (by simp) (Grow.of_drew h)
    have hqc := fun (W : World) (h : Grow W0.drew W) => hq.grow (by simp) (Grow.of_drew h)
    unfold Holds at hpc hqc
    clear hp hq
    refine wpG_region (by kernel_rfl) ?_
    refine wpG_take 0 rfl (by kernel_rfl) (fun _ _ _ h => h) rfl (v := ?_) ?_ ?_
    rotate_left
    · (intro w' hG; go_simp; try with_reducible rfl)
    try simp only [Act.put, List.setIfInBounds_toArray, List.set_cons_zero, List.set_cons_succ]
    refine wpG_take 2 rfl (by kernel_rfl) (fun _ _ _ h => h) rfl (v := ?_) ?_ ?_
    rotate_left
    · (intro w' hG; go_simp; try with_reducible rfl)
    try simp only [Act.put, List.setIfInBounds_toArray, List.set_cons_zero, List.set_cons_succ]
    refine wpG_call 1 rfl (by kernel_rfl) rfl fun K hK => ?_
    go_simp
    refine (of_any p A l.length c _).mono ?_
    rintro e w1 ⟨rfl, hb1⟩
    refine hK.out _ _ (hb1) ?_
    clear hK
    try simp only [Act.put, List.setIfInBounds_toArray, List.set_cons_zero, List.set_cons_succ]
    have hg1 : Grow W0.drew w1 := hb1
    have hqc := fun (W : World) (h : Grow w1 W) => hqc W (hg1.trans h)
    have hpc := fun (W : World) (h : Grow w1 W) => hpc W (hg1.trans h)
    refine wpG_call 3 rfl (by kernel_rfl) rfl fun K hK => ?_
    go_simp
    refine (of_any q B m.length d _).mono ?_
    rintro e w2 ⟨rfl, hb2⟩
    refine hK.out _ _ (hb2) ?_
    clear hK
    try simp only [Act.put, List.setIfInBounds_toArray, List.set_cons_zero, List.set_cons_succ]
    have hg2 : Grow w1 w2 := hb2
    have hqc := fun (W : World) (h : Grow w2 W) => hqc W (hg2.trans h)
    have hpc := fun (W : World) (h : Grow w2 W) => hpc W (hg2.trans h)
    refine wpG_take 4 rfl (by kernel_rfl) (fun _ _ _ h => h) rfl (v := ?_) ?_ ?_
    rotate_left
    · (intro w' hG; go_simp; try with_reducible rfl)
    try simp only [Act.put, List.setIfInBounds_toArray, List.set_cons_zero, List.set_cons_succ]
    refine wpG_take 5 rfl (by kernel_rfl) (fun _ _ _ h => h) rfl (v := ?_) ?_ ?_
    rotate_left
    · (intro w' hG; go_simp; try with_reducible rfl)
    try simp only [Act.put, List.setIfInBounds_toArray, List.set_cons_zero, List.set_cons_succ]
    refine wpG_skip 6 rfl (by kernel_rfl) (fun _ _ _ h => h) rfl ?_
    try simp only [Act.put, List.setIfInBounds_toArray, List.set_cons_zero, List.set_cons_succ]
    refine wpG_skip 7 rfl (by kernel_rfl) (fun _ _ _ h => h) rfl ?_
    try simp only [Act.put, List.setIfInBounds_toArray, List.set_cons_zero, List.set_cons_succ]
    refine wpG_skip 8 rfl (by kernel_rfl) (fun _ _ _ h => h) rfl ?_
    try simp only [Act.put, List.setIfInBounds_toArray, List.set_cons_zero, List.set_cons_succ]
    refine wpG_skip 9 rfl (by kernel_rfl) (fun _ _ _ h => h) rfl ?_
    try simp only [Act.put, List.setIfInBounds_toArray, List.set_cons_zero, List.set_cons_succ]
    refine wpG_skip 10 rfl (by kernel_rfl) (fun _ _ _ h => h) rfl ?_
    try simp only [Act.put, List.setIfInBounds_toArray, List.set_cons_zero, List.set_cons_succ]
    refine wpG_take 11 rfl (by kernel_rfl) (fun _ _ _ h => h) rfl (v := ?_) ?_ ?_
    rotate_left
    · (intro w' hG; go_simp; try with_reducible rfl)
    try simp only [Act.put, List.setIfInBounds_toArray, List.set_cons_zero, List.set_cons_succ]
    refine wpG_take 12 rfl (by kernel_rfl) (fun _ _ _ h => h) rfl (v := ?_) ?_ ?_
    rotate_left
    · (intro w' hG; go_simp; try with_reducible rfl)
    try simp only [Act.put, List.setIfInBounds_toArray, List.set_cons_zero, List.set_cons_succ]
    refine wpG_done (by kernel_rfl) ?_ _
    go_wp2
    go_ret
    exact ⟨fret_bool (by rw [HS.out]; rfl), (hG.trans (Grow.of_drew hg1)).trans hg2⟩
set_option maxRecDepth 100000 in
set_option maxHeartbeats 2000000 in
theorem refasame_any (p q : ActP) (A B : Option Addr) (l m : List UInt8) (c d : Nat) (w : World) (hl : Bytes w A l) (hm : Bytes w B m) :
    Calls Try.prog 70 #[av p A l.length c, av q B m.length d] w fun e w' => e = .returned (.bool (actEq p q && l == m)) ∧ Grow w w' := by
  have hG2 := fun (o o2 : Obj) => ((Grow.refl w).alloc o).alloc o2
  have hc1 := fun (W : World) (h : Grow w W) => conv_any c (hl.grow h)
  have hc2 := fun (W : World) (h : Grow w W) => conv_any d (hm.grow h)
  have hk := run_eqFt p.f q.f
  clear hl hm
  go_enter Try.func70, Try.ntmps70
  go_wp2
  all_goals
    go_ret
    exact ⟨fret_bool (by simp_all [actEq]), hG2 _ _⟩
end Go.Proofs.Ytcghgahohmabnaa
