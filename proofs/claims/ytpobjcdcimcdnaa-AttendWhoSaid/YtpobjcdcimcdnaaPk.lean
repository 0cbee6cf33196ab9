/- Packets as values; what of their heads may be. Whether two packets are the same. Whether two packets are the same, as the program has it. -/
import Derived.Test.YtpobjcdcimcdnaaTool
namespace Go.Proofs.Ytpobjcdcimcdnaa
open Go.RowKit
/-- what a packet has beside its body -/
structure Pkt where
  kind : Int
  t : Int
  frm : Int
  seq : Int
  hops : Int
  no : Int
  to : Int
  index : Int
  total : Int
  stamp : Int
  value : Int
/-- the cells of a packet whose body is the slice (A, n, c) -/
abbrev pcells (p : Pkt) (A : Option Addr) (n c : Nat) : Array Value :=
  #[.int .i64 p.kind, .int .i64 p.t, .int .i64 p.frm, .int .u32 p.seq, .int .i64 p.hops, .int .i64 p.no, .int .i64 p.to, .int .i64 p.index, .int .i64 p.total, .int .i64 p.stamp, .int .i64 p.value, .slice A n c]
/-- a packet whose body is the slice (A, n, c) -/
abbrev pv (p : Pkt) (A : Option Addr) (n c : Nat) : Value :=
  .agg #[.int .i64 p.kind, .int .i64 p.t, .int .i64 p.frm, .int .u32 p.seq, .int .i64 p.hops, .int .i64 p.no, .int .i64 p.to, .int .i64 p.index, .int .i64 p.total, .int .i64 p.stamp, .int .i64 p.value, .slice A n c]
def floodB (k : Int) : Bool := decide (3 ≤ k) && decide (k ≤ 6)
def hopsB (k : Int) : Bool := decide (1 ≤ k) && decide (k ≤ 63)
def knownB (k : Int) : Bool := decide (1 ≤ k) && decide (k ≤ 6)
def keyB (t f : Int) : Bool := decide (0 ≤ t) && decide (t ≤ 1152921504606846976) && decide (0 ≤ f) && decide (f < 64)
theorem ret_bool {a b : Bool} (h : a = b) : Ending.returned (.bool a) = .returned (.bool b) := by rw [h]
set_option maxHeartbeats 400000 in
theorem flood_any (k : Int) (w : World) : Calls Try.prog 104 #[.int .i64 k] w fun e w' => e = .returned (.bool (floodB k)) ∧ w = w' := by
  go_enter Try.func104, Try.ntmps104
  go_wp2
  all_goals
    go_ret
    exact ⟨ret_bool (by simp_all [floodB] <;> (intros; omega)), rfl⟩
set_option maxHeartbeats 400000 in
theorem hops_any (k : Int) (w : World) : Calls Try.prog 105 #[.int .i64 k] w fun e w' => e = .returned (.bool (hopsB k)) ∧ w = w' := by
  go_enter Try.func105, Try.ntmps105
  go_wp2
  all_goals
    go_ret
    exact ⟨ret_bool (by simp_all [hopsB] <;> (intros; omega)), rfl⟩
set_option maxHeartbeats 400000 in
theorem known_any (k : Int) (w : World) : Calls Try.prog 107 #[.int .i64 k] w fun e w' => e = .returned (.bool (knownB k)) ∧ w = w' := by
  go_enter Try.func107, Try.ntmps107
  go_wp2
  all_goals
    go_ret
    exact ⟨ret_bool (by simp_all [knownB] <;> (intros; omega)), rfl⟩
/-- a number of a node -/
def nodeB (k : Int) : Bool := decide (0 ≤ k) && decide (k < 64)
set_option maxHeartbeats 400000 in
theorem node_any (k : Int) (w : World) : Calls Try.prog 136 #[.int .i64 k] w fun e w' => e = .returned (.bool (nodeB k)) ∧ w = w' := by
  go_enter Try.func136, Try.ntmps136
  go_wp2
  all_goals
    go_ret
    exact ⟨ret_bool (by simp_all [nodeB] <;> (intros; omega)), rfl⟩
/-- the block of a key by value -/
abbrev kv (t f q : Int) : Value := .agg #[.int .i64 t, .int .i64 f, .int .u32 q]
theorem keyB_node (t f : Int) : keyB t f = (decide (0 ≤ t) && decide (t ≤ 1152921504606846976) && nodeB f) := by simp [keyB, nodeB, Bool.and_assoc]
set_option maxHeartbeats 400000 in
theorem keygood_any (t f q : Int) (w : World) : Calls Try.prog 106 #[kv t f q] w fun e w' => e = .returned (.bool (keyB t f)) ∧ Below w.heap.size w w' := by
  have HK := hide (keyB_node t f)
  have hn := hide (node_any f)
  by_cases h0 : 0 ≤ t
  · by_cases h1 : t ≤ 1152921504606846976
    · go_enter Try.func106, Try.ntmps106
      go_wp2_with fail
      refine (hn.out _).mono ?_
      rintro e w' ⟨rfl, rfl⟩
      go_wp2
      go_ret
      exact ⟨ret_bool (by rw [HK.out]; simp [h0, h1]), (Below.refl _ _).alloc (Nat.le_refl _) _⟩
    · have HF := hide (show keyB t f = false by rw [keyB_node]; simp [h1])
      go_enter Try.func106, Try.ntmps106
      go_wp2_with fail
      go_ret
      exact ⟨ret_bool (by rw [HF.out]), (Below.refl _ _).alloc (Nat.le_refl _) _⟩
  · have HF := hide (show keyB t f = false by rw [keyB_node]; simp [h0])
    go_enter Try.func106, Try.ntmps106
    go_wp2_with fail
    go_ret
    exact ⟨ret_bool (by rw [HF.out]), (Below.refl _ _).alloc (Nat.le_refl _) _⟩
set_option maxHeartbeats 400000 in
theorem refflood_any (k : Int) (w : World) : Calls Try.prog 102 #[.int .i64 k] w fun e w' => e = .returned (.bool (floodB k)) ∧ w = w' := by
  go_enter Try.func102, Try.ntmps102
  go_wp2
  all_goals
    go_ret
    exact ⟨ret_bool (by rw [Bool.eq_iff_iff]; simp_all [floodB] <;> omega), rfl⟩
set_option maxHeartbeats 400000 in
theorem refkeygood_any (t f q : Int) (w : World) : Calls Try.prog 103 #[kv t f q] w fun e w' => e = .returned (.bool (keyB t f)) ∧ Below w.heap.size w w' := by
  go_enter Try.func103, Try.ntmps103
  go_wp2
  all_goals
    go_ret
    exact ⟨ret_bool (by rw [Bool.eq_iff_iff]; simp_all [keyB] <;> omega), (Below.refl _ _).alloc (Nat.le_refl _) _⟩
/-- a key without anything -/
def noKey (p : Pkt) : Bool := p.t == 0 && p.frm == 0 && p.seq == 0
/-- whether the head of a packet may be -/
def headB (p : Pkt) : Bool := if floodB p.kind then hopsB p.hops && keyB p.t p.frm else knownB p.kind && p.hops == 0 && noKey p
set_option maxHeartbeats 1000000 in
theorem headgood_any (p : Pkt) (A : Option Addr) (n c : Nat) (w : World) : Calls Try.prog 45 #[pv p A n c] w fun e w' => e = .returned (.bool (headB p)) ∧ Below w.heap.size w w' := by
  go_enter Try.func45, Try.ntmps45
  go_wp2_with (first
    | (go_at_call 104; refine (flood_any _ _).mono ?_; rintro e w' ⟨rfl, rfl⟩)
    | (go_at_call 105; refine (hops_any _ _).mono ?_; rintro e w' ⟨rfl, rfl⟩)
    | (go_at_call 107; refine (known_any _ _).mono ?_; rintro e w' ⟨rfl, rfl⟩)
    | (go_at_call 106; refine (keygood_any _ _ _ _).mono ?_; rintro e w1 ⟨rfl, hbel1⟩))
  all_goals
    go_ret
    refine ⟨ret_bool (by simp_all [headB, noKey]), ?_⟩
    first
      | exact (Below.refl _ _).alloc (Nat.le_refl _) _
      | exact ((Below.refl _ _).alloc (Nat.le_refl _) _).trans (hbel1.mono (by simp))
set_option maxHeartbeats 1000000 in
theorem refheadgood_any (p : Pkt) (A : Option Addr) (n c : Nat) (w : World) : Calls Try.prog 44 #[pv p A n c] w fun e w' => e = .returned (.bool (headB p)) ∧ Below w.heap.size w w' := by
  go_enter Try.func44, Try.ntmps44
  go_wp2_with (first
    | (go_at_call 102; refine (refflood_any _ _).mono ?_; rintro e w' ⟨rfl, rfl⟩)
    | (go_at_call 103; refine (refkeygood_any _ _ _ _).mono ?_; rintro e w1 ⟨rfl, hbel1⟩))
  all_goals
    go_ret
    refine ⟨ret_bool (by rw [Bool.eq_iff_iff]; simp_all [headB, noKey, hopsB, knownB, floodB] <;> (first | omega | (rw [if_neg (by omega)]; omega))), ?_⟩
    first
      | exact (Below.refl _ _).alloc (Nat.le_refl _) _
      | exact ((Below.refl _ _).alloc (Nat.le_refl _) _).trans (hbel1.mono (by simp))
end Go.Proofs.Ytpobjcdcimcdnaa
namespace Go.Proofs.Ytpobjcdcimcdnaa
open Go.RowKit
def restB (p q : Pkt) : Bool := p.kind == q.kind && p.hops == q.hops && p.to == q.to && p.index == q.index && p.total == q.total && p.no == q.no && p.stamp == q.stamp && p.value == q.value
def keyEq (p q : Pkt) : Bool := p.t == q.t && p.frm == q.frm && p.seq == q.seq
def sameB (p q : Pkt) : Bool := restB p q && keyEq p q
abbrev restV (p : Pkt) : Value := .agg #[.int .i64 p.kind, .int .i64 p.hops, .int .i64 p.to, .int .i64 p.index, .int .i64 p.total, .int .i64 p.no, .int .i64 p.stamp, .int .i64 p.value]
theorem conv_any {w : World} {A : Option Addr} {l : List UInt8} (c : Nat) (hb : Bytes w A l) : (convert 25 9 (.slice A l.length c)).run Try.prog w = .ok (.string ⟨l.toArray⟩) w :=
  run_conv_bytes Try.underlying25 Try.underlying5 Try.underlying9 c hb
set_option maxHeartbeats 400000 in
theorem rest_any (p : Pkt) (A : Option Addr) (n c : Nat) (w : World) : Calls Try.prog 137 #[pv p A n c] w fun e w' => e = .returned (restV p) ∧ Below w.heap.size w w' := by
  go_enter Try.func137, Try.ntmps137
  go_wp2
  exact bodyPost_ret (v := restV p) (by simp [results, Try.results137, go_sem]) rfl ⟨rfl, ((Below.refl _ _).alloc (Nat.le_refl _) _).alloc (by simp) _⟩
theorem run_eqKey (p q : Pkt) (W : World) : (Op.equalIn 10000 63 (kv p.t p.frm p.seq) (kv q.t q.frm q.seq)).run Try.prog W = .ok (keyEq p q) W := by
  by_cases h1 : p.t = q.t <;> by_cases h2 : p.frm = q.frm <;> by_cases h3 : p.seq = q.seq <;> simp [go_sem, keyEq, h1, h2, h3]
theorem run_eqRest (p q : Pkt) (W : World) : (Op.equalIn 10000 137 (restV p) (restV q)).run Try.prog W = .ok (restB p q) W := by
  by_cases h0 : p.kind = q.kind
  rotate_left
  · simp [go_sem, restB, h0]
  by_cases h1 : p.hops = q.hops
  rotate_left
  · simp [go_sem, restB, h0, h1]
  by_cases h2 : p.to = q.to
  rotate_left
  · simp [go_sem, restB, h0, h1, h2]
  by_cases h3 : p.index = q.index
  rotate_left
  · simp [go_sem, restB, h0, h1, h2, h3]
  by_cases h4 : p.total = q.total
  rotate_left
  · simp [go_sem, restB, h0, h1, h2, h3, h4]
  by_cases h5 : p.no = q.no
  rotate_left
  · simp [go_sem, restB, h0, h1, h2, h3, h4, h5]
  by_cases h6 : p.stamp = q.stamp
  rotate_left
  · simp [go_sem, restB, h0, h1, h2, h3, h4, h5, h6]
  by_cases h7 : p.value = q.value
  rotate_left
  · simp [go_sem, restB, h0, h1, h2, h3, h4, h5, h6, h7]
  simp [go_sem, restB, h0, h1, h2, h3, h4, h5, h6, h7]
set_option maxRecDepth 100000 in
set_option maxHeartbeats 4000000 in
theorem refsame_any (p q : Pkt) (A B : Option Addr) (l m : List UInt8) (c d : Nat) (w : World) (hl : Bytes w A l) (hm : Bytes w B m) :
    Calls Try.prog 50 #[pv p A l.length c, pv q B m.length d] w fun e w' => e = .returned (.bool (sameB p q && l == m)) ∧ Below w.heap.size w w' := by
  have hG2 := fun (o o2 : Obj) => ((Grow.refl w).alloc o).alloc o2
  have hc1 := fun (W : World) (h : Grow w W) => conv_any c (hl.grow h)
  have hc2 := fun (W : World) (h : Grow w W) => conv_any d (hm.grow h)
  have hk := run_eqKey p q
  clear hl hm
  go_enter Try.func50, Try.ntmps50
  go_wp2
  all_goals
    go_ret
    exact ⟨ret_bool (by simp_all [sameB, restB]), hG2 _ _⟩
end Go.Proofs.Ytpobjcdcimcdnaa
namespace Go.Proofs.Ytpobjcdcimcdnaa
open Go.RowKit
set_option maxHeartbeats 400000 in
theorem beq_any (A B : Option Addr) (l m : List UInt8) (c d : Nat) (w : World) (hl : Bytes w A l) (hm : Bytes w B m) :
    Calls Try.prog 138 #[.slice A l.length c, .slice B m.length d] w fun e w' => e = .returned (.bool (l == m)) ∧ w = w' := by
  have hc1 := conv_any c hl
  have hc2 := conv_any d hm
  clear hl hm
  go_enter Try.func138, Try.ntmps138
  go_wp2
  go_ret
  exact ⟨ret_bool (by simp), rfl⟩
set_option maxRecDepth 100000 in
set_option maxHeartbeats 2000000 in
theorem same_any (p q : Pkt) (A B : Option Addr) (l m : List UInt8) (c d : Nat) (w : World) (hl : Bytes w A l) (hm : Bytes w B m) :
    Calls Try.prog 115 #[pv p A l.length c, pv q B m.length d] w fun e w' => e = .returned (.bool (sameB p q && l == m)) ∧ Below w.heap.size w w' := by
  obtain ⟨hp, hq, hG⟩ := two_boxes w (pcells p A l.length c) (pcells q B m.length d) 65 65 (by simp)
  have hl := hl.grow hG
  have hm := hm.grow hG
  by_cases h1 : restB p q = true
  · have hr := fun W => run_eqRest p q W
    simp only [h1] at hr
    by_cases h2 : keyEq p q = true
    · have hk := fun W => run_eqKey p q W
      simp only [h2] at hk
      have HS := hide (show sameB p q = true by simp [sameB, h1, h2])
      clear h1 h2
      go_enter Try.func115, Try.ntmps115
      go_wp2_with fail
      generalize World.alloc (World.alloc w _) _ = W0 at *
      have hpc := fun (W : World) (h : Grow W0.drew W) => hp.grow (by simp) (Grow.of_drew h)
      have hqc := fun (W : World) (h : Grow W0.drew W) => hq.grow (by simp) (Grow.of_drew h)
      unfold Holds at hpc hqc
      clear hp hq
      refine wpG_region (by kernel_rfl) ?_
      refine wpG_take 0 rfl (by kernel_rfl) (fun _ _ _ h => h) rfl (v := ?_) ?_ ?_
      rotate_left
      · (intro w' hG; go_simp; try with_reducible rfl)
      try simp only [Act.put, List.setIfInBounds_toArray, List.set_cons_zero, List.set_cons_succ]
      refine wpG_take 2 rfl (by kernel_rfl) (fun _ _ _ h => h) rfl (v := ?_) ?_ ?_
      rotate_left
      · (intro w' hG; go_simp; try with_reducible rfl)
      try simp only [Act.put, List.setIfInBounds_toArray, List.set_cons_zero, List.set_cons_succ]
      refine wpG_call 1 rfl (by kernel_rfl) rfl fun K hK => ?_
      go_simp
      refine (rest_any p A l.length c _).mono ?_
      rintro e w1 ⟨rfl, hb1⟩
      refine hK.out _ _ (hb1) ?_
      clear hK
      try simp only [Act.put, List.setIfInBounds_toArray, List.set_cons_zero, List.set_cons_succ]
      have hg1 : Grow W0.drew w1 := hb1
      have hqc := fun (W : World) (h : Grow w1 W) => hqc W (hg1.trans h)
      have hpc := fun (W : World) (h : Grow w1 W) => hpc W (hg1.trans h)
      refine wpG_call 3 rfl (by kernel_rfl) rfl fun K hK => ?_
      go_simp
      refine (rest_any q B m.length d _).mono ?_
      rintro e w2 ⟨rfl, hb2⟩
      refine hK.out _ _ (hb2) ?_
      clear hK
      try simp only [Act.put, List.setIfInBounds_toArray, List.set_cons_zero, List.set_cons_succ]
      have hg2 : Grow w1 w2 := hb2
      have hqc := fun (W : World) (h : Grow w2 W) => hqc W (hg2.trans h)
      have hpc := fun (W : World) (h : Grow w2 W) => hpc W (hg2.trans h)
      refine wpG_take 4 rfl (by kernel_rfl) (fun _ _ _ h => h) rfl (v := ?_) ?_ ?_
      rotate_left
      · (intro w' hG; go_simp; try with_reducible rfl)
      try simp only [Act.put, List.setIfInBounds_toArray, List.set_cons_zero, List.set_cons_succ]
      refine wpG_take 5 rfl (by kernel_rfl) (fun _ _ _ h => h) rfl (v := ?_) ?_ ?_
      rotate_left
      · (intro w' hG; go_simp; try with_reducible rfl)
      try simp only [Act.put, List.setIfInBounds_toArray, List.set_cons_zero, List.set_cons_succ]
      refine wpG_take 6 rfl (by kernel_rfl) (fun _ _ _ h => h) rfl (v := ?_) ?_ ?_
      rotate_left
      · (intro w' hG; go_simp; try with_reducible rfl)
      try simp only [Act.put, List.setIfInBounds_toArray, List.set_cons_zero, List.set_cons_succ]
      refine wpG_take 7 rfl (by kernel_rfl) (fun _ _ _ h => h) rfl (v := ?_) ?_ ?_
      rotate_left
      · (intro w' hG; go_simp; try with_reducible rfl)
      try simp only [Act.put, List.setIfInBounds_toArray, List.set_cons_zero, List.set_cons_succ]
      refine wpG_take 8 rfl (by kernel_rfl) (fun _ _ _ h => h) rfl (v := ?_) ?_ ?_
      rotate_left
      · (intro w' hG; go_simp; try with_reducible rfl)
      try simp only [Act.put, List.setIfInBounds_toArray, List.set_cons_zero, List.set_cons_succ]
      refine wpG_take 9 rfl (by kernel_rfl) (fun _ _ _ h => h) rfl (v := ?_) ?_ ?_
      rotate_left
      · (intro w' hG; go_simp; try with_reducible rfl)
      try simp only [Act.put, List.setIfInBounds_toArray, List.set_cons_zero, List.set_cons_succ]
      refine wpG_take 10 rfl (by kernel_rfl) (fun _ _ _ h => h) rfl (v := ?_) ?_ ?_
      rotate_left
      · (intro w' hG; go_simp; try with_reducible rfl)
      try simp only [Act.put, List.setIfInBounds_toArray, List.set_cons_zero, List.set_cons_succ]
      refine wpG_take 11 rfl (by kernel_rfl) (fun _ _ _ h => h) rfl (v := ?_) ?_ ?_
      rotate_left
      · (intro w' hG; go_simp; try with_reducible rfl)
      try simp only [Act.put, List.setIfInBounds_toArray, List.set_cons_zero, List.set_cons_succ]
      refine wpG_take 12 rfl (by kernel_rfl) (fun _ _ _ h => h) rfl (v := ?_) ?_ ?_
      rotate_left
      · (intro w' hG; go_simp; try with_reducible rfl)
      try simp only [Act.put, List.setIfInBounds_toArray, List.set_cons_zero, List.set_cons_succ]
      refine wpG_take 13 rfl (by kernel_rfl) (fun _ _ _ h => h) rfl (v := ?_) ?_ ?_
      rotate_left
      · (intro w' hG; go_simp; try with_reducible rfl)
      try simp only [Act.put, List.setIfInBounds_toArray, List.set_cons_zero, List.set_cons_succ]
      refine wpG_take 14 rfl (by kernel_rfl) (fun _ _ _ h => h) rfl (v := ?_) ?_ ?_
      rotate_left
      · (intro w' hG; go_simp; try with_reducible rfl)
      try simp only [Act.put, List.setIfInBounds_toArray, List.set_cons_zero, List.set_cons_succ]
      refine wpG_take 15 rfl (by kernel_rfl) (fun _ _ _ h => h) rfl (v := ?_) ?_ ?_
      rotate_left
      · (intro w' hG; go_simp; try with_reducible rfl)
      try simp only [Act.put, List.setIfInBounds_toArray, List.set_cons_zero, List.set_cons_succ]
      refine wpG_take 16 rfl (by kernel_rfl) (fun _ _ _ h => h) rfl (v := ?_) ?_ ?_
      rotate_left
      · (intro w' hG; go_simp; try with_reducible rfl)
      try simp only [Act.put, List.setIfInBounds_toArray, List.set_cons_zero, List.set_cons_succ]
      refine wpG_call 17 rfl (by kernel_rfl) rfl fun K hK => ?_
      go_simp
      refine (beq_any A B l m c d _ (hl.drew.grow (hg1.trans hg2)) (hm.drew.grow (hg1.trans hg2))).mono ?_
      rintro e w3 ⟨rfl, rfl⟩
      refine hK.out _ _ (Grow.refl _) ?_
      clear hK
      try simp only [Act.put, List.setIfInBounds_toArray, List.set_cons_zero, List.set_cons_succ]
      refine wpG_take 18 rfl (by kernel_rfl) (fun _ _ _ h => h) rfl (v := ?_) ?_ ?_
      rotate_left
      · (intro w' hG; go_simp; try with_reducible rfl)
      try simp only [Act.put, List.setIfInBounds_toArray, List.set_cons_zero, List.set_cons_succ]
      refine wpG_take 19 rfl (by kernel_rfl) (fun _ _ _ h => h) rfl (v := ?_) ?_ ?_
      rotate_left
      · (intro w' hG; go_simp; try with_reducible rfl)
      try simp only [Act.put, List.setIfInBounds_toArray, List.set_cons_zero, List.set_cons_succ]
      refine wpG_done (by kernel_rfl) ?_ _
      go_wp2
      go_ret
      exact ⟨ret_bool (by rw [HS.out]; simp), (hG.trans (Grow.of_drew hg1)).trans hg2⟩
    · have h2 : keyEq p q = false := by simpa using h2
      have hk := fun W => run_eqKey p q W
      simp only [h2] at hk
      have HS := hide (show sameB p q = false by simp [sameB, h1, h2])
      clear h1 h2
      go_enter Try.func115, Try.ntmps115
      go_wp2_with fail
      generalize World.alloc (World.alloc w _) _ = W0 at *
      have hpc := fun (W : World) (h : Grow W0.drew W) => hp.grow (by simp) (Grow.of_drew h)
      have hqc := fun (W : World) (h : Grow W0.drew W) => hq.grow (by simp) (Grow.of_drew h)
      unfold Holds at hpc hqc
      clear hp hq
      refine wpG_region (by kernel_rfl) ?_
      refine wpG_take 0 rfl (by kernel_rfl) (fun _ _ _ h => h) rfl (v := ?_) ?_ ?_
      rotate_left
      · (intro w' hG; go_simp; try with_reducible rfl)
      try simp only [Act.put, List.setIfInBounds_toArray, List.set_cons_zero, List.set_cons_succ]
      refine wpG_take 2 rfl (by kernel_rfl) (fun _ _ _ h => h) rfl (v := ?_) ?_ ?_
      rotate_left
      · (intro w' hG; go_simp; try with_reducible rfl)
      try simp only [Act.put, List.setIfInBounds_toArray, List.set_cons_zero, List.set_cons_succ]
      refine wpG_call 1 rfl (by kernel_rfl) rfl fun K hK => ?_
      go_simp
      refine (rest_any p A l.length c _).mono ?_
      rintro e w1 ⟨rfl, hb1⟩
      refine hK.out _ _ (hb1) ?_
      clear hK
      try simp only [Act.put, List.setIfInBounds_toArray, List.set_cons_zero, List.set_cons_succ]
      have hg1 : Grow W0.drew w1 := hb1
      have hqc := fun (W : World) (h : Grow w1 W) => hqc W (hg1.trans h)
      have hpc := fun (W : World) (h : Grow w1 W) => hpc W (hg1.trans h)
      refine wpG_call 3 rfl (by kernel_rfl) rfl fun K hK => ?_
      go_simp
      refine (rest_any q B m.length d _).mono ?_
      rintro e w2 ⟨rfl, hb2⟩
      refine hK.out _ _ (hb2) ?_
      clear hK
      try simp only [Act.put, List.setIfInBounds_toArray, List.set_cons_zero, List.set_cons_succ]
      have hg2 : Grow w1 w2 := hb2
      have hqc := fun (W : World) (h : Grow w2 W) => hqc W (hg2.trans h)
      have hpc := fun (W : World) (h : Grow w2 W) => hpc W (hg2.trans h)
      refine wpG_take 4 rfl (by kernel_rfl) (fun _ _ _ h => h) rfl (v := ?_) ?_ ?_
      rotate_left
      · (intro w' hG; go_simp; try with_reducible rfl)
      try simp only [Act.put, List.setIfInBounds_toArray, List.set_cons_zero, List.set_cons_succ]
      refine wpG_take 5 rfl (by kernel_rfl) (fun _ _ _ h => h) rfl (v := ?_) ?_ ?_
      rotate_left
      · (intro w' hG; go_simp; try with_reducible rfl)
      try simp only [Act.put, List.setIfInBounds_toArray, List.set_cons_zero, List.set_cons_succ]
      refine wpG_take 6 rfl (by kernel_rfl) (fun _ _ _ h => h) rfl (v := ?_) ?_ ?_
      rotate_left
      · (intro w' hG; go_simp; try with_reducible rfl)
      try simp only [Act.put, List.setIfInBounds_toArray, List.set_cons_zero, List.set_cons_succ]
      refine wpG_take 7 rfl (by kernel_rfl) (fun _ _ _ h => h) rfl (v := ?_) ?_ ?_
      rotate_left
      · (intro w' hG; go_simp; try with_reducible rfl)
      try simp only [Act.put, List.setIfInBounds_toArray, List.set_cons_zero, List.set_cons_succ]
      refine wpG_take 8 rfl (by kernel_rfl) (fun _ _ _ h => h) rfl (v := ?_) ?_ ?_
      rotate_left
      · (intro w' hG; go_simp; try with_reducible rfl)
      try simp only [Act.put, List.setIfInBounds_toArray, List.set_cons_zero, List.set_cons_succ]
      refine wpG_take 9 rfl (by kernel_rfl) (fun _ _ _ h => h) rfl (v := ?_) ?_ ?_
      rotate_left
      · (intro w' hG; go_simp; try with_reducible rfl)
      try simp only [Act.put, List.setIfInBounds_toArray, List.set_cons_zero, List.set_cons_succ]
      refine wpG_take 10 rfl (by kernel_rfl) (fun _ _ _ h => h) rfl (v := ?_) ?_ ?_
      rotate_left
      · (intro w' hG; go_simp; try with_reducible rfl)
      try simp only [Act.put, List.setIfInBounds_toArray, List.set_cons_zero, List.set_cons_succ]
      refine wpG_take 11 rfl (by kernel_rfl) (fun _ _ _ h => h) rfl (v := ?_) ?_ ?_
      rotate_left
      · (intro w' hG; go_simp; try with_reducible rfl)
      try simp only [Act.put, List.setIfInBounds_toArray, List.set_cons_zero, List.set_cons_succ]
      refine wpG_take 12 rfl (by kernel_rfl) (fun _ _ _ h => h) rfl (v := ?_) ?_ ?_
      rotate_left
      · (intro w' hG; go_simp; try with_reducible rfl)
      try simp only [Act.put, List.setIfInBounds_toArray, List.set_cons_zero, List.set_cons_succ]
      refine wpG_skip 13 rfl (by kernel_rfl) (fun _ _ _ h => h) rfl ?_
      try simp only [Act.put, List.setIfInBounds_toArray, List.set_cons_zero, List.set_cons_succ]
      refine wpG_skip 14 rfl (by kernel_rfl) (fun _ _ _ h => h) rfl ?_
      try simp only [Act.put, List.setIfInBounds_toArray, List.set_cons_zero, List.set_cons_succ]
      refine wpG_skip 15 rfl (by kernel_rfl) (fun _ _ _ h => h) rfl ?_
      try simp only [Act.put, List.setIfInBounds_toArray, List.set_cons_zero, List.set_cons_succ]
      refine wpG_skip 16 rfl (by kernel_rfl) (fun _ _ _ h => h) rfl ?_
      try simp only [Act.put, List.setIfInBounds_toArray, List.set_cons_zero, List.set_cons_succ]
      refine wpG_skip 17 rfl (by kernel_rfl) (fun _ _ _ h => h) rfl ?_
      try simp only [Act.put, List.setIfInBounds_toArray, List.set_cons_zero, List.set_cons_succ]
      refine wpG_take 18 rfl (by kernel_rfl) (fun _ _ _ h => h) rfl (v := ?_) ?_ ?_
      rotate_left
      · (intro w' hG; go_simp; try with_reducible rfl)
      try simp only [Act.put, List.setIfInBounds_toArray, List.set_cons_zero, List.set_cons_succ]
      refine wpG_take 19 rfl (by kernel_rfl) (fun _ _ _ h => h) rfl (v := ?_) ?_ ?_
      rotate_left
      · (intro w' hG; go_simp; try with_reducible rfl)
      try simp only [Act.put, List.setIfInBounds_toArray, List.set_cons_zero, List.set_cons_succ]
      refine wpG_done (by kernel_rfl) ?_ _
      go_wp2
      go_ret
      exact ⟨ret_bool (by rw [HS.out]; rfl), (hG.trans (Grow.of_drew hg1)).trans hg2⟩
  · have h1 : restB p q = false := by simpa using h1
    have hr := fun W => run_eqRest p q W
    simp only [h1] at hr
    have HS := hide (show sameB p q = false by simp [sameB, h1])
    clear h1
    go_enter Try.func115, Try.ntmps115
    go_wp2_with fail
    generalize World.alloc (World.alloc w _) _ = W0 at *
    have hpc := fun (W : World) (h : Grow W0.drew W) => hp.grow (by simp) (Grow.of_drew h)
    have hqc := fun (W : World) (h : Grow W0.drew W) => hq.grow (by simp) (Grow.of_drew h)
    unfold Holds at hpc hqc
    clear hp hq
    refine wpG_region (by kernel_rfl) ?_
    refine wpG_take 0 rfl (by kernel_rfl) (fun _ _ _ h => h) rfl (v := ?_) ?_ ?_
    rotate_left
    · (intro w' hG; go_simp; try with_reducible rfl)
    try simp only [Act.put, List.setIfInBounds_toArray, List.set_cons_zero, List.set_cons_succ]
    refine wpG_take 2 rfl (by kernel_rfl) (fun _ _ _ h => h) rfl (v := ?_) ?_ ?_
    rotate_left
    · (intro w' hG; go_simp; try with_reducible rfl)
    try simp only [Act.put, List.setIfInBounds_toArray, List.set_cons_zero, List.set_cons_succ]
    refine wpG_call 1 rfl (by kernel_rfl) rfl fun K hK => ?_
    go_simp
    refine (rest_any p A l.length c _).mono ?_
    rintro e w1 ⟨rfl, hb1⟩
    refine hK.out _ _ (hb1) ?_
    clear hK
    try simp only [Act.put, List.setIfInBounds_toArray, List.set_cons_zero, List.set_cons_succ]
    have hg1 : Grow W0.drew w1 := hb1
    have hqc := fun (W : World) (h : Grow w1 W) => hqc W (hg1.trans h)
    have hpc := fun (W : World) (h : Grow w1 W) => hpc W (hg1.trans h)
    refine wpG_call 3 rfl (by kernel_rfl) rfl fun K hK => ?_
    go_simp
    refine (rest_any q B m.length d _).mono ?_
    rintro e w2 ⟨rfl, hb2⟩
    refine hK.out _ _ (hb2) ?_
    clear hK
    try simp only [Act.put, List.setIfInBounds_toArray, List.set_cons_zero, List.set_cons_succ]
    have hg2 : Grow w1 w2 := hb2
    have hqc := fun (W : World) (h : Grow w2 W) => hqc W (hg2.trans h)
    have hpc := fun (W : World) (h : Grow w2 W) => hpc W (hg2.trans h)
    refine wpG_take 4 rfl (by kernel_rfl) (fun _ _ _ h => h) rfl (v := ?_) ?_ ?_
    rotate_left
    · (intro w' hG; go_simp; try with_reducible rfl)
    try simp only [Act.put, List.setIfInBounds_toArray, List.set_cons_zero, List.set_cons_succ]
    refine wpG_take 5 rfl (by kernel_rfl) (fun _ _ _ h => h) rfl (v := ?_) ?_ ?_
    rotate_left
    · (intro w' hG; go_simp; try with_reducible rfl)
    try simp only [Act.put, List.setIfInBounds_toArray, List.set_cons_zero, List.set_cons_succ]
    refine wpG_skip 6 rfl (by kernel_rfl) (fun _ _ _ h => h) rfl ?_
    try simp only [Act.put, List.setIfInBounds_toArray, List.set_cons_zero, List.set_cons_succ]
    refine wpG_skip 7 rfl (by kernel_rfl) (fun _ _ _ h => h) rfl ?_
    try simp only [Act.put, List.setIfInBounds_toArray, List.set_cons_zero, List.set_cons_succ]
    refine wpG_skip 8 rfl (by kernel_rfl) (fun _ _ _ h => h) rfl ?_
    try simp only [Act.put, List.setIfInBounds_toArray, List.set_cons_zero, List.set_cons_succ]
    refine wpG_skip 9 rfl (by kernel_rfl) (fun _ _ _ h => h) rfl ?_
    try simp only [Act.put, List.setIfInBounds_toArray, List.set_cons_zero, List.set_cons_succ]
    refine wpG_skip 10 rfl (by kernel_rfl) (fun _ _ _ h => h) rfl ?_
    try simp only [Act.put, List.setIfInBounds_toArray, List.set_cons_zero, List.set_cons_succ]
    refine wpG_take 11 rfl (by kernel_rfl) (fun _ _ _ h => h) rfl (v := ?_) ?_ ?_
    rotate_left
    · (intro w' hG; go_simp; try with_reducible rfl)
    try simp only [Act.put, List.setIfInBounds_toArray, List.set_cons_zero, List.set_cons_succ]
    refine wpG_take 12 rfl (by kernel_rfl) (fun _ _ _ h => h) rfl (v := ?_) ?_ ?_
    rotate_left
    · (intro w' hG; go_simp; try with_reducible rfl)
    try simp only [Act.put, List.setIfInBounds_toArray, List.set_cons_zero, List.set_cons_succ]
    refine wpG_skip 13 rfl (by kernel_rfl) (fun _ _ _ h => h) rfl ?_
    try simp only [Act.put, List.setIfInBounds_toArray, List.set_cons_zero, List.set_cons_succ]
    refine wpG_skip 14 rfl (by kernel_rfl) (fun _ _ _ h => h) rfl ?_
    try simp only [Act.put, List.setIfInBounds_toArray, List.set_cons_zero, List.set_cons_succ]
    refine wpG_skip 15 rfl (by kernel_rfl) (fun _ _ _ h => h) rfl ?_
    try simp only [Act.put, List.setIfInBounds_toArray, List.set_cons_zero, List.set_cons_succ]
    refine wpG_skip 16 rfl (by kernel_rfl) (fun _ _ _ h => h) rfl ?_
    try simp only [Act.put, List.setIfInBounds_toArray, List.set_cons_zero, List.set_cons_succ]
    refine wpG_skip 17 rfl (by kernel_rfl) (fun _ _ _ h => h) rfl ?_
    try simp only [Act.put, List.setIfInBounds_toArray, List.set_cons_zero, List.set_cons_succ]
    refine wpG_take 18 rfl (by kernel_rfl) (fun _ _ _ h => h) rfl (v := ?_) ?_ ?_
    rotate_left
    · (intro w' hG; go_simp; try with_reducible rfl)
    try simp only [Act.put, List.setIfInBounds_toArray, List.set_cons_zero, List.set_cons_succ]
    refine wpG_take 19 rfl (by kernel_rfl) (fun _ _ _ h => h) rfl (v := ?_) ?_ ?_
    rotate_left
    · (intro w' hG; go_simp; try with_reducible rfl)
    try simp only [Act.put, List.setIfInBounds_toArray, List.set_cons_zero, List.set_cons_succ]
    refine wpG_done (by kernel_rfl) ?_ _
    go_wp2
    go_ret
    exact ⟨ret_bool (by rw [HS.out]; rfl), (hG.trans (Grow.of_drew hg1)).trans hg2⟩
end Go.Proofs.Ytpobjcdcimcdnaa
