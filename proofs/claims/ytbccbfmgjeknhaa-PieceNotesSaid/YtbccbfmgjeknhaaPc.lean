/- Piece (chapter 42): what is in memory; New, some. -/
import Derived.Test.YtbccbfmgjeknhaaCc
import Derived.Test.YtbccbfmgjeknhaaFewQ
namespace Go.Proofs.Ytbccbfmgjeknhaa
open Go.RowKit
theorem Bytes.keptS {w w' : World} {A : Option Addr} {l : List UInt8} {S : List Nat} (h : Bytes w A l) (hk : Kept w.heap.size S w w') (hA : l ≠ [] → ∀ q, blk A = some q → q ∉ S) : Bytes w' A l := by
  intro hl
  obtain ⟨b, o, rfl, hc⟩ := h hl
  have hlt := World.block_lt_of_cell? w _ (hc 0 (List.length_pos_iff.2 hl))
  have hb := hk.block b hlt (hA hl b rfl)
  exact ⟨b, o, rfl, fun j hj => (World.cell?_of_block (w := w) hb).trans (hc j hj)⟩
/-- a part that is there -/
structure PE where
  k : Nat
  A : Option Addr
  l : List UInt8
  c : Nat
abbrev kl (x : PE) : Nat × List UInt8 := (x.k, x.l)
abbrev ent (x : PE) : Nat × Value := (x.k, .slice x.A x.l.length x.c)
abbrev pcc (sf no tot : Int) (m : Nat) : Array Value := #[.int .i64 sf, .int .i64 no, .int .i64 tot, .map (some m)]
/-- a piece at p, its map at m -/
structure Pc (w : World) (N p m : Nat) (sf no tot : Int) (X : List PE) : Prop where
  box : Box w p (pcc sf no tot m)
  map : MapI w m (X.map ent)
  low : N ≤ p ∧ N ≤ m ∧ p ≠ m
  own : ∀ x, x ∈ X → Bytes w x.A x.l ∧ ∀ q, blk x.A = some q → N ≤ q ∧ q ≠ p ∧ q ≠ m ∧ q < w.heap.size
theorem Pc.grow {w w' : World} {N p m : Nat} {sf no tot : Int} {X : List PE} (h : Pc w N p m sf no tot X) (hg : Grow w w') : Pc w' N p m sf no tot X :=
  ⟨h.box.grow hg, h.map.grow hg, h.low, fun x hx => ⟨(h.own x hx).1.grow hg, fun q hq => by obtain ⟨h1, h2, h3, h4⟩ := (h.own x hx).2 q hq; exact ⟨h1, h2, h3, by have := hg.size; omega⟩⟩⟩
theorem Pc.drew {w : World} {N p m : Nat} {sf no tot : Int} {X : List PE} (h : Pc w N p m sf no tot X) : Pc w.drew N p m sf no tot X := h.grow (Grow.refl w).drew
theorem Pc.kept {w w' : World} {N p m : Nat} {S : List Nat} {sf no tot : Int} {X : List PE} (h : Pc w N p m sf no tot X) (hk : Kept w.heap.size S w w') (hS : ∀ q, q ∈ S → q < N) : Pc w' N p m sf no tot X := by
  obtain ⟨l1, l2, l3⟩ := h.low
  refine ⟨h.box.kept hk (fun e => by have := hS _ e; omega), h.map.keep (hk.block m h.map.lt (fun e => by have := hS _ e; omega)), h.low, fun x hx => ?_⟩
  obtain ⟨h1, h2⟩ := h.own x hx
  exact ⟨h1.keptS hk (fun _ q hq e => by have := hS _ e; have := h2 q hq; omega), fun q hq => by obtain ⟨h1, h2, h3, h4⟩ := h2 q hq; exact ⟨h1, h2, h3, by have := hk.size; omega⟩⟩
theorem pnew_any (sf : Int) (w : World) :
    Calls Try.prog 24 #[.int .i64 sf] w fun r w' => ∃ p m, r = .returned (.pointer (some ⟨p, 0, none⟩)) ∧ Pc w' w.heap.size p m sf 0 0 [] ∧ Grow w w' := by
  have hmk := fun w => run_makeMap (P := Try.prog) 101 w
  have hm := (MapI.made w).grow ((Grow.refl (w.alloc (.map #[] 0))).alloc (.cells (pcc sf 0 0 w.heap.size) 103))
  have hb := Box.new (w.alloc (.map #[] 0)) (pcc sf 0 0 w.heap.size) 103 (g := w.heap.size + 1) (by simp)
  have hg := ((Grow.refl w).alloc (.map #[] 0)).alloc (.cells (pcc sf 0 0 w.heap.size) 103)
  go_enter Try.func24, Try.ntmps24
  go_wp2
  go_ret
  exact ⟨_, _, rfl, ⟨hb, hm, ⟨by simp, by simp, by simp⟩, by simp⟩, hg⟩
theorem psome_nil (w : World) : Calls Try.prog 58 #[.pointer none] w fun r w' => r = .returned (.bool false) ∧ w = w' := by
  go_enter Try.func58, Try.ntmps58
  go_wp2
  go_ret
  exact ⟨rfl, rfl⟩
theorem psome_any {N p m : Nat} {sf no tot : Int} {X : List PE} (w : World) (h : Pc w N p m sf no tot X) :
    Calls Try.prog 58 #[.pointer (some ⟨p, 0, none⟩)] w fun r w' => r = .returned (.bool (!X.isEmpty)) ∧ w = w' := by
  have hc := h.box.cell
  have hl := run_lenI (P := Try.prog) h.map Try.underlying101 3
  have hn : (!X.isEmpty) = decide (0 < (X.map ent).length) := by cases X <;> simp
  rw [hn]
  generalize X.map ent = E at *
  go_enter Try.func58, Try.ntmps58
  go_wp2
  go_ret
  exact ⟨rfl, rfl⟩
/-- what is wrong with a chunk, by what is there -/
def pcheck (sf no tot : Int) (L : List (Nat × List UInt8)) (q : Pkt) (n : Nat) : Int :=
  if chunkB q n = false then 1 else if q.to ≠ sf then 8 else if L = [] ∨ no < q.no then 0 else if q.no < no then 11 else if q.total ≠ tot then 5
  else if (L.any fun x => x.1 == q.index.toNat) = true then 12 else 0
theorem keyed_any (X : List PE) (i : Nat) : (keyed (X.map ent) i).isSome = (X.map kl).any (fun x => x.1 == i) := by
  unfold keyed
  induction X with
  | nil => rfl
  | cons x X ih =>
    rw [List.map_cons, List.map_cons, List.any_cons, List.find?_cons]
    by_cases h : x.k = i
    · simp [h]
    · have : (x.k == i) = false := by simpa using h
      simp only [this, Bool.false_or]
      exact ih
theorem zeroSl (W : World) : (zeroValue 22).run Try.prog W = .ok (.slice none 0 0) W := by
  have h : (Try.prog.info? 22).map (fun i => i.zero) = some (some (.slice none 0 0)) := by kernel_rfl
  cases hi : Try.prog.info? 22 with
  | none => simp [hi] at h
  | some i =>
    simp [hi] at h
    simp [zeroValue, typeInfo, hi, h]
theorem chunkB_index (q : Pkt) (n : Nat) (h : chunkB q n = true) : 0 ≤ q.index ∧ q.index < q.total ∧ q.total ≤ 255 := by
  simp [chunkB, chunkN, countsB] at h
  omega
set_option maxRecDepth 100000 in
set_option maxHeartbeats 2000000 in
theorem pcheck_any {N p m : Nat} {sf no tot : Int} {X : List PE} (q : Pkt) (A : Option Addr) (n c : Nat) (w : World) (h : Pc w N p m sf no tot X) (hn : n ≤ 1000000000000) :
    Calls Try.prog 57 #[.pointer (some ⟨p, 0, none⟩), pv q A n c] w fun r w' => r = .returned (.int .i64 (pcheck sf no tot (X.map kl) q n)) ∧ Grow w w' := by
  have HC := hide (fun W => chunkgood_any q A n c W hn)
  have HI := hide (chunkB_index q n)
  have HR := hide (show pcheck sf no tot (X.map kl) q n = if chunkB q n = false then 1 else if q.to ≠ sf then 8 else if X.map kl = [] ∨ no < q.no then 0 else if q.no < no then 11 else if q.total ≠ tot then 5
    else if ((X.map kl).any fun x => x.1 == q.index.toNat) = true then 12 else 0 from rfl)
  have hK := hide (fun i => keyed_any X i)
  have hE := hide (show X.map kl = [] ↔ X = [] by simp)
  have hS := hide (fun W (g : Grow w W) => psome_any W (h.grow g))
  have hM := hide (fun W (g : Grow w W) => h.map.grow g)
  generalize pcheck sf no tot (X.map kl) q n = e at *
  generalize chunkB q n = b1 at *
  go_enter Try.func57, Try.ntmps57
  go_wp2_with fail
  refine (HC.out _).mono ?_
  rintro r w1 ⟨rfl, hb1⟩
  have hb1 : Grow _ w1 := hb1
  obtain ⟨q0, hg1⟩ := peel1 hb1
  have hp1 := h.box.grow hg1
  clear hb1 HC
  cases b1 with
  | false =>
    have HR2 := hide (HR.out.trans (if_pos rfl))
    go_wp2
    go_ret
    exact ⟨by rw [HR2.out]; rfl, hg1⟩
  | true =>
    obtain ⟨hi0, hi1, hi2⟩ := HI.out rfl
    have HR2 := hide (HR.out.trans (if_neg (by simp)))
    clear HR HI
    have hh := hide h
    clear h
    have c1 := q0.cell
    have c2 := hp1.cell
    have Rq := fun (W : World) (h : Grow w1.drew W) => (q0.grow (Grow.of_drew h)).cell
    have Rp := fun (W : World) (h : Grow w1.drew W) => (hp1.grow (Grow.of_drew h)).cell
    go_wp2_with fail
    refine wpR_region (Grow) [] (by kernel_rfl) ?_
    refine wpR_take grow_rf grow_tr 0 rfl (by kernel_rfl) (fun _ _ _ h => h) rfl (v := ?_) ?_ ?_
    rotate_left
    · (intro w' hG; go_simp; try with_reducible rfl)
    try simp only [Act.put, List.setIfInBounds_toArray, List.set_cons_zero, List.set_cons_succ]
    refine wpR_take grow_rf grow_tr 1 rfl (by kernel_rfl) (fun _ _ _ h => h) rfl (v := ?_) ?_ ?_
    rotate_left
    · (intro w' hG; go_simp; try with_reducible rfl)
    try simp only [Act.put, List.setIfInBounds_toArray, List.set_cons_zero, List.set_cons_succ]
    refine wpR_take grow_rf grow_tr 2 rfl (by kernel_rfl) (fun _ _ _ h => h) rfl (v := ?_) ?_ ?_
    rotate_left
    · (intro w' hG; go_simp; try with_reducible rfl)
    try simp only [Act.put, List.setIfInBounds_toArray, List.set_cons_zero, List.set_cons_succ]
    refine wpR_take grow_rf grow_tr 3 rfl (by kernel_rfl) (fun _ _ _ h => h) rfl (v := ?_) ?_ ?_
    rotate_left
    · (intro w' hG; go_simp; try with_reducible rfl)
    try simp only [Act.put, List.setIfInBounds_toArray, List.set_cons_zero, List.set_cons_succ]
    refine wpR_take grow_rf grow_tr 4 rfl (by kernel_rfl) (fun _ _ _ h => h) rfl (v := ?_) ?_ ?_
    rotate_left
    · (intro w' hG; go_simp; try with_reducible rfl)
    try simp only [Act.put, List.setIfInBounds_toArray, List.set_cons_zero, List.set_cons_succ]
    refine wpR_take grow_rf grow_tr 5 rfl (by kernel_rfl) (fun _ _ _ h => h) rfl (v := ?_) ?_ ?_
    rotate_left
    · (intro w' hG; go_simp; try with_reducible rfl)
    try simp only [Act.put, List.setIfInBounds_toArray, List.set_cons_zero, List.set_cons_succ]
    refine wpR_take grow_rf grow_tr 6 rfl (by kernel_rfl) (fun _ _ _ h => h) rfl (v := ?_) ?_ ?_
    rotate_left
    · (intro w' hG; go_simp; try with_reducible rfl)
    try simp only [Act.put, List.setIfInBounds_toArray, List.set_cons_zero, List.set_cons_succ]
    refine wpR_take grow_rf grow_tr 7 rfl (by kernel_rfl) (fun _ _ _ h => h) rfl (v := ?_) ?_ ?_
    rotate_left
    · (intro w' hG; go_simp; try with_reducible rfl)
    try simp only [Act.put, List.setIfInBounds_toArray, List.set_cons_zero, List.set_cons_succ]
    refine wpR_done (by kernel_rfl) ?_ _
    have hg2 : Grow w w1.drew := hg1.drew
    have q2 := q0.drew
    have p2 := hp1.drew
    clear Rq Rp c1 c2 q0 hp1
    generalize w1.drew = w2 at *
    cases ht : (q.to != sf) with
    | true =>
      have HR3 := hide (HR2.out.trans (if_pos (by simpa using ht)))
      clear ht
      go_wp2
      go_ret
      exact ⟨by rw [HR3.out]; rfl, hg2⟩
    | false =>
      have HR3 := hide (HR2.out.trans (if_neg (by simpa using ht)))
      clear ht HR2
      have c1 := q2.cell
      have c2 := p2.cell
      have Rq := fun (W : World) (h : Grow w2.drew W) => (q2.grow (Grow.of_drew h)).cell
      have Rp := fun (W : World) (h : Grow w2.drew W) => (p2.grow (Grow.of_drew h)).cell
      cases hX : X.isEmpty with
      | true =>
        have HR4 := hide (HR3.out.trans (if_pos (.inl (by simpa using hX))))
        rw [hX] at hS
        clear hX
        go_wp2_with fail
        refine wpR_region (Grow) [] (by kernel_rfl) ?_
        refine wpR_take grow_rf grow_tr 0 rfl (by kernel_rfl) (fun _ _ _ h => h) rfl (v := ?_) ?_ ?_
        rotate_left
        · (intro w' hG; go_simp; try with_reducible rfl)
        try simp only [Act.put, List.setIfInBounds_toArray, List.set_cons_zero, List.set_cons_succ]
        refine wpR_call 1 rfl (by kernel_rfl) rfl fun K hK => ?_
        go_simp
        refine (hS.out _ hg2.drew).mono ?_
        rintro r w3 ⟨rfl, rfl⟩
        refine hK.out _ _ (.inr (Grow.refl _)) ?_
        clear hK
        try simp only [Act.put, List.setIfInBounds_toArray, List.set_cons_zero, List.set_cons_succ]
        refine wpR_take grow_rf grow_tr 2 rfl (by kernel_rfl) (fun _ _ _ h => h) rfl (v := ?_) ?_ ?_
        rotate_left
        · (intro w' hG; go_simp; try with_reducible rfl)
        try simp only [Act.put, List.setIfInBounds_toArray, List.set_cons_zero, List.set_cons_succ]
        refine wpR_take grow_rf grow_tr 3 rfl (by kernel_rfl) (fun _ _ _ h => h) rfl (v := ?_) ?_ ?_
        rotate_left
        · (intro w' hG; go_simp; try with_reducible rfl)
        try simp only [Act.put, List.setIfInBounds_toArray, List.set_cons_zero, List.set_cons_succ]
        refine wpR_skip grow_rf grow_tr 4 rfl (by kernel_rfl) (fun _ _ _ h => h) rfl ?_
        try simp only [Act.put, List.setIfInBounds_toArray, List.set_cons_zero, List.set_cons_succ]
        refine wpR_skip grow_rf grow_tr 5 rfl (by kernel_rfl) (fun _ _ _ h => h) rfl ?_
        try simp only [Act.put, List.setIfInBounds_toArray, List.set_cons_zero, List.set_cons_succ]
        refine wpR_skip grow_rf grow_tr 6 rfl (by kernel_rfl) (fun _ _ _ h => h) rfl ?_
        try simp only [Act.put, List.setIfInBounds_toArray, List.set_cons_zero, List.set_cons_succ]
        refine wpR_skip grow_rf grow_tr 7 rfl (by kernel_rfl) (fun _ _ _ h => h) rfl ?_
        try simp only [Act.put, List.setIfInBounds_toArray, List.set_cons_zero, List.set_cons_succ]
        refine wpR_skip grow_rf grow_tr 8 rfl (by kernel_rfl) (fun _ _ _ h => h) rfl ?_
        try simp only [Act.put, List.setIfInBounds_toArray, List.set_cons_zero, List.set_cons_succ]
        refine wpR_skip grow_rf grow_tr 9 rfl (by kernel_rfl) (fun _ _ _ h => h) rfl ?_
        try simp only [Act.put, List.setIfInBounds_toArray, List.set_cons_zero, List.set_cons_succ]
        refine wpR_skip grow_rf grow_tr 10 rfl (by kernel_rfl) (fun _ _ _ h => h) rfl ?_
        try simp only [Act.put, List.setIfInBounds_toArray, List.set_cons_zero, List.set_cons_succ]
        refine wpR_take grow_rf grow_tr 11 rfl (by kernel_rfl) (fun _ _ _ h => h) rfl (v := ?_) ?_ ?_
        rotate_left
        · (intro w' hG; go_simp; try with_reducible rfl)
        try simp only [Act.put, List.setIfInBounds_toArray, List.set_cons_zero, List.set_cons_succ]
        refine wpR_take grow_rf grow_tr 12 rfl (by kernel_rfl) (fun _ _ _ h => h) rfl (v := ?_) ?_ ?_
        rotate_left
        · (intro w' hG; go_simp; try with_reducible rfl)
        try simp only [Act.put, List.setIfInBounds_toArray, List.set_cons_zero, List.set_cons_succ]
        refine wpR_done (by kernel_rfl) ?_ _
        go_wp2
        go_ret
        exact ⟨by rw [HR4.out]; rfl, hg2.drew⟩
      | false =>
        have hXn : ¬ X.map kl = [] := fun e => by rw [hE.out.1 e] at hX; cases hX
        rw [hX] at hS
        clear hX
        go_wp2_with fail
        refine wpR_region (Grow) [] (by kernel_rfl) ?_
        refine wpR_take grow_rf grow_tr 0 rfl (by kernel_rfl) (fun _ _ _ h => h) rfl (v := ?_) ?_ ?_
        rotate_left
        · (intro w' hG; go_simp; try with_reducible rfl)
        try simp only [Act.put, List.setIfInBounds_toArray, List.set_cons_zero, List.set_cons_succ]
        refine wpR_call 1 rfl (by kernel_rfl) rfl fun K hK => ?_
        go_simp
        refine (hS.out _ hg2.drew).mono ?_
        rintro r w3 ⟨rfl, rfl⟩
        refine hK.out _ _ (.inr (Grow.refl _)) ?_
        clear hK
        try simp only [Act.put, List.setIfInBounds_toArray, List.set_cons_zero, List.set_cons_succ]
        refine wpR_take grow_rf grow_tr 2 rfl (by kernel_rfl) (fun _ _ _ h => h) rfl (v := ?_) ?_ ?_
        rotate_left
        · (intro w' hG; go_simp; try with_reducible rfl)
        try simp only [Act.put, List.setIfInBounds_toArray, List.set_cons_zero, List.set_cons_succ]
        refine wpR_take grow_rf grow_tr 3 rfl (by kernel_rfl) (fun _ _ _ h => h) rfl (v := ?_) ?_ ?_
        rotate_left
        · (intro w' hG; go_simp; try with_reducible rfl)
        try simp only [Act.put, List.setIfInBounds_toArray, List.set_cons_zero, List.set_cons_succ]
        refine wpR_take grow_rf grow_tr 4 rfl (by kernel_rfl) (fun _ _ _ h => h) rfl (v := ?_) ?_ ?_
        rotate_left
        · (intro w' hG; go_simp; try with_reducible rfl)
        try simp only [Act.put, List.setIfInBounds_toArray, List.set_cons_zero, List.set_cons_succ]
        refine wpR_take grow_rf grow_tr 5 rfl (by kernel_rfl) (fun _ _ _ h => h) rfl (v := ?_) ?_ ?_
        rotate_left
        · (intro w' hG; go_simp; try with_reducible rfl)
        try simp only [Act.put, List.setIfInBounds_toArray, List.set_cons_zero, List.set_cons_succ]
        refine wpR_take grow_rf grow_tr 6 rfl (by kernel_rfl) (fun _ _ _ h => h) rfl (v := ?_) ?_ ?_
        rotate_left
        · (intro w' hG; go_simp; try with_reducible rfl)
        try simp only [Act.put, List.setIfInBounds_toArray, List.set_cons_zero, List.set_cons_succ]
        refine wpR_take grow_rf grow_tr 7 rfl (by kernel_rfl) (fun _ _ _ h => h) rfl (v := ?_) ?_ ?_
        rotate_left
        · (intro w' hG; go_simp; try with_reducible rfl)
        try simp only [Act.put, List.setIfInBounds_toArray, List.set_cons_zero, List.set_cons_succ]
        refine wpR_take grow_rf grow_tr 8 rfl (by kernel_rfl) (fun _ _ _ h => h) rfl (v := ?_) ?_ ?_
        rotate_left
        · (intro w' hG; go_simp; try with_reducible rfl)
        try simp only [Act.put, List.setIfInBounds_toArray, List.set_cons_zero, List.set_cons_succ]
        refine wpR_take grow_rf grow_tr 9 rfl (by kernel_rfl) (fun _ _ _ h => h) rfl (v := ?_) ?_ ?_
        rotate_left
        · (intro w' hG; go_simp; try with_reducible rfl)
        try simp only [Act.put, List.setIfInBounds_toArray, List.set_cons_zero, List.set_cons_succ]
        refine wpR_take grow_rf grow_tr 10 rfl (by kernel_rfl) (fun _ _ _ h => h) rfl (v := ?_) ?_ ?_
        rotate_left
        · (intro w' hG; go_simp; try with_reducible rfl)
        try simp only [Act.put, List.setIfInBounds_toArray, List.set_cons_zero, List.set_cons_succ]
        refine wpR_take grow_rf grow_tr 11 rfl (by kernel_rfl) (fun _ _ _ h => h) rfl (v := ?_) ?_ ?_
        rotate_left
        · (intro w' hG; go_simp; try with_reducible rfl)
        try simp only [Act.put, List.setIfInBounds_toArray, List.set_cons_zero, List.set_cons_succ]
        refine wpR_take grow_rf grow_tr 12 rfl (by kernel_rfl) (fun _ _ _ h => h) rfl (v := ?_) ?_ ?_
        rotate_left
        · (intro w' hG; go_simp; try with_reducible rfl)
        try simp only [Act.put, List.setIfInBounds_toArray, List.set_cons_zero, List.set_cons_succ]
        refine wpR_done (by kernel_rfl) ?_ _
        have hg3 : Grow w w2.drew := hg2.drew
        have q3 := q2.drew
        have p3 := p2.drew
        clear Rq Rp c1 c2 q2 p2 hg2
        generalize w2.drew = w3 at *
        by_cases hgt : no < q.no
        · have HR4 := hide (HR3.out.trans (if_pos (.inr hgt)))
          go_wp2
          go_ret
          exact ⟨by rw [HR4.out]; rfl, hg3⟩
        · have HR4 := hide (HR3.out.trans (if_neg (by rintro (h | h); exact hXn h; exact hgt h)))
          have c1 := q3.cell
          have c2 := p3.cell
          have Rq := fun (W : World) (h : Grow w3.drew W) => (q3.grow (Grow.of_drew h)).cell
          have Rp := fun (W : World) (h : Grow w3.drew W) => (p3.grow (Grow.of_drew h)).cell
          go_wp2_with fail
          refine wpR_region (Grow) [] (by kernel_rfl) ?_
          refine wpR_take grow_rf grow_tr 0 rfl (by kernel_rfl) (fun _ _ _ h => h) rfl (v := ?_) ?_ ?_
          rotate_left
          · (intro w' hG; go_simp; try with_reducible rfl)
          try simp only [Act.put, List.setIfInBounds_toArray, List.set_cons_zero, List.set_cons_succ]
          refine wpR_take grow_rf grow_tr 1 rfl (by kernel_rfl) (fun _ _ _ h => h) rfl (v := ?_) ?_ ?_
          rotate_left
          · (intro w' hG; go_simp; try with_reducible rfl)
          try simp only [Act.put, List.setIfInBounds_toArray, List.set_cons_zero, List.set_cons_succ]
          refine wpR_take grow_rf grow_tr 2 rfl (by kernel_rfl) (fun _ _ _ h => h) rfl (v := ?_) ?_ ?_
          rotate_left
          · (intro w' hG; go_simp; try with_reducible rfl)
          try simp only [Act.put, List.setIfInBounds_toArray, List.set_cons_zero, List.set_cons_succ]
          refine wpR_take grow_rf grow_tr 3 rfl (by kernel_rfl) (fun _ _ _ h => h) rfl (v := ?_) ?_ ?_
          rotate_left
          · (intro w' hG; go_simp; try with_reducible rfl)
          try simp only [Act.put, List.setIfInBounds_toArray, List.set_cons_zero, List.set_cons_succ]
          refine wpR_take grow_rf grow_tr 4 rfl (by kernel_rfl) (fun _ _ _ h => h) rfl (v := ?_) ?_ ?_
          rotate_left
          · (intro w' hG; go_simp; try with_reducible rfl)
          try simp only [Act.put, List.setIfInBounds_toArray, List.set_cons_zero, List.set_cons_succ]
          refine wpR_take grow_rf grow_tr 5 rfl (by kernel_rfl) (fun _ _ _ h => h) rfl (v := ?_) ?_ ?_
          rotate_left
          · (intro w' hG; go_simp; try with_reducible rfl)
          try simp only [Act.put, List.setIfInBounds_toArray, List.set_cons_zero, List.set_cons_succ]
          refine wpR_take grow_rf grow_tr 6 rfl (by kernel_rfl) (fun _ _ _ h => h) rfl (v := ?_) ?_ ?_
          rotate_left
          · (intro w' hG; go_simp; try with_reducible rfl)
          try simp only [Act.put, List.setIfInBounds_toArray, List.set_cons_zero, List.set_cons_succ]
          refine wpR_take grow_rf grow_tr 7 rfl (by kernel_rfl) (fun _ _ _ h => h) rfl (v := ?_) ?_ ?_
          rotate_left
          · (intro w' hG; go_simp; try with_reducible rfl)
          try simp only [Act.put, List.setIfInBounds_toArray, List.set_cons_zero, List.set_cons_succ]
          refine wpR_done (by kernel_rfl) ?_ _
          have hg4 : Grow w w3.drew := hg3.drew
          have q4 := q3.drew
          have p4 := p3.drew
          clear Rq Rp c1 c2 q3 p3 hg3
          generalize w3.drew = w4 at *
          by_cases hlt : q.no < no
          · have HR5 := hide (HR4.out.trans (if_pos hlt))
            go_wp2
            go_ret
            exact ⟨by rw [HR5.out]; rfl, hg4⟩
          · have HR5 := hide (HR4.out.trans (if_neg hlt))
            have c1 := q4.cell
            have c2 := p4.cell
            have Rq := fun (W : World) (h : Grow w4.drew W) => (q4.grow (Grow.of_drew h)).cell
            have Rp := fun (W : World) (h : Grow w4.drew W) => (p4.grow (Grow.of_drew h)).cell
            go_wp2_with fail
            refine wpR_region (Grow) [] (by kernel_rfl) ?_
            refine wpR_take grow_rf grow_tr 0 rfl (by kernel_rfl) (fun _ _ _ h => h) rfl (v := ?_) ?_ ?_
            rotate_left
            · (intro w' hG; go_simp; try with_reducible rfl)
            try simp only [Act.put, List.setIfInBounds_toArray, List.set_cons_zero, List.set_cons_succ]
            refine wpR_take grow_rf grow_tr 1 rfl (by kernel_rfl) (fun _ _ _ h => h) rfl (v := ?_) ?_ ?_
            rotate_left
            · (intro w' hG; go_simp; try with_reducible rfl)
            try simp only [Act.put, List.setIfInBounds_toArray, List.set_cons_zero, List.set_cons_succ]
            refine wpR_take grow_rf grow_tr 2 rfl (by kernel_rfl) (fun _ _ _ h => h) rfl (v := ?_) ?_ ?_
            rotate_left
            · (intro w' hG; go_simp; try with_reducible rfl)
            try simp only [Act.put, List.setIfInBounds_toArray, List.set_cons_zero, List.set_cons_succ]
            refine wpR_take grow_rf grow_tr 3 rfl (by kernel_rfl) (fun _ _ _ h => h) rfl (v := ?_) ?_ ?_
            rotate_left
            · (intro w' hG; go_simp; try with_reducible rfl)
            try simp only [Act.put, List.setIfInBounds_toArray, List.set_cons_zero, List.set_cons_succ]
            refine wpR_take grow_rf grow_tr 4 rfl (by kernel_rfl) (fun _ _ _ h => h) rfl (v := ?_) ?_ ?_
            rotate_left
            · (intro w' hG; go_simp; try with_reducible rfl)
            try simp only [Act.put, List.setIfInBounds_toArray, List.set_cons_zero, List.set_cons_succ]
            refine wpR_take grow_rf grow_tr 5 rfl (by kernel_rfl) (fun _ _ _ h => h) rfl (v := ?_) ?_ ?_
            rotate_left
            · (intro w' hG; go_simp; try with_reducible rfl)
            try simp only [Act.put, List.setIfInBounds_toArray, List.set_cons_zero, List.set_cons_succ]
            refine wpR_take grow_rf grow_tr 6 rfl (by kernel_rfl) (fun _ _ _ h => h) rfl (v := ?_) ?_ ?_
            rotate_left
            · (intro w' hG; go_simp; try with_reducible rfl)
            try simp only [Act.put, List.setIfInBounds_toArray, List.set_cons_zero, List.set_cons_succ]
            refine wpR_take grow_rf grow_tr 7 rfl (by kernel_rfl) (fun _ _ _ h => h) rfl (v := ?_) ?_ ?_
            rotate_left
            · (intro w' hG; go_simp; try with_reducible rfl)
            try simp only [Act.put, List.setIfInBounds_toArray, List.set_cons_zero, List.set_cons_succ]
            refine wpR_done (by kernel_rfl) ?_ _
            have hg5 : Grow w w4.drew := hg4.drew
            have q5 := q4.drew
            have p5 := p4.drew
            clear Rq Rp c1 c2 q4 p4 hg4 hlt hgt
            generalize w4.drew = w5 at *
            cases ht : (q.total != tot) with
            | true =>
              have HR6 := hide (HR5.out.trans (if_pos (by simpa using ht)))
              clear ht
              go_wp2
              go_ret
              exact ⟨by rw [HR6.out]; rfl, hg5⟩
            | false =>
              have HR6 := hide (HR5.out.trans (if_neg (by simpa using ht)))
              clear ht HR5 HR4 HR3
              obtain ⟨i, hi⟩ := Int.eq_ofNat_of_zero_le hi0
              have hKi := hide (hK.out i)
              have hL := fun (W : World) (h : Grow w5.drew W) => run_lookI (P := Try.prog) (hM.out W (Grow.trans hg5 (Grow.of_drew h))) Try.underlying101 Try.underlying3 (zeroSl W) i true
              rw [hKi.out] at hL
              have c1 := q5.cell
              have c2 := p5.cell
              have Rq := fun (W : World) (h : Grow w5.drew W) => (q5.grow (Grow.of_drew h)).cell
              have Rp := fun (W : World) (h : Grow w5.drew W) => (p5.grow (Grow.of_drew h)).cell
              rw [hi] at HR6
              simp only [hi] at Rq c1
              have HR6 : Hid (e = if ((X.map kl).any fun x => x.1 == i) = true then 12 else 0) := HR6
              generalize (X.map kl).any (fun x => x.1 == i) = b3 at *
              clear hi hi0 hi1 hi2 hKi
              go_wp2_with fail
              refine wpR_region (Grow) [] (by kernel_rfl) ?_
              refine wpR_take grow_rf grow_tr 0 rfl (by kernel_rfl) (fun _ _ _ h => h) rfl (v := ?_) ?_ ?_
              rotate_left
              · (intro w' hG; go_simp; try with_reducible rfl)
              try simp only [Act.put, List.setIfInBounds_toArray, List.set_cons_zero, List.set_cons_succ]
              refine wpR_take grow_rf grow_tr 1 rfl (by kernel_rfl) (fun _ _ _ h => h) rfl (v := ?_) ?_ ?_
              rotate_left
              · (intro w' hG; go_simp; try with_reducible rfl)
              try simp only [Act.put, List.setIfInBounds_toArray, List.set_cons_zero, List.set_cons_succ]
              refine wpR_take grow_rf grow_tr 2 rfl (by kernel_rfl) (fun _ _ _ h => h) rfl (v := ?_) ?_ ?_
              rotate_left
              · (intro w' hG; go_simp; try with_reducible rfl)
              try simp only [Act.put, List.setIfInBounds_toArray, List.set_cons_zero, List.set_cons_succ]
              refine wpR_take grow_rf grow_tr 3 rfl (by kernel_rfl) (fun _ _ _ h => h) rfl (v := ?_) ?_ ?_
              rotate_left
              · (intro w' hG; go_simp; try with_reducible rfl)
              try simp only [Act.put, List.setIfInBounds_toArray, List.set_cons_zero, List.set_cons_succ]
              refine wpR_take grow_rf grow_tr 4 rfl (by kernel_rfl) (fun _ _ _ h => h) rfl (v := ?_) ?_ ?_
              rotate_left
              · (intro w' hG; go_simp; try with_reducible rfl)
              try simp only [Act.put, List.setIfInBounds_toArray, List.set_cons_zero, List.set_cons_succ]
              refine wpR_take grow_rf grow_tr 5 rfl (by kernel_rfl) (fun _ _ _ h => h) rfl (v := ?_) ?_ ?_
              rotate_left
              · (intro w' hG; go_simp; try with_reducible rfl)
              try simp only [Act.put, List.setIfInBounds_toArray, List.set_cons_zero, List.set_cons_succ]
              refine wpR_take grow_rf grow_tr 6 rfl (by kernel_rfl) (fun _ _ _ h => h) rfl (v := ?_) ?_ ?_
              rotate_left
              · (intro w' hG; go_simp; try with_reducible rfl)
              try simp only [Act.put, List.setIfInBounds_toArray, List.set_cons_zero, List.set_cons_succ]
              refine wpR_take grow_rf grow_tr 7 rfl (by kernel_rfl) (fun _ _ _ h => h) rfl (v := ?_) ?_ ?_
              rotate_left
              · (intro w' hG; go_simp; try with_reducible rfl)
              try simp only [Act.put, List.setIfInBounds_toArray, List.set_cons_zero, List.set_cons_succ]
              refine wpR_take grow_rf grow_tr 8 rfl (by kernel_rfl) (fun _ _ _ h => h) rfl (v := ?_) ?_ ?_
              rotate_left
              · (intro w' hG; go_simp; try with_reducible rfl)
              try simp only [Act.put, List.setIfInBounds_toArray, List.set_cons_zero, List.set_cons_succ]
              refine wpR_take grow_rf grow_tr 9 rfl (by kernel_rfl) (fun _ _ _ h => h) rfl (v := ?_) ?_ ?_
              rotate_left
              · (intro w' hG; go_simp; try with_reducible rfl)
              try simp only [Act.put, List.setIfInBounds_toArray, List.set_cons_zero, List.set_cons_succ]
              refine wpR_take grow_rf grow_tr 10 rfl (by kernel_rfl) (fun _ _ _ h => h) rfl (v := ?_) ?_ ?_
              rotate_left
              · (intro w' hG; go_simp; try with_reducible rfl)
              try simp only [Act.put, List.setIfInBounds_toArray, List.set_cons_zero, List.set_cons_succ]
              refine wpR_take grow_rf grow_tr 11 rfl (by kernel_rfl) (fun _ _ _ h => h) rfl (v := ?_) ?_ ?_
              rotate_left
              · (intro w' hG; go_simp; try with_reducible rfl)
              try simp only [Act.put, List.setIfInBounds_toArray, List.set_cons_zero, List.set_cons_succ]
              refine wpR_done (by kernel_rfl) ?_ _
              have hg6 : Grow w w5.drew := hg5.drew
              clear Rq Rp c1 c2 q5 p5 hg5 hL
              cases b3 with
              | true =>
                go_wp2
                go_ret
                exact ⟨by rw [HR6.out]; rfl, hg6⟩
              | false =>
                go_wp2
                go_ret
                exact ⟨by rw [HR6.out]; rfl, hg6⟩
end Go.Proofs.Ytbccbfmgjeknhaa
