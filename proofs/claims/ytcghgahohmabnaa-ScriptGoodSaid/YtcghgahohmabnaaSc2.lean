/- Acts (chapter 46): whether one may be. -/
import Derived.Test.YtcghgahohmabnaaSc1
namespace Go.Proofs.Ytcghgahohmabnaa
open Go.RowKit
abbrev zF : Fate := { kind := 0, delay := 0, again := 0, pos := 0, bits := 0 }
def nodeOk (x : Int) : Bool := decide (0 ≤ x) && decide (x < 64)
/-- whether an act may be -/
def actB (p : ActP) (l : List UInt8) : Bool :=
  if p.kind = 1 then (decide (1 ≤ p.n) && decide (p.n ≤ 64)) && (p.node == 0 && fateEq p.f zF && l == [])
  else if p.kind = 3 then fateB p.f && (p.node == 0 && p.n == 0 && l == [])
  else if p.kind = 2 then nodeOk p.node && (decide (-1048576 ≤ p.n) && decide (p.n ≤ 1048576)) && (fateEq p.f zF && l == [])
  else if p.kind = 6 then nodeOk p.node && decide (l.length ≤ 1024) && (p.n == 0 && fateEq p.f zF)
  else if p.kind = 4 ∨ p.kind = 5 ∨ p.kind = 7 ∨ p.kind = 8 then nodeOk p.node && (p.n == 0 && fateEq p.f zF && l == [])
  else false
theorem fateEq_refl (f : Fate) : fateEq f f = true := by simp [fateEq]
set_option maxRecDepth 100000 in
set_option maxHeartbeats 8000000 in
theorem agood_1 (p : ActP) (A : Option Addr) (l : List UInt8) (c : Nat) (w : World) (hl : Bytes w A l) (_hn : l.length ≤ 1000000000000) (hk : p.kind = 1) :
    Calls Try.prog 67 #[av p A l.length c] w fun e w' => e = .returned (.bool (actB p l)) ∧ Grow w w' := by
  obtain ⟨kind, node, n, f⟩ := p
  dsimp only at hk
  subst hk
  have HQ := hide (show actB ⟨1, node, n, f⟩ l = ((decide (1 ≤ n) && decide (n ≤ 64)) && (node == 0 && fateEq f zF && l == [])) from if_pos rfl)
  have HS := hide (fun W h => asame_any ⟨1, node, 0, f⟩ ⟨1, 0, 0, zF⟩ A none l [] c 0 W h (Bytes.nil _ _))
  rw [show (actEq ⟨1, node, 0, f⟩ ⟨1, 0, 0, zF⟩ && l == []) = (node == 0 && fateEq f zF && l == []) by simp [actEq]] at HS
  generalize (node == 0 && fateEq f zF && l == []) = B at *
  generalize actB _ l = Q at *
  go_enter Try.func67, Try.ntmps67
  by_cases h_a : 0 ≤ node
  all_goals
    (try have d_a : decide (0 ≤ node) = false := by simpa using h_a)
    go_wp2_with fail
    go_region
    all_goals
      go_wp2_with (go_at_call 69; refine (HS.out _ (hl.grow (by
        show Below w.heap.size w _
        repeat (with_reducible refine Below.setCell ?_ (by simp; try omega) _)
        first
          | exact ((Grow.refl w).alloc _).alloc _
          | exact (((Grow.refl w).alloc _).alloc _).drew
          | exact hg1))).mono ?_; rintro e w2 ⟨rfl, hb2⟩)
    all_goals
      go_ret
      refine ⟨fret_bool (by rw [HQ.out, Bool.eq_iff_iff]; simp_all <;> omega), ?_⟩
      first
        | (refine Grow.trans ?_ hb2
           show Below w.heap.size w _
           repeat (with_reducible refine Below.setCell ?_ (by simp; try omega) _)
           first
             | exact ((Grow.refl w).alloc _).alloc _
             | exact (((Grow.refl w).alloc _).alloc _).drew
             | exact hg1)
        | (show Below w.heap.size w _
           repeat (with_reducible refine Below.setCell ?_ (by simp; try omega) _)
           first
             | exact ((Grow.refl w).alloc _).alloc _
             | exact (((Grow.refl w).alloc _).alloc _).drew
             | exact hg1)
set_option maxRecDepth 100000 in
set_option maxHeartbeats 8000000 in
theorem agood_2 (p : ActP) (A : Option Addr) (l : List UInt8) (c : Nat) (w : World) (hl : Bytes w A l) (_hn : l.length ≤ 1000000000000) (hk : p.kind = 2) :
    Calls Try.prog 67 #[av p A l.length c] w fun e w' => e = .returned (.bool (actB p l)) ∧ Grow w w' := by
  obtain ⟨kind, node, n, f⟩ := p
  dsimp only at hk
  subst hk
  have HQ := hide (show actB ⟨2, node, n, f⟩ l = ((decide (0 ≤ node) && decide (node < 64)) && (decide (-1048576 ≤ n) && decide (n ≤ 1048576)) && (fateEq f zF && l == [])) from rfl)
  have HS := hide (fun W h => asame_any ⟨2, 0, 0, f⟩ ⟨2, 0, 0, zF⟩ A none l [] c 0 W h (Bytes.nil _ _))
  rw [show (actEq ⟨2, 0, 0, f⟩ ⟨2, 0, 0, zF⟩ && l == []) = (fateEq f zF && l == []) by simp [actEq]] at HS
  generalize (fateEq f zF && l == []) = B at *
  generalize actB _ l = Q at *
  go_enter Try.func67, Try.ntmps67
  by_cases h_a : 0 ≤ node <;> by_cases h_b : node < 64 <;> by_cases h_c : -1048576 ≤ n <;> by_cases h_d : n ≤ 1048576
  all_goals first
    | (exfalso; omega)
    | skip
  all_goals
    (try have d_a : decide (0 ≤ node) = false := by simpa using h_a)
    (try have d_b : decide (node < 64) = false := by simpa using h_b)
    (try have d_c : decide (-1048576 ≤ n) = false := by simpa using h_c)
    (try have d_d : decide (n ≤ 1048576) = false := by simpa using h_d)
    go_wp2_with fail
    go_region
    all_goals
      go_wp2_with (go_at_call 69; refine (HS.out _ (hl.grow (by
        show Below w.heap.size w _
        repeat (with_reducible refine Below.setCell ?_ (by simp; try omega) _)
        first
          | exact ((Grow.refl w).alloc _).alloc _
          | exact (((Grow.refl w).alloc _).alloc _).drew
          | exact hg1))).mono ?_; rintro e w2 ⟨rfl, hb2⟩)
    all_goals
      go_ret
      refine ⟨fret_bool (by rw [HQ.out, Bool.eq_iff_iff]; simp_all <;> omega), ?_⟩
      first
        | (refine Grow.trans ?_ hb2
           show Below w.heap.size w _
           repeat (with_reducible refine Below.setCell ?_ (by simp; try omega) _)
           first
             | exact ((Grow.refl w).alloc _).alloc _
             | exact (((Grow.refl w).alloc _).alloc _).drew
             | exact hg1)
        | (show Below w.heap.size w _
           repeat (with_reducible refine Below.setCell ?_ (by simp; try omega) _)
           first
             | exact ((Grow.refl w).alloc _).alloc _
             | exact (((Grow.refl w).alloc _).alloc _).drew
             | exact hg1)
set_option maxRecDepth 100000 in
set_option maxHeartbeats 8000000 in
theorem agood_6 (p : ActP) (A : Option Addr) (l : List UInt8) (c : Nat) (w : World) (_hl : Bytes w A l) (hn : l.length ≤ 1000000000000) (hk : p.kind = 6) :
    Calls Try.prog 67 #[av p A l.length c] w fun e w' => e = .returned (.bool (actB p l)) ∧ Grow w w' := by
  obtain ⟨kind, node, n, f⟩ := p
  dsimp only at hk
  subst hk
  have HQ := hide (show actB ⟨6, node, n, f⟩ l = ((decide (0 ≤ node) && decide (node < 64)) && decide (l.length ≤ 1024) && (n == 0 && fateEq f zF)) from rfl)
  have HS := fun W => asame_any ⟨6, 0, n, f⟩ ⟨6, 0, 0, zF⟩ none none [] [] 0 0 W (Bytes.nil _ _) (Bytes.nil _ _)
  rw [show (actEq ⟨6, 0, n, f⟩ ⟨6, 0, 0, zF⟩ && ([] : List UInt8) == []) = (n == 0 && fateEq f zF) by simp [actEq]] at HS
  simp only [List.length_nil] at HS
  have HS := hide HS
  generalize (n == 0 && fateEq f zF) = B at *
  generalize actB _ l = Q at *
  go_enter Try.func67, Try.ntmps67
  by_cases h_a : 0 ≤ node <;> by_cases h_b : node < 64 <;> by_cases h_c : (l.length : Int) ≤ 1024
  all_goals first
    | (exfalso; omega)
    | skip
  all_goals
    (try have d_a : decide (0 ≤ node) = false := by simpa using h_a)
    (try have d_b : decide (node < 64) = false := by simpa using h_b)
    (try have d_c : decide ((l.length : Int) ≤ 1024) = false := by simpa using h_c)
    go_wp2_with fail
    go_region
    all_goals
      go_wp2_with (go_at_call 69; refine (HS.out _).mono ?_; rintro e w2 ⟨rfl, hb2⟩)
    all_goals
      go_ret
      refine ⟨fret_bool (by rw [HQ.out, Bool.eq_iff_iff]; simp_all <;> omega), ?_⟩
      first
        | (refine Grow.trans ?_ hb2
           show Below w.heap.size w _
           repeat (with_reducible refine Below.setCell ?_ (by simp; try omega) _)
           first
             | exact ((Grow.refl w).alloc _).alloc _
             | exact (((Grow.refl w).alloc _).alloc _).drew
             | exact hg1)
        | (show Below w.heap.size w _
           repeat (with_reducible refine Below.setCell ?_ (by simp; try omega) _)
           first
             | exact ((Grow.refl w).alloc _).alloc _
             | exact (((Grow.refl w).alloc _).alloc _).drew
             | exact hg1)
set_option maxRecDepth 100000 in
set_option maxHeartbeats 8000000 in
theorem agood_4 (p : ActP) (A : Option Addr) (l : List UInt8) (c : Nat) (w : World) (hl : Bytes w A l) (_hn : l.length ≤ 1000000000000) (hk : p.kind = 4) :
    Calls Try.prog 67 #[av p A l.length c] w fun e w' => e = .returned (.bool (actB p l)) ∧ Grow w w' := by
  obtain ⟨kind, node, n, f⟩ := p
  dsimp only at hk
  subst hk
  have HQ := hide (show actB ⟨4, node, n, f⟩ l = ((decide (0 ≤ node) && decide (node < 64)) && (n == 0 && fateEq f zF && l == [])) from rfl)
  have HS := hide (fun W h => asame_any ⟨4, 0, n, f⟩ ⟨4, 0, 0, zF⟩ A none l [] c 0 W h (Bytes.nil _ _))
  rw [show (actEq ⟨4, 0, n, f⟩ ⟨4, 0, 0, zF⟩ && l == []) = (n == 0 && fateEq f zF && l == []) by simp [actEq]] at HS
  generalize (n == 0 && fateEq f zF && l == []) = B at *
  generalize actB _ l = Q at *
  go_enter Try.func67, Try.ntmps67
  by_cases h_a : 0 ≤ node <;> by_cases h_b : node < 64
  all_goals first
    | (exfalso; omega)
    | skip
  all_goals
    (try have d_a : decide (0 ≤ node) = false := by simpa using h_a)
    (try have d_b : decide (node < 64) = false := by simpa using h_b)
    go_wp2_with fail
    go_region
    all_goals
      go_wp2_with (go_at_call 69; refine (HS.out _ (hl.grow (by
        show Below w.heap.size w _
        repeat (with_reducible refine Below.setCell ?_ (by simp; try omega) _)
        first
          | exact ((Grow.refl w).alloc _).alloc _
          | exact (((Grow.refl w).alloc _).alloc _).drew
          | exact hg1))).mono ?_; rintro e w2 ⟨rfl, hb2⟩)
    all_goals
      go_ret
      refine ⟨fret_bool (by rw [HQ.out, Bool.eq_iff_iff]; simp_all <;> omega), ?_⟩
      first
        | (refine Grow.trans ?_ hb2
           show Below w.heap.size w _
           repeat (with_reducible refine Below.setCell ?_ (by simp; try omega) _)
           first
             | exact ((Grow.refl w).alloc _).alloc _
             | exact (((Grow.refl w).alloc _).alloc _).drew
             | exact hg1)
        | (show Below w.heap.size w _
           repeat (with_reducible refine Below.setCell ?_ (by simp; try omega) _)
           first
             | exact ((Grow.refl w).alloc _).alloc _
             | exact (((Grow.refl w).alloc _).alloc _).drew
             | exact hg1)
set_option maxRecDepth 100000 in
set_option maxHeartbeats 8000000 in
theorem agood_5 (p : ActP) (A : Option Addr) (l : List UInt8) (c : Nat) (w : World) (hl : Bytes w A l) (_hn : l.length ≤ 1000000000000) (hk : p.kind = 5) :
    Calls Try.prog 67 #[av p A l.length c] w fun e w' => e = .returned (.bool (actB p l)) ∧ Grow w w' := by
  obtain ⟨kind, node, n, f⟩ := p
  dsimp only at hk
  subst hk
  have HQ := hide (show actB ⟨5, node, n, f⟩ l = ((decide (0 ≤ node) && decide (node < 64)) && (n == 0 && fateEq f zF && l == [])) from rfl)
  have HS := hide (fun W h => asame_any ⟨5, 0, n, f⟩ ⟨5, 0, 0, zF⟩ A none l [] c 0 W h (Bytes.nil _ _))
  rw [show (actEq ⟨5, 0, n, f⟩ ⟨5, 0, 0, zF⟩ && l == []) = (n == 0 && fateEq f zF && l == []) by simp [actEq]] at HS
  generalize (n == 0 && fateEq f zF && l == []) = B at *
  generalize actB _ l = Q at *
  go_enter Try.func67, Try.ntmps67
  by_cases h_a : 0 ≤ node <;> by_cases h_b : node < 64
  all_goals first
    | (exfalso; omega)
    | skip
  all_goals
    (try have d_a : decide (0 ≤ node) = false := by simpa using h_a)
    (try have d_b : decide (node < 64) = false := by simpa using h_b)
    go_wp2_with fail
    go_region
    all_goals
      go_wp2_with (go_at_call 69; refine (HS.out _ (hl.grow (by
        show Below w.heap.size w _
        repeat (with_reducible refine Below.setCell ?_ (by simp; try omega) _)
        first
          | exact ((Grow.refl w).alloc _).alloc _
          | exact (((Grow.refl w).alloc _).alloc _).drew
          | exact hg1))).mono ?_; rintro e w2 ⟨rfl, hb2⟩)
    all_goals
      go_ret
      refine ⟨fret_bool (by rw [HQ.out, Bool.eq_iff_iff]; simp_all <;> omega), ?_⟩
      first
        | (refine Grow.trans ?_ hb2
           show Below w.heap.size w _
           repeat (with_reducible refine Below.setCell ?_ (by simp; try omega) _)
           first
             | exact ((Grow.refl w).alloc _).alloc _
             | exact (((Grow.refl w).alloc _).alloc _).drew
             | exact hg1)
        | (show Below w.heap.size w _
           repeat (with_reducible refine Below.setCell ?_ (by simp; try omega) _)
           first
             | exact ((Grow.refl w).alloc _).alloc _
             | exact (((Grow.refl w).alloc _).alloc _).drew
             | exact hg1)
set_option maxRecDepth 100000 in
set_option maxHeartbeats 8000000 in
theorem agood_7 (p : ActP) (A : Option Addr) (l : List UInt8) (c : Nat) (w : World) (hl : Bytes w A l) (_hn : l.length ≤ 1000000000000) (hk : p.kind = 7) :
    Calls Try.prog 67 #[av p A l.length c] w fun e w' => e = .returned (.bool (actB p l)) ∧ Grow w w' := by
  obtain ⟨kind, node, n, f⟩ := p
  dsimp only at hk
  subst hk
  have HQ := hide (show actB ⟨7, node, n, f⟩ l = ((decide (0 ≤ node) && decide (node < 64)) && (n == 0 && fateEq f zF && l == [])) from rfl)
  have HS := hide (fun W h => asame_any ⟨7, 0, n, f⟩ ⟨7, 0, 0, zF⟩ A none l [] c 0 W h (Bytes.nil _ _))
  rw [show (actEq ⟨7, 0, n, f⟩ ⟨7, 0, 0, zF⟩ && l == []) = (n == 0 && fateEq f zF && l == []) by simp [actEq]] at HS
  generalize (n == 0 && fateEq f zF && l == []) = B at *
  generalize actB _ l = Q at *
  go_enter Try.func67, Try.ntmps67
  by_cases h_a : 0 ≤ node <;> by_cases h_b : node < 64
  all_goals first
    | (exfalso; omega)
    | skip
  all_goals
    (try have d_a : decide (0 ≤ node) = false := by simpa using h_a)
    (try have d_b : decide (node < 64) = false := by simpa using h_b)
    go_wp2_with fail
    go_region
    all_goals
      go_wp2_with (go_at_call 69; refine (HS.out _ (hl.grow (by
        show Below w.heap.size w _
        repeat (with_reducible refine Below.setCell ?_ (by simp; try omega) _)
        first
          | exact ((Grow.refl w).alloc _).alloc _
          | exact (((Grow.refl w).alloc _).alloc _).drew
          | exact hg1))).mono ?_; rintro e w2 ⟨rfl, hb2⟩)
    all_goals
      go_ret
      refine ⟨fret_bool (by rw [HQ.out, Bool.eq_iff_iff]; simp_all <;> omega), ?_⟩
      first
        | (refine Grow.trans ?_ hb2
           show Below w.heap.size w _
           repeat (with_reducible refine Below.setCell ?_ (by simp; try omega) _)
           first
             | exact ((Grow.refl w).alloc _).alloc _
             | exact (((Grow.refl w).alloc _).alloc _).drew
             | exact hg1)
        | (show Below w.heap.size w _
           repeat (with_reducible refine Below.setCell ?_ (by simp; try omega) _)
           first
             | exact ((Grow.refl w).alloc _).alloc _
             | exact (((Grow.refl w).alloc _).alloc _).drew
             | exact hg1)
set_option maxRecDepth 100000 in
set_option maxHeartbeats 8000000 in
theorem agood_8 (p : ActP) (A : Option Addr) (l : List UInt8) (c : Nat) (w : World) (hl : Bytes w A l) (_hn : l.length ≤ 1000000000000) (hk : p.kind = 8) :
    Calls Try.prog 67 #[av p A l.length c] w fun e w' => e = .returned (.bool (actB p l)) ∧ Grow w w' := by
  obtain ⟨kind, node, n, f⟩ := p
  dsimp only at hk
  subst hk
  have HQ := hide (show actB ⟨8, node, n, f⟩ l = ((decide (0 ≤ node) && decide (node < 64)) && (n == 0 && fateEq f zF && l == [])) from rfl)
  have HS := hide (fun W h => asame_any ⟨8, 0, n, f⟩ ⟨8, 0, 0, zF⟩ A none l [] c 0 W h (Bytes.nil _ _))
  rw [show (actEq ⟨8, 0, n, f⟩ ⟨8, 0, 0, zF⟩ && l == []) = (n == 0 && fateEq f zF && l == []) by simp [actEq]] at HS
  generalize (n == 0 && fateEq f zF && l == []) = B at *
  generalize actB _ l = Q at *
  go_enter Try.func67, Try.ntmps67
  by_cases h_a : 0 ≤ node <;> by_cases h_b : node < 64
  all_goals first
    | (exfalso; omega)
    | skip
  all_goals
    (try have d_a : decide (0 ≤ node) = false := by simpa using h_a)
    (try have d_b : decide (node < 64) = false := by simpa using h_b)
    go_wp2_with fail
    go_region
    all_goals
      go_wp2_with (go_at_call 69; refine (HS.out _ (hl.grow (by
        show Below w.heap.size w _
        repeat (with_reducible refine Below.setCell ?_ (by simp; try omega) _)
        first
          | exact ((Grow.refl w).alloc _).alloc _
          | exact (((Grow.refl w).alloc _).alloc _).drew
          | exact hg1))).mono ?_; rintro e w2 ⟨rfl, hb2⟩)
    all_goals
      go_ret
      refine ⟨fret_bool (by rw [HQ.out, Bool.eq_iff_iff]; simp_all <;> omega), ?_⟩
      first
        | (refine Grow.trans ?_ hb2
           show Below w.heap.size w _
           repeat (with_reducible refine Below.setCell ?_ (by simp; try omega) _)
           first
             | exact ((Grow.refl w).alloc _).alloc _
             | exact (((Grow.refl w).alloc _).alloc _).drew
             | exact hg1)
        | (show Below w.heap.size w _
           repeat (with_reducible refine Below.setCell ?_ (by simp; try omega) _)
           first
             | exact ((Grow.refl w).alloc _).alloc _
             | exact (((Grow.refl w).alloc _).alloc _).drew
             | exact hg1)
set_option maxRecDepth 100000 in
set_option maxHeartbeats 8000000 in
theorem agood_3 (p : ActP) (A : Option Addr) (l : List UInt8) (c : Nat) (w : World) (hl : Bytes w A l) (_hn : l.length ≤ 1000000000000) (hk : p.kind = 3) :
    Calls Try.prog 67 #[av p A l.length c] w fun e w' => e = .returned (.bool (actB p l)) ∧ Grow w w' := by
  obtain ⟨kind, node, n, f⟩ := p
  dsimp only at hk
  subst hk
  have HQ := hide (show actB ⟨3, node, n, f⟩ l = (fateB f && (node == 0 && n == 0 && l == [])) from rfl)
  have HF := hide (fun W => fgood_any f W)
  have HS := hide (fun W h => asame_any ⟨3, node, n, zF⟩ ⟨3, 0, 0, zF⟩ A none l [] c 0 W h (Bytes.nil _ _))
  rw [show (actEq ⟨3, node, n, zF⟩ ⟨3, 0, 0, zF⟩ && l == []) = (node == 0 && n == 0 && l == []) by simp [actEq, fateEq]] at HS
  generalize (node == 0 && n == 0 && l == []) = B at *
  generalize fateB f = bf at *
  generalize actB _ l = Q at *
  go_enter Try.func67, Try.ntmps67
  by_cases h_a : 0 ≤ node
  all_goals
    (try have d_a : decide (0 ≤ node) = false := by simpa using h_a)
    go_wp2_with fail
    go_region
    all_goals
      go_wp2_with fail
      refine (HF.out _).mono ?_
      rintro e w1 ⟨rfl, hb1⟩
      have hb1 := Grow.of_drew hb1
      obtain ⟨p0, q0, hg1⟩ := peel2 hb1
      have hz : w.heap.size ≤ w1.heap.size := hg1.size
      obtain ⟨cp0, fp0, lp0⟩ := p0.rules
      obtain ⟨cq0, fq0, lq0⟩ := q0.rules
      clear hb1
      go_wp2_with (go_at_call 69; refine (HS.out _ (hl.grow (by
        show Below w.heap.size w _
        repeat (with_reducible refine Below.setCell ?_ (by simp; try omega) _)
        first
          | exact ((Grow.refl w).alloc _).alloc _
          | exact (((Grow.refl w).alloc _).alloc _).drew
          | exact hg1))).mono ?_; rintro e w2 ⟨rfl, hb2⟩)
    all_goals
      go_ret
      refine ⟨fret_bool (by rw [HQ.out, Bool.eq_iff_iff]; simp_all <;> omega), ?_⟩
      first
        | (refine Grow.trans ?_ hb2
           show Below w.heap.size w _
           repeat (with_reducible refine Below.setCell ?_ (by simp; try omega) _)
           first
             | exact ((Grow.refl w).alloc _).alloc _
             | exact (((Grow.refl w).alloc _).alloc _).drew
             | exact hg1)
        | (show Below w.heap.size w _
           repeat (with_reducible refine Below.setCell ?_ (by simp; try omega) _)
           first
             | exact ((Grow.refl w).alloc _).alloc _
             | exact (((Grow.refl w).alloc _).alloc _).drew
             | exact hg1)
set_option maxRecDepth 100000 in
set_option maxHeartbeats 8000000 in
theorem agood_no (p : ActP) (A : Option Addr) (l : List UInt8) (c : Nat) (w : World) (_hl : Bytes w A l) (_hn : l.length ≤ 1000000000000) (hk : p.kind ≠ 1 ∧ p.kind ≠ 2 ∧ p.kind ≠ 3 ∧ p.kind ≠ 4 ∧ p.kind ≠ 5 ∧ p.kind ≠ 6 ∧ p.kind ≠ 7 ∧ p.kind ≠ 8) :
    Calls Try.prog 67 #[av p A l.length c] w fun e w' => e = .returned (.bool (actB p l)) ∧ Grow w w' := by
  obtain ⟨kind, node, n, f⟩ := p
  dsimp only at hk
  obtain ⟨k1, k2, k3, k4, k5, k6, k7, k8⟩ := hk
  have HQ := hide (show actB ⟨kind, node, n, f⟩ l = false by
    unfold actB
    dsimp only
    rw [if_neg k1, if_neg k3, if_neg k2, if_neg k6, if_neg (by omega)])
  have e1 : (kind == 1) = false := by simpa using k1
  have e2 : (kind == 2) = false := by simpa using k2
  have e3 : (kind == 3) = false := by simpa using k3
  have e4 : (kind == 4) = false := by simpa using k4
  have e5 : (kind == 5) = false := by simpa using k5
  have e6 : (kind == 6) = false := by simpa using k6
  have e7 : (kind == 7) = false := by simpa using k7
  have e8 : (kind == 8) = false := by simpa using k8
  clear k1 k2 k3 k4 k5 k6 k7 k8
  generalize actB _ l = Q at *
  go_enter Try.func67, Try.ntmps67
  by_cases h_a : 0 ≤ node
  all_goals
    (try have d_a : decide (0 ≤ node) = false := by simpa using h_a)
    go_wp2_with fail
    go_region
    all_goals
      go_wp2
    all_goals
      go_ret
      refine ⟨fret_bool (by rw [HQ.out]), ?_⟩
      first
        | (refine Grow.trans ?_ hb2
           show Below w.heap.size w _
           repeat (with_reducible refine Below.setCell ?_ (by simp; try omega) _)
           first
             | exact ((Grow.refl w).alloc _).alloc _
             | exact (((Grow.refl w).alloc _).alloc _).drew
             | exact hg1)
        | (show Below w.heap.size w _
           repeat (with_reducible refine Below.setCell ?_ (by simp; try omega) _)
           first
             | exact ((Grow.refl w).alloc _).alloc _
             | exact (((Grow.refl w).alloc _).alloc _).drew
             | exact hg1)
theorem agood_any (p : ActP) (A : Option Addr) (l : List UInt8) (c : Nat) (w : World) (hl : Bytes w A l) (hn : l.length ≤ 1000000000000) :
    Calls Try.prog 67 #[av p A l.length c] w fun e w' => e = .returned (.bool (actB p l)) ∧ Grow w w' := by
  by_cases h1 : p.kind = 1
  · exact agood_1 p A l c w hl hn h1
  by_cases h2 : p.kind = 2
  · exact agood_2 p A l c w hl hn h2
  by_cases h3 : p.kind = 3
  · exact agood_3 p A l c w hl hn h3
  by_cases h4 : p.kind = 4
  · exact agood_4 p A l c w hl hn h4
  by_cases h5 : p.kind = 5
  · exact agood_5 p A l c w hl hn h5
  by_cases h6 : p.kind = 6
  · exact agood_6 p A l c w hl hn h6
  by_cases h7 : p.kind = 7
  · exact agood_7 p A l c w hl hn h7
  by_cases h8 : p.kind = 8
  · exact agood_8 p A l c w hl hn h8
  exact agood_no p A l c w hl hn ⟨h1, h2, h3, h4, h5, h6, h7, h8⟩
end Go.Proofs.Ytcghgahohmabnaa
