/- Fates as values; whether one may be, is fair, is a loss. -/
import Derived.Test.YtcghgahohmabnaaTool
namespace Go.Proofs.Ytcghgahohmabnaa
open Go.RowKit
/-- a fate -/
structure Fate where
  kind : Int
  delay : Int
  again : Int
  pos : Int
  bits : Int
abbrev fv (f : Fate) : Value := .agg #[.int .i64 f.kind, .int .i64 f.delay, .int .i64 f.again, .int .u32 f.pos, .int .u32 f.bits]
abbrev fcells (f : Fate) : Array Value := #[.int .i64 f.kind, .int .i64 f.delay, .int .i64 f.again, .int .u32 f.pos, .int .u32 f.bits]
def withinB (d lo hi : Int) : Bool := decide (lo ≤ d) && decide (d ≤ hi)
abbrev delayB (d : Int) : Bool := withinB d 1 64
def fateB (f : Fate) : Bool :=
  if f.kind = 1 then f.delay == 0 && f.again == 0 && f.pos == 0 && f.bits == 0
  else if f.kind = 2 then delayB f.again && delayB f.delay && f.pos == 0 && f.bits == 0
  else if f.kind = 0 then delayB f.delay && f.again == 0 && f.pos == 0 && f.bits == 0
  else if f.kind = 3 then delayB f.delay && f.again == 0
  else false
theorem fret_bool {a b : Bool} (h : a = b) : Ending.returned (.bool a) = .returned (.bool b) := by rw [h]
set_option maxHeartbeats 400000 in
theorem fdelay_any (d : Int) (w : World) : Calls Try.prog 104 #[.int .i64 d] w fun e w' => e = .returned (.bool (delayB d)) ∧ w = w' := by
  go_enter Try.func104, Try.ntmps104
  go_wp2
  all_goals
    go_ret
    exact ⟨fret_bool (by simp_all [withinB] <;> omega), rfl⟩
set_option maxHeartbeats 400000 in
theorem refwithin_any (d lo hi : Int) (w : World) : Calls Try.prog 103 #[.int .i64 d, .int .i64 lo, .int .i64 hi] w fun e w' => e = .returned (.bool (withinB d lo hi)) ∧ w = w' := by
  go_enter Try.func103, Try.ntmps103
  go_wp2
  all_goals
    go_ret
    exact ⟨fret_bool (by simp_all [withinB] <;> omega), rfl⟩
theorem fateB_1 (f : Fate) (h : f.kind = 1) : fateB f = (f.delay == 0 && f.again == 0 && f.pos == 0 && f.bits == 0) := by unfold fateB; rw [if_pos h]
theorem fateB_2 (f : Fate) (h : f.kind = 2) : fateB f = (delayB f.again && delayB f.delay && f.pos == 0 && f.bits == 0) := by unfold fateB; rw [if_neg (by omega), if_pos h]
theorem fateB_0 (f : Fate) (h : f.kind = 0) : fateB f = (delayB f.delay && f.again == 0 && f.pos == 0 && f.bits == 0) := by unfold fateB; rw [if_neg (by omega), if_neg (by omega), if_pos h]
theorem fateB_3 (f : Fate) (h : f.kind = 3) : fateB f = (delayB f.delay && f.again == 0) := by unfold fateB; rw [if_neg (by omega), if_neg (by omega), if_neg (by omega), if_pos h]
theorem fateB_n (f : Fate) (h : f.kind ≠ 0 ∧ f.kind ≠ 1 ∧ f.kind ≠ 2 ∧ f.kind ≠ 3) : fateB f = false := by unfold fateB; rw [if_neg h.2.1, if_neg h.2.2.1, if_neg h.1, if_neg h.2.2.2]
set_option maxRecDepth 100000 in
set_option maxHeartbeats 2000000 in
theorem fgood_any (f : Fate) (w : World) : Calls Try.prog 51 #[fv f] w fun e w' => e = .returned (.bool (fateB f)) ∧ Grow w w' := by
  obtain ⟨kind, delay, again, pos, bits⟩ := f
  have H : kind = 1 ∨ kind = 2 ∨ kind = 0 ∨ kind = 3 ∨ (kind ≠ 0 ∧ kind ≠ 1 ∧ kind ≠ 2 ∧ kind ≠ 3) := by omega
  rcases H with h | h | h | h | h
  · have HQ := hide (fateB_1 ⟨kind, delay, again, pos, bits⟩ h)
    subst h
    generalize fateB _ = Q at *
    go_enter Try.func51, Try.ntmps51
    go_wp2_with (go_at_call 104; refine (fdelay_any _ _).mono ?_; rintro e w' ⟨rfl, rfl⟩)
    all_goals
      go_ret
      refine ⟨fret_bool (by rw [HQ.out]; rw [Bool.eq_iff_iff]; simp_all), ?_⟩
      show Below w.heap.size w _
      repeat (with_reducible refine Below.setCell ?_ (by simp; try omega) _)
      exact ((Grow.refl w).alloc _).alloc _
  · have HQ := hide (fateB_2 ⟨kind, delay, again, pos, bits⟩ h)
    subst h
    generalize fateB _ = Q at *
    go_enter Try.func51, Try.ntmps51
    go_wp2_with (go_at_call 104; refine (fdelay_any _ _).mono ?_; rintro e w' ⟨rfl, rfl⟩)
    all_goals
      go_ret
      refine ⟨fret_bool (by rw [HQ.out]; rw [Bool.eq_iff_iff]; simp_all), ?_⟩
      show Below w.heap.size w _
      repeat (with_reducible refine Below.setCell ?_ (by simp; try omega) _)
      exact ((Grow.refl w).alloc _).alloc _
  · have HQ := hide (fateB_0 ⟨kind, delay, again, pos, bits⟩ h)
    subst h
    generalize fateB _ = Q at *
    go_enter Try.func51, Try.ntmps51
    go_wp2_with (go_at_call 104; refine (fdelay_any _ _).mono ?_; rintro e w' ⟨rfl, rfl⟩)
    all_goals
      go_ret
      refine ⟨fret_bool (by rw [HQ.out]; rw [Bool.eq_iff_iff]; simp_all), ?_⟩
      show Below w.heap.size w _
      repeat (with_reducible refine Below.setCell ?_ (by simp; try omega) _)
      exact ((Grow.refl w).alloc _).alloc _
  · have HQ := hide (fateB_3 ⟨kind, delay, again, pos, bits⟩ h)
    subst h
    generalize fateB _ = Q at *
    go_enter Try.func51, Try.ntmps51
    go_wp2_with (go_at_call 104; refine (fdelay_any _ _).mono ?_; rintro e w' ⟨rfl, rfl⟩)
    all_goals
      go_ret
      refine ⟨fret_bool (by rw [HQ.out]; rw [Bool.eq_iff_iff]; simp_all), ?_⟩
      show Below w.heap.size w _
      repeat (with_reducible refine Below.setCell ?_ (by simp; try omega) _)
      exact ((Grow.refl w).alloc _).alloc _
  · have HQ := hide (fateB_n ⟨kind, delay, again, pos, bits⟩ h)
    generalize fateB _ = Q at *
    obtain ⟨h0, h1, h2, h3⟩ := h
    have k0 : (kind == 0) = false := by simpa using h0
    have k1 : (kind == 1) = false := by simpa using h1
    have k2 : (kind == 2) = false := by simpa using h2
    have k3 : (kind == 3) = false := by simpa using h3
    clear h0 h1 h2 h3
    go_enter Try.func51, Try.ntmps51
    go_wp2_with fail
    all_goals
      go_ret
      refine ⟨fret_bool (by rw [HQ.out]), ?_⟩
      show Below w.heap.size w _
      repeat (with_reducible refine Below.setCell ?_ (by simp; try omega) _)
      exact ((Grow.refl w).alloc _).alloc _
set_option maxRecDepth 100000 in
set_option maxHeartbeats 2000000 in
theorem reffgood_any (f : Fate) (w : World) : Calls Try.prog 52 #[fv f] w fun e w' => e = .returned (.bool (fateB f)) ∧ Grow w w' := by
  obtain ⟨kind, delay, again, pos, bits⟩ := f
  have H : kind = 1 ∨ kind = 2 ∨ kind = 0 ∨ kind = 3 ∨ (kind ≠ 0 ∧ kind ≠ 1 ∧ kind ≠ 2 ∧ kind ≠ 3) := by omega
  rcases H with h | h | h | h | h
  · have HQ := hide (fateB_1 ⟨kind, delay, again, pos, bits⟩ h)
    subst h
    generalize fateB _ = Q at *
    go_enter Try.func52, Try.ntmps52
    go_wp2_with (go_at_call 103; refine (refwithin_any _ _ _ _).mono ?_; rintro e w' ⟨rfl, rfl⟩)
    all_goals
      go_ret
      refine ⟨fret_bool (by rw [HQ.out]; rw [Bool.eq_iff_iff]; simp_all), ?_⟩
      exact (Grow.refl w).alloc _
  · have HQ := hide (fateB_2 ⟨kind, delay, again, pos, bits⟩ h)
    subst h
    generalize fateB _ = Q at *
    go_enter Try.func52, Try.ntmps52
    go_wp2_with (go_at_call 103; refine (refwithin_any _ _ _ _).mono ?_; rintro e w' ⟨rfl, rfl⟩)
    all_goals
      go_ret
      refine ⟨fret_bool (by rw [HQ.out]; rw [Bool.eq_iff_iff]; simp_all), ?_⟩
      exact (Grow.refl w).alloc _
  · have HQ := hide (fateB_0 ⟨kind, delay, again, pos, bits⟩ h)
    subst h
    generalize fateB _ = Q at *
    go_enter Try.func52, Try.ntmps52
    go_wp2_with (go_at_call 103; refine (refwithin_any _ _ _ _).mono ?_; rintro e w' ⟨rfl, rfl⟩)
    all_goals
      go_ret
      refine ⟨fret_bool (by rw [HQ.out]; rw [Bool.eq_iff_iff]; simp_all), ?_⟩
      exact (Grow.refl w).alloc _
  · have HQ := hide (fateB_3 ⟨kind, delay, again, pos, bits⟩ h)
    subst h
    generalize fateB _ = Q at *
    go_enter Try.func52, Try.ntmps52
    go_wp2_with (go_at_call 103; refine (refwithin_any _ _ _ _).mono ?_; rintro e w' ⟨rfl, rfl⟩)
    all_goals
      go_ret
      refine ⟨fret_bool (by rw [HQ.out]; rw [Bool.eq_iff_iff]; simp_all), ?_⟩
      exact (Grow.refl w).alloc _
  · have HQ := hide (fateB_n ⟨kind, delay, again, pos, bits⟩ h)
    generalize fateB _ = Q at *
    obtain ⟨h0, h1, h2, h3⟩ := h
    have k1 : (kind == 1) = false := by simpa using h1
    have H2 : kind < 0 ∨ (0 ≤ kind ∧ 3 < kind) := by omega
    clear h0 h1 h2 h3
    rcases H2 with h | ⟨h, h'⟩
    all_goals
      go_enter Try.func52, Try.ntmps52
      go_wp2_with (go_at_call 103; refine (refwithin_any _ _ _ _).mono ?_; rintro e w' ⟨rfl, rfl⟩)
    all_goals
      go_ret
      refine ⟨fret_bool (by rw [HQ.out]), ?_⟩
      exact (Grow.refl w).alloc _
theorem fateB_range (f : Fate) (h : fateB f = true) : f.kind = 0 ∨ f.kind = 1 ∨ f.kind = 2 ∨ f.kind = 3 := by
  by_cases h0 : f.kind = 0 ∨ f.kind = 1 ∨ f.kind = 2 ∨ f.kind = 3
  · exact h0
  · rw [fateB_n f (by omega)] at h; cases h
def fairB (f : Fate) (lo hi : Int) : Bool := fateB f && (if f.kind = 0 then withinB f.delay lo hi else f.kind == 2 && withinB f.delay lo hi && withinB f.again lo hi)
def lossB (f : Fate) (lo hi : Int) : Bool := fateB f && (f.kind == 1 || f.kind == 3 && withinB f.delay lo hi)
end Go.Proofs.Ytcghgahohmabnaa
