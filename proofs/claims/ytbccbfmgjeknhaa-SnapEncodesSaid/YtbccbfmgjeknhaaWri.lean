/- The plain law of chapter 05: numbers as bytes. No Go in sight. The walks of a writer of package buf. The walks of numbers in sevens, and of the rest of a writer. The walks of the rest of a writer. The walks of head.Put. -/
import Derived.Test.YtbccbfmgjeknhaaTool
import Derived.Test.YtbccbfmgjeknhaaPk
namespace Buf
/-- a number in sevens, with fuel -/
def sevF : Nat → Nat → List UInt8
  | 0, x => [UInt8.ofNat x]
  | k + 1, x => if x < 128 then [UInt8.ofNat x] else UInt8.ofNat (x % 128 + 128) :: sevF k (x / 128)
def sevens (x : Nat) : List UInt8 := sevF 9 x
/-- the first n bytes of a number, the lowest first -/
def fixed (x : Nat) : Nat → List UInt8
  | 0 => []
  | n + 1 => UInt8.ofNat x :: fixed (x / 256) n
theorem fixed_length (n : Nat) : ∀ x, (fixed x n).length = n := by
  induction n with
  | zero => intro x; rfl
  | succ n ih => intro x; simp [fixed, ih]
theorem fixed_snoc (n : Nat) : ∀ x, fixed x (n + 1) = fixed x n ++ [UInt8.ofNat (x / 256 ^ n)] := by
  induction n with
  | zero => intro x; simp [fixed]
  | succ n ih =>
    intro x
    rw [show fixed x (n + 1 + 1) = UInt8.ofNat x :: fixed (x / 256) (n + 1) from rfl, ih, show fixed x (n + 1) = UInt8.ofNat x :: fixed (x / 256) n from rfl, Nat.div_div_eq_div_mul, Nat.pow_succ, Nat.mul_comm 256]
    rfl
theorem fixed_take (x : Nat) : ∀ (n m : Nat), n ≤ m → (fixed x m).take n = fixed x n := by
  intro n m h
  induction m with
  | zero => have : n = 0 := by omega
            subst this; rfl
  | succ m ih =>
    rw [fixed_snoc]
    by_cases e : n = m + 1
    · subst e
      rw [← fixed_snoc, List.take_of_length_le (by rw [fixed_length]; omega)]
    · rw [List.take_append_of_le_length (by rw [fixed_length]; omega)]
      exact ih (by omega)
/-- what the sevens before the last one are -/
def sevTo (x : Nat) : Nat → List UInt8
  | 0 => []
  | k + 1 => sevTo x k ++ [UInt8.ofNat (x / 128 ^ k % 128 + 128)]
theorem sevTo_length (x : Nat) : ∀ k, (sevTo x k).length = k
  | 0 => rfl
  | k + 1 => by simp [sevTo, sevTo_length x k]
theorem sevTo_cons (x : Nat) : ∀ k, sevTo x (k + 1) = UInt8.ofNat (x % 128 + 128) :: sevTo (x / 128) k
  | 0 => by simp [sevTo]
  | k + 1 => by
    rw [show sevTo x (k + 1 + 1) = sevTo x (k + 1) ++ [UInt8.ofNat (x / 128 ^ (k + 1) % 128 + 128)] from rfl, sevTo_cons x k]
    rw [show sevTo (x / 128) (k + 1) = sevTo (x / 128) k ++ [UInt8.ofNat (x / 128 / 128 ^ k % 128 + 128)] from rfl, Nat.div_div_eq_div_mul, Nat.pow_succ, Nat.mul_comm 128]
    rfl
/-- the loop of the program ends with the sevens -/
theorem sevF_of (k : Nat) : ∀ f x, k ≤ f → (∀ j, j < k → 128 ≤ x / 128 ^ j) → x / 128 ^ k < 128 → sevF f x = sevTo x k ++ [UInt8.ofNat (x / 128 ^ k)] := by
  induction k with
  | zero =>
    intro f x _ _ h
    simp only [Nat.pow_zero, Nat.div_one] at h
    cases f with
    | zero => simp [sevF, sevTo]
    | succ f => simp [sevF, sevTo, h]
  | succ k ih =>
    intro f x hf hj h
    cases f with
    | zero => omega
    | succ f =>
      have h0 := hj 0 (by omega)
      simp only [Nat.pow_zero, Nat.div_one] at h0
      have hd : ∀ j, x / 128 / 128 ^ j = x / 128 ^ (j + 1) := fun j => by rw [Nat.div_div_eq_div_mul, Nat.pow_succ, Nat.mul_comm 128]
      rw [sevF, if_neg (by omega), ih f (x / 128) (by omega) (fun j hj' => by rw [hd]; exact hj (j + 1) (by omega)) (by rw [hd]; exact h), hd, sevTo_cons]
      rfl
theorem seven_small (x k : Nat) (hx : x < 18446744073709551616) (h : 128 ≤ x / 128 ^ k) : k < 9 := by
  apply Decidable.byContradiction
  intro hk
  have h1 : x / 128 ^ 9 < 128 := by
    apply (Nat.div_lt_iff_lt_mul (by decide)).2
    omega
  have h2 : x / 128 ^ k ≤ x / 128 ^ 9 := Nat.div_le_div_left (Nat.pow_le_pow_right (by omega) (by omega)) (by decide)
  omega
theorem sevF_len (f : Nat) : ∀ x, (sevF f x).length ≤ f + 1 := by
  induction f with
  | zero => intro x; simp [sevF]
  | succ f ih =>
    intro x
    simp only [sevF]
    split
    · simp
    · simp only [List.length_cons]; have := ih (x / 128); omega
theorem sevens_len (x : Nat) : (sevens x).length ≤ 10 := sevF_len 9 x
/-- what a writer has: what is wrong, and the bytes -/
def wput (most : Int) (s : Int × List UInt8) (l : List UInt8) : Int × List UInt8 :=
  if s.1 ≠ 0 then s else if most - s.2.length < l.length then (4, s.2) else (0, s.2 ++ l)
def wfail (s : Int × List UInt8) (e : Int) : Int × List UInt8 := if s.1 ≠ 0 then s else (e, s.2)
def wfixed (most : Int) (s : Int × List UInt8) (x : Nat) (n : Int) : Int × List UInt8 :=
  if n < 1 ∨ 8 < n then wfail s 1 else wput most s (fixed x n.toNat)
end Buf
namespace Go.Proofs.Ytbccbfmgjeknhaa
open Go.RowKit
/-- block p is a writer: what is wrong, its bytes, how many may be -/
structure Wr (w : World) (B p : Nat) (A : Option Addr) (c : Nat) (e : Int) (b : List UInt8) (most : Int) : Prop where
  base : B ≤ p
  row : w.heap[p]? = some (.cells #[.int .i64 e, .slice A b.length c, .int .i64 most] 110 (0, 0))
  own : Own w B A c b
  apart : blk A ≠ some p
  room : 0 ≤ most
  low : most ≤ 9223372036854775807
section
variable {w w' : World} {B p : Nat} {A : Option Addr} {c : Nat} {e : Int} {b : List UInt8} {most : Int}
theorem Wr.c0 (h : Wr w B p A c e b most) : w.cell? ⟨p, 0, none⟩ = some (.int .i64 e) := by rw [cell_of_row w p 0 _ _ (0, 0) h.row]; rfl
theorem Wr.c1 (h : Wr w B p A c e b most) : w.cell? ⟨p, 1, none⟩ = some (.slice A b.length c) := by rw [cell_of_row w p 1 _ _ (0, 0) h.row]; rfl
theorem Wr.c2 (h : Wr w B p A c e b most) : w.cell? ⟨p, 2, none⟩ = some (.int .i64 most) := by rw [cell_of_row w p 2 _ _ (0, 0) h.row]; rfl
theorem Wr.fz (h : Wr w B p A c e b most) (i : Nat) : w.frozen? ⟨p, i, none⟩ = false := frozen_of_row w p i _ _ h.row
theorem Wr.lt (h : Wr w B p A c e b most) : p < w.heap.size := (Array.getElem?_eq_some_iff.1 h.row).1
theorem Wr.drew (h : Wr w B p A c e b most) : Wr w.drew B p A c e b most := ⟨h.base, h.row, h.own.drew, h.apart, h.room, h.low⟩
theorem Wr.keep (h : Wr w B p A c e b most) (h1 : w'.heap[p]? = w.heap[p]?) (h2 : ∀ g, blk A = some g → w'.heap[g]? = w.heap[g]?) : Wr w' B p A c e b most :=
  ⟨h.base, h1.trans h.row, h.own.kept h2, h.apart, h.room, h.low⟩
theorem Wr.grow (h : Wr w B p A c e b most) (hg : Grow w w') : Wr w' B p A c e b most := h.keep (hg.block p h.lt) (fun g hq => hg.block g (h.own.lt hq))
theorem Wr.setErr (h : Wr w B p A c e b most) (e' : Int) : Wr (w.setCell ⟨p, 0, none⟩ (.int .i64 e')) B p A c e' b most := by
  refine ⟨h.base, ?_, h.own.kept fun g hg => Below.heap_setCell _ _ _ _ (fun e => h.apart (by rw [hg, e])), h.apart, h.room, h.low⟩
  rw [heap_setCell_same w p 0 _ _ _ h.row]
  rfl
theorem Wr.setBuf (h : Wr w B p A c e b most) {A' : Option Addr} {c' : Nat} {b' : List UInt8} (hp : w'.heap[p]? = w.heap[p]?) (ho : Own w' B A' c' b') (ha : blk A' ≠ some p) :
    Wr (w'.setCell ⟨p, 1, none⟩ (.slice A' b'.length c')) B p A' c' e b' most := by
  have hb := hp.trans h.row
  refine ⟨h.base, ?_, ho.kept fun g hg => Below.heap_setCell _ _ _ _ (fun e => ha (by rw [hg, e])), ha, h.room, h.low⟩
  rw [heap_setCell_same w' p 1 _ _ _ hb]
  rfl
end
/-- the blocks that a writer may turn -/
def foot (p : Nat) (A : Option Addr) : List Nat := p :: (blk A).toList
set_option maxHeartbeats 400000 in
theorem fine_any (p : Nat) (e : Int) (w : World) (h : w.cell? ⟨p, 0, none⟩ = some (.int .i64 e)) :
    Calls Try.prog 68 #[.pointer (some ⟨p, 0, none⟩)] w fun r w' => r = .returned (.bool (e == 0)) ∧ w = w' := by
  go_enter Try.func68, Try.ntmps68
  go_wp2
  go_ret
  exact ⟨rfl, rfl⟩
set_option maxHeartbeats 400000 in
theorem fail_set (p : Nat) (k : Int) (w : World) (h : w.cell? ⟨p, 0, none⟩ = some (.int .i64 0)) (hf : w.frozen? ⟨p, 0, none⟩ = false) :
    Calls Try.prog 65 #[.pointer (some ⟨p, 0, none⟩), .int .i64 k] w fun r w' => r = .returned (.tuple #[]) ∧ w.setCell ⟨p, 0, none⟩ (.int .i64 k) = w' := by
  go_enter Try.func65, Try.ntmps65
  go_wp2
  go_end0
  exact ⟨rfl, rfl⟩
set_option maxHeartbeats 400000 in
theorem fail_keep (p : Nat) (k e : Int) (w : World) (h : w.cell? ⟨p, 0, none⟩ = some (.int .i64 e)) (he : (e == 0) = false) :
    Calls Try.prog 65 #[.pointer (some ⟨p, 0, none⟩), .int .i64 k] w fun r w' => r = .returned (.tuple #[]) ∧ w = w' := by
  go_enter Try.func65, Try.ntmps65
  go_wp2
  go_end0
  exact ⟨rfl, rfl⟩
set_option maxHeartbeats 400000 in
theorem new_any (most : Int) (w : World) (h : most ≤ 9223372036854775807) :
    Calls Try.prog 39 #[.int .i64 most] w fun r w' => r = .returned (.pointer (some ⟨w.heap.size, 0, none⟩)) ∧ Wr w' w.heap.size w.heap.size none 0 0 [] (max most 0) ∧ Below w.heap.size w w' := by
  by_cases h0 : 0 ≤ most
  · have HM := hide (show max most 0 = most by omega)
    go_enter Try.func39, Try.ntmps39
    go_wp2
    go_ret
    rw [HM.out]
    exact ⟨rfl, ⟨Nat.le_refl _, heap_alloc_new w _, Own.nil_ _ _, by simp [blk], h0, h⟩, (Below.refl _ _).alloc (Nat.le_refl _) _⟩
  · have HM := hide (show max most 0 = 0 by omega)
    go_enter Try.func39, Try.ntmps39
    go_wp2
    go_ret
    rw [HM.out]
    exact ⟨rfl, ⟨Nat.le_refl _, heap_alloc_new w _, Own.nil_ _ _, by simp [blk], by omega, by omega⟩, (Below.refl _ _).alloc (Nat.le_refl _) _⟩
set_option maxHeartbeats 1000000 in
theorem room_ok (B p : Nat) (A : Option Addr) (c : Nat) (b : List UInt8) (most n : Int) (w : World) (h : Wr w B p A c 0 b most) (hb : b.length ≤ 1000000000000) (hn : n ≤ most - b.length) :
    Calls Try.prog 79 #[.pointer (some ⟨p, 0, none⟩), .int .i64 n] w fun r w' => r = .returned (.bool true) ∧ Wr w' B p A c 0 b most ∧ Grow w w' := by
  have h0 := h.c0
  have hr := h.room
  have hlow := h.low
  have h1 := fun (W : World) (g : Grow w.drew W) => (h.drew.grow g).c1
  have h2 := fun (W : World) (g : Grow w.drew W) => (h.drew.grow g).c2
  go_enter Try.func79, Try.ntmps79
  go_wp2_with fail
  refine (fine_any p 0 _ h0).mono ?_
  rintro r w' ⟨rfl, rfl⟩
  go_wp2_with fail
  have e1 : IntKind.i64.wrap (most - (b.length : Int)) = most - (b.length : Int) := IntWalk.i64_in _ (by omega)
  have e2 : decide (most - (b.length : Int) < n) = false := by simp; omega
  refine wpG_region (by kernel_rfl) ?_
  refine wpG_take 0 rfl (by kernel_rfl) (fun _ _ _ h => h) rfl (v := ?_) ?_ ?_
  rotate_left
  · (intro w' hG; go_simp; try with_reducible rfl)
  try simp only [Act.put, List.setIfInBounds_toArray, List.set_cons_zero, List.set_cons_succ]
  refine wpG_take 1 rfl (by kernel_rfl) (fun _ _ _ h => h) rfl (v := ?_) ?_ ?_
  rotate_left
  · (intro w' hG; go_simp; try with_reducible rfl)
  try simp only [Act.put, List.setIfInBounds_toArray, List.set_cons_zero, List.set_cons_succ]
  refine wpG_take 2 rfl (by kernel_rfl) (fun _ _ _ h => h) rfl (v := ?_) ?_ ?_
  rotate_left
  · (intro w' hG; go_simp; try with_reducible rfl)
  try simp only [Act.put, List.setIfInBounds_toArray, List.set_cons_zero, List.set_cons_succ]
  refine wpG_take 3 rfl (by kernel_rfl) (fun _ _ _ h => h) rfl (v := ?_) ?_ ?_
  rotate_left
  · (intro w' hG; go_simp; try with_reducible rfl)
  try simp only [Act.put, List.setIfInBounds_toArray, List.set_cons_zero, List.set_cons_succ]
  refine wpG_take 4 rfl (by kernel_rfl) (fun _ _ _ h => h) rfl (v := ?_) ?_ ?_
  rotate_left
  · (intro w' hG; go_simp; try with_reducible rfl)
  try simp only [Act.put, List.setIfInBounds_toArray, List.set_cons_zero, List.set_cons_succ]
  refine wpG_take 5 rfl (by kernel_rfl) (fun _ _ _ h => h) rfl (v := ?_) ?_ ?_
  rotate_left
  · (intro w' hG; go_simp; try with_reducible rfl)
  try simp only [Act.put, List.setIfInBounds_toArray, List.set_cons_zero, List.set_cons_succ]
  refine wpG_take 6 rfl (by kernel_rfl) (fun _ _ _ h => h) rfl (v := ?_) ?_ ?_
  rotate_left
  · (intro w' hG; go_simp; try with_reducible rfl)
  try simp only [Act.put, List.setIfInBounds_toArray, List.set_cons_zero, List.set_cons_succ]
  refine wpG_take 7 rfl (by kernel_rfl) (fun _ _ _ h => h) rfl (v := ?_) ?_ ?_
  rotate_left
  · (intro w' hG; go_simp; try with_reducible rfl)
  try simp only [Act.put, List.setIfInBounds_toArray, List.set_cons_zero, List.set_cons_succ]
  refine wpG_take 8 rfl (by kernel_rfl) (fun _ _ _ h => h) rfl (v := ?_) ?_ ?_
  rotate_left
  · (intro w' hG; go_simp; try with_reducible rfl)
  try simp only [Act.put, List.setIfInBounds_toArray, List.set_cons_zero, List.set_cons_succ]
  refine wpG_take 9 rfl (by kernel_rfl) (fun _ _ _ h => h) rfl (v := ?_) ?_ ?_
  rotate_left
  · (intro w' hG; go_simp; try with_reducible rfl)
  try simp only [Act.put, List.setIfInBounds_toArray, List.set_cons_zero, List.set_cons_succ]
  refine wpG_take 10 rfl (by kernel_rfl) (fun _ _ _ h => h) rfl (v := ?_) ?_ ?_
  rotate_left
  · (intro w' hG; go_simp; try with_reducible rfl)
  try simp only [Act.put, List.setIfInBounds_toArray, List.set_cons_zero, List.set_cons_succ]
  refine wpG_take 11 rfl (by kernel_rfl) (fun _ _ _ h => h) rfl (v := ?_) ?_ ?_
  rotate_left
  · (intro w' hG; go_simp; try with_reducible rfl)
  try simp only [Act.put, List.setIfInBounds_toArray, List.set_cons_zero, List.set_cons_succ]
  refine wpG_done (by kernel_rfl) ?_ _
  go_wp2
  go_ret
  exact ⟨rfl, h.drew, (Grow.refl w).drew⟩
set_option maxHeartbeats 1000000 in
theorem room_long (B p : Nat) (A : Option Addr) (c : Nat) (b : List UInt8) (most n : Int) (w : World) (h : Wr w B p A c 0 b most) (hb : b.length ≤ 1000000000000) (hn : most - b.length < n) :
    Calls Try.prog 79 #[.pointer (some ⟨p, 0, none⟩), .int .i64 n] w fun r w' => r = .returned (.bool false) ∧ Wr w' B p A c 4 b most ∧ Kept w.heap.size (foot p A) w w' := by
  have h0 := h.c0
  have hr := h.room
  have hlow := h.low
  have h1 := fun (W : World) (g : Grow w.drew W) => (h.drew.grow g).c1
  have h2 := fun (W : World) (g : Grow w.drew W) => (h.drew.grow g).c2
  go_enter Try.func79, Try.ntmps79
  go_wp2_with fail
  refine (fine_any p 0 _ h0).mono ?_
  rintro r w' ⟨rfl, rfl⟩
  go_wp2_with fail
  have e1 : IntKind.i64.wrap (most - (b.length : Int)) = most - (b.length : Int) := IntWalk.i64_in _ (by omega)
  have e2 : decide (most - (b.length : Int) < n) = true := by simp; omega
  refine wpG_region (by kernel_rfl) ?_
  refine wpG_take 0 rfl (by kernel_rfl) (fun _ _ _ h => h) rfl (v := ?_) ?_ ?_
  rotate_left
  · (intro w' hG; go_simp; try with_reducible rfl)
  try simp only [Act.put, List.setIfInBounds_toArray, List.set_cons_zero, List.set_cons_succ]
  refine wpG_take 1 rfl (by kernel_rfl) (fun _ _ _ h => h) rfl (v := ?_) ?_ ?_
  rotate_left
  · (intro w' hG; go_simp; try with_reducible rfl)
  try simp only [Act.put, List.setIfInBounds_toArray, List.set_cons_zero, List.set_cons_succ]
  refine wpG_take 2 rfl (by kernel_rfl) (fun _ _ _ h => h) rfl (v := ?_) ?_ ?_
  rotate_left
  · (intro w' hG; go_simp; try with_reducible rfl)
  try simp only [Act.put, List.setIfInBounds_toArray, List.set_cons_zero, List.set_cons_succ]
  refine wpG_take 3 rfl (by kernel_rfl) (fun _ _ _ h => h) rfl (v := ?_) ?_ ?_
  rotate_left
  · (intro w' hG; go_simp; try with_reducible rfl)
  try simp only [Act.put, List.setIfInBounds_toArray, List.set_cons_zero, List.set_cons_succ]
  refine wpG_take 4 rfl (by kernel_rfl) (fun _ _ _ h => h) rfl (v := ?_) ?_ ?_
  rotate_left
  · (intro w' hG; go_simp; try with_reducible rfl)
  try simp only [Act.put, List.setIfInBounds_toArray, List.set_cons_zero, List.set_cons_succ]
  refine wpG_take 5 rfl (by kernel_rfl) (fun _ _ _ h => h) rfl (v := ?_) ?_ ?_
  rotate_left
  · (intro w' hG; go_simp; try with_reducible rfl)
  try simp only [Act.put, List.setIfInBounds_toArray, List.set_cons_zero, List.set_cons_succ]
  refine wpG_take 6 rfl (by kernel_rfl) (fun _ _ _ h => h) rfl (v := ?_) ?_ ?_
  rotate_left
  · (intro w' hG; go_simp; try with_reducible rfl)
  try simp only [Act.put, List.setIfInBounds_toArray, List.set_cons_zero, List.set_cons_succ]
  refine wpG_take 7 rfl (by kernel_rfl) (fun _ _ _ h => h) rfl (v := ?_) ?_ ?_
  rotate_left
  · (intro w' hG; go_simp; try with_reducible rfl)
  try simp only [Act.put, List.setIfInBounds_toArray, List.set_cons_zero, List.set_cons_succ]
  refine wpG_take 8 rfl (by kernel_rfl) (fun _ _ _ h => h) rfl (v := ?_) ?_ ?_
  rotate_left
  · (intro w' hG; go_simp; try with_reducible rfl)
  try simp only [Act.put, List.setIfInBounds_toArray, List.set_cons_zero, List.set_cons_succ]
  refine wpG_take 9 rfl (by kernel_rfl) (fun _ _ _ h => h) rfl (v := ?_) ?_ ?_
  rotate_left
  · (intro w' hG; go_simp; try with_reducible rfl)
  try simp only [Act.put, List.setIfInBounds_toArray, List.set_cons_zero, List.set_cons_succ]
  refine wpG_take 10 rfl (by kernel_rfl) (fun _ _ _ h => h) rfl (v := ?_) ?_ ?_
  rotate_left
  · (intro w' hG; go_simp; try with_reducible rfl)
  try simp only [Act.put, List.setIfInBounds_toArray, List.set_cons_zero, List.set_cons_succ]
  refine wpG_take 11 rfl (by kernel_rfl) (fun _ _ _ h => h) rfl (v := ?_) ?_ ?_
  rotate_left
  · (intro w' hG; go_simp; try with_reducible rfl)
  try simp only [Act.put, List.setIfInBounds_toArray, List.set_cons_zero, List.set_cons_succ]
  refine wpG_done (by kernel_rfl) ?_ _
  go_wp2_with fail
  refine (fail_set p 4 _ h.drew.c0 (h.drew.fz 0)).mono ?_
  rintro r w' ⟨rfl, rfl⟩
  go_wp2
  go_ret
  exact ⟨rfl, h.drew.setErr 4, ((Kept.refl _ _ w).drew).setCell (p := ⟨p, 0, none⟩) (.inr (by simp [foot])) _⟩
set_option maxHeartbeats 1000000 in
theorem room_bad (B p : Nat) (A : Option Addr) (c : Nat) (e : Int) (b : List UInt8) (most n : Int) (w : World) (h : Wr w B p A c e b most) (he : (e == 0) = false) :
    Calls Try.prog 79 #[.pointer (some ⟨p, 0, none⟩), .int .i64 n] w fun r w' => r = .returned (.bool false) ∧ w = w' := by
  have h0 := h.c0
  go_enter Try.func79, Try.ntmps79
  go_wp2_with fail
  refine (fine_any p e _ h0).mono ?_
  rintro r w' ⟨rfl, rfl⟩
  go_wp2
  go_ret
  exact ⟨rfl, rfl⟩
/-- what a call on a writer leaves -/
def Wrote (w w' : World) (B p : Nat) (A : Option Addr) (s : Int × List UInt8) (most : Int) : Prop :=
  ∃ A' c', Wr w' B p A' c' s.1 s.2 most ∧ Kept w.heap.size (foot p A) w w' ∧ ∀ q, blk A' = some q → blk A = some q ∨ w.heap.size ≤ q
theorem Wrote.same {w : World} {B p : Nat} {A : Option Addr} {c : Nat} {e : Int} {b : List UInt8} {most : Int} (h : Wr w B p A c e b most) : Wrote w w B p A (e, b) most :=
  ⟨A, c, h, Kept.refl _ _ _, fun _ hq => .inl hq⟩
theorem Wrote.grown {w0 w w' : World} {B p : Nat} {A : Option Addr} {s : Int × List UInt8} {most : Int} (hg : Grow w0 w) (h : Wrote w w' B p A s most) : Wrote w0 w' B p A s most := by
  obtain ⟨A', c', h1, h2, h3⟩ := h
  refine ⟨A', c', h1, (Kept.of_below hg _).trans (h2.mono hg.size (fun _ _ h => h)), fun q hq => ?_⟩
  rcases h3 q hq with h | h
  · exact .inl h
  · exact .inr (Nat.le_trans hg.size h)
set_option maxHeartbeats 1000000 in
theorem byte_any (B p : Nat) (A : Option Addr) (c : Nat) (e : Int) (b : List UInt8) (most : Int) (A2 : Option Addr) (l : List UInt8) (c2 : Nat) (w : World) (h : Wr w B p A c e b most) (hl : Bytes w A2 l)
    (hb : b.length ≤ 1000000000000) (hll : l.length ≤ 1000000000000) (hB : B ≤ w.heap.size) :
    Calls Try.prog 63 #[.pointer (some ⟨p, 0, none⟩), .slice A2 l.length c2] w fun r w' => r = .returned (.tuple #[]) ∧ Wrote w w' B p A (Buf.wput most (e, b) l) most := by
  by_cases he : e = 0
  · subst he
    by_cases hn : (l.length : Int) ≤ most - b.length
    · have HP := hide (show Buf.wput most (0, b) l = (0, b ++ l) by unfold Buf.wput; rw [if_neg (by simp), if_neg (by show ¬ most - (b.length : Int) < l.length; omega)])
      go_enter Try.func63, Try.ntmps63
      go_wp2_with fail
      refine (room_ok B p A c b most _ _ h hb hn).mono ?_
      rintro r w1 ⟨rfl, h1, hg1⟩
      have hl1 := hl.grow hg1
      have hc1 := h1.c1
      have hB1 : B ≤ w1.heap.size := Nat.le_trans hB hg1.size
      go_wp2_with (at_builtin; refine wpList_append_bytes byteT rfl (.tmp 12) (.tmp 13) rfl h1.own hl1 rfl rfl ?_ ?_ ?_)
      · omega
      · exact hB1
      intro A' c' b' w2 HL hown hg2 hat
      have hp : w2.heap[p]? = w1.heap[p]? := hg2.block p h1.lt (fun e => h1.apart e.symm)
      have ha : blk A' ≠ some p := by
        rcases hat with hat | hat
        · rw [hat]; exact h1.apart
        · rw [hat]; intro e; injection e with e; have := h1.lt; omega
      have hcx : w2.cell? ⟨p, 1, none⟩ = some (.slice A b.length c) := (World.cell?_of_block hp).trans hc1
      have hfx : w2.frozen? ⟨p, 1, none⟩ = false := (World.frozen?_of_block hp).trans (h1.fz 1)
      go_wp2
      go_end0
      refine ⟨rfl, ?_⟩
      rw [HP.out]
      have e : b' = b ++ l := HL.out
      subst e
      refine ⟨A', c', h1.setBuf hp hown ha, (((Kept.of_below hg1 _).grown hg2 hg1.size (fun q hq => ?_))).setCell (p := ⟨p, 1, none⟩) (.inr (by simp [foot])) _, fun q hq => ?_⟩
      · exact .inr (by simp [foot, hq])
      · rcases hat with hat | hat
        · exact .inl (by rw [← hat]; exact hq)
        · rw [hat] at hq; injection hq with hq; exact .inr (by have := hg1.size; omega)
    · have HP := hide (show Buf.wput most (0, b) l = (4, b) by unfold Buf.wput; rw [if_neg (by simp), if_pos (by show most - (b.length : Int) < l.length; omega)])
      go_enter Try.func63, Try.ntmps63
      go_wp2_with fail
      refine (room_long B p A c b most _ _ h hb (by omega)).mono ?_
      rintro r w1 ⟨rfl, h1, hk1⟩
      go_wp2
      go_end0
      refine ⟨rfl, ?_⟩
      rw [HP.out]
      exact ⟨A, c, h1, hk1, fun q hq => .inl hq⟩
  · have he' : (e == 0) = false := by simpa using he
    have HP := hide (show Buf.wput most (e, b) l = (e, b) by unfold Buf.wput; rw [if_pos he])
    clear he
    go_enter Try.func63, Try.ntmps63
    go_wp2_with fail
    refine (room_bad B p A c e b most _ _ h he').mono ?_
    rintro r w' ⟨rfl, rfl⟩
    go_wp2
    go_end0
    refine ⟨rfl, ?_⟩
    rw [HP.out]
    exact Wrote.same h
end Go.Proofs.Ytbccbfmgjeknhaa
namespace Go.Proofs.Ytbccbfmgjeknhaa
open Go.RowKit
theorem or128 (X : Nat) : bits .or .u8 ((X : Int) % 256) 128 = ((X % 128 + 128 : Nat) : Int) := by
  have h := u8_or_nat (X % 256) 128 (by omega) (by omega)
  rw [(show ∀ a : Fin 256, a.val ||| 128 = a.val % 128 + 128 by decide +kernel) ⟨X % 256, by omega⟩] at h
  have e : ((X : Int) % 256) = ((X % 256 : Nat) : Int) := by omega
  rw [e]
  rw [show X % 256 % 128 = X % 128 by omega] at h
  exact h
set_option maxRecDepth 100000 in
set_option maxHeartbeats 1000000 in
theorem sevens_any (x : Nat) (w : World) (hx : Hid (x < 18446744073709551616)) :
    Calls Try.prog 64 #[.int .u64 x] w fun r w' => ∃ A c, r = .returned (.slice A (Buf.sevens x).length c) ∧ Own w' w.heap.size A c (Buf.sevens x) ∧ Grow w w' := by
  go_enter Try.func64, Try.ntmps64
  go_wp2
  go_loopw [0, 3] (fun v b wr => ∃ (k X : Nat) (A : Option Addr) (c : Nat) (l : List UInt8), v = .int .u64 (X : Nat) ∧ b = .slice A l.length c ∧ Hid (X = x / 128 ^ k) ∧ Hid (l = Buf.sevTo x k) ∧ Hid (∀ j, j < k → 128 ≤ x / 128 ^ j) ∧ Own wr w.heap.size A c l ∧ Below w.heap.size w wr)
    (fun v _ _ => (intOf v).toNat)
  case atStart => exact ⟨0, x, none, 0, [], rfl, rfl, hide (by simp), hide rfl, hide (fun j h => absurd h (by omega)), Own.nil_ _ _, Below.refl _ _⟩
  case round =>
    obtain ⟨k, X, A, c, l, rfl, rfl, HX, HL, HJ, hown, hbel⟩ := hrel
    have HK := hide (fun (h : 128 ≤ X) => Buf.seven_small x k hx.out (by rw [← HX.out]; exact h))
    have HLL := hide (show l.length = k by rw [HL.out, Buf.sevTo_length])
    by_cases h : 128 ≤ X
    · have hk9 := HK.out h
      have hlen : l.length ≤ 9 := by rw [HLL.out]; omega
      have h1 := Bytes.one wr ((X % 128 + 128 : Nat) : Int) (by omega) (by omega) (t := 5) rfl
      have hbel1 := hbel.alloc hbel.size (.cells #[.int .u8 ((X % 128 + 128 : Nat) : Int)] 5)
      have EO := or128 X
      go_wp2_with (at_builtin; refine wpList_append_bytes byteT rfl (.tmp 6) (.tmp 10) rfl (hown.alloc _) h1 rfl rfl ?_ ?_ ?_)
      · simp; omega
      · exact hbel1.size
      intro A' c' l' w2 HL' hown2 hg2 _
      have hbel2 : Below w.heap.size w w2 := hbel1.grown hg2 hbel1.size (fun q hq => hown.base hq)
      go_wp2
      go_roundw
      case rel => exact ⟨k + 1, X / 128, A', c', l', rfl, rfl, hide (by rw [HX.out, Nat.div_div_eq_div_mul, Nat.pow_succ]), hide (by rw [HL'.out, HL.out, show ((X : Int) % 128 + 128).toNat = X % 128 + 128 by omega, HX.out]; rfl), hide (fun j hj => by
          rcases Nat.lt_or_ge j k with h' | h'
          · exact HJ.out j h'
          · obtain rfl : j = k := by omega
            rw [← HX.out]; exact h), hown2, hbel2⟩
      case measure => simp [intOf]; omega
    · have hk : k ≤ 9 := by
        rcases Nat.eq_zero_or_pos k with h0 | h0
        · omega
        · have := Buf.seven_small x (k - 1) hx.out (HJ.out (k - 1) (by omega)); omega
      have HS := hide (show Buf.sevens x = Buf.sevTo x k ++ [UInt8.ofNat (x / 128 ^ k)] from Buf.sevF_of k 9 x hk HJ.out (by rw [← HX.out]; omega))
      have hlen : l.length ≤ 9 := by rw [HLL.out]; exact hk
      have h1 := Bytes.one wr ((X : Nat) : Int) (by omega) (by omega) (t := 5) rfl
      have hbel1 := hbel.alloc hbel.size (.cells #[.int .u8 ((X : Nat) : Int)] 5)
      go_wp2_with (at_builtin; refine wpList_append_bytes byteT rfl (.tmp 14) (.tmp 17) rfl (hown.alloc _) h1 rfl rfl ?_ ?_ ?_)
      · simp; omega
      · exact hbel1.size
      intro A' c' l' w2 HL' hown2 hg2 _
      have hbel2 : Below w.heap.size w w2 := hbel1.grown hg2 hbel1.size (fun q hq => hown.base hq)
      have e : l' = Buf.sevens x := by rw [HL'.out, HS.out, HL.out, HX.out]
      subst e
      go_wp2
      go_ret
      exact ⟨A', c', rfl, hown2, hbel2⟩
/-- block g has n cells, of which the first k are f -/
def RowTo (w : World) (g n k : Nat) (f : Nat → Value) : Prop := ∃ (cs : Array Value) (t : TypeId), w.heap[g]? = some (.cells cs t (0, 0)) ∧ cs.size = n ∧ ∀ i, i < k → cs[i]? = some (f i)
section
variable {w w' : World} {g n k : Nat} {f : Nat → Value}
theorem RowTo.cell (h : RowTo w g n k f) (hk : k < n) : ∃ v, w.cell? ⟨g, k, none⟩ = some v := by
  obtain ⟨cs, t, hb, hs, _⟩ := h
  rw [cell_of_row w g k cs t (0, 0) hb]
  exact ⟨cs[k], by simp [hs, hk]⟩
theorem RowTo.at_ (h : RowTo w g n k f) (i : Nat) (hi : i < k) : w.cell? ⟨g, i, none⟩ = some (f i) := by
  obtain ⟨cs, t, hb, hs, hc⟩ := h
  rw [cell_of_row w g i cs t (0, 0) hb]
  exact hc i hi
theorem RowTo.frozen (h : RowTo w g n k f) (i : Nat) : w.frozen? ⟨g, i, none⟩ = false := by
  obtain ⟨cs, t, hb, _⟩ := h
  exact frozen_of_row w g i cs t hb
theorem RowTo.set (h : RowTo w g n k f) (hk : k < n) : RowTo (w.setCell ⟨g, k, none⟩ (f k)) g n (k + 1) f := by
  obtain ⟨cs, t, hb, hs, hc⟩ := h
  refine ⟨cs.setIfInBounds k _, t, heap_setCell_same w g k cs t _ hb, by simpa using hs, fun i hi => ?_⟩
  rw [Array.getElem?_setIfInBounds]
  by_cases e : k = i
  · subst e; simp [hs, hk]
  · rw [if_neg e]; exact hc i (by omega)
theorem RowTo.keep (h : RowTo w g n k f) (hb : w'.heap[g]? = w.heap[g]?) : RowTo w' g n k f := by
  obtain ⟨cs, t, h1, h2, hc⟩ := h
  exact ⟨cs, t, by rw [hb]; exact h1, h2, hc⟩
end
/-- byte i of a number, as a value -/
def byteAt (x i : Nat) : Value := .int .u8 ((x / 2 ^ (8 * i) : Nat) % 256 : Int)
theorem byteAt_eq (x i : Nat) : byteAt x i = u8 (UInt8.ofNat (x / 256 ^ i)) := by
  unfold byteAt u8
  rw [UInt8.toNat_ofNat', show (256 : Nat) ^ i = 2 ^ (8 * i) by rw [Nat.pow_mul]]
  congr 1
set_option maxRecDepth 100000 in
set_option maxHeartbeats 1000000 in
theorem bytes8_any (x : Nat) (w : World) : Calls Try.prog 66 #[.int .u64 x] w fun r w' => r = .returned (.agg #[byteAt x 0, byteAt x 1, byteAt x 2, byteAt x 3, byteAt x 4, byteAt x 5, byteAt x 6, byteAt x 7]) ∧ Grow w w' := by
  have h0 : RowTo ((w.alloc (.cells #[.int .u8 0, .int .u8 0, .int .u8 0, .int .u8 0, .int .u8 0, .int .u8 0, .int .u8 0, .int .u8 0] 113)).alloc (.cells #[.int .u8 0, .int .u8 0, .int .u8 0, .int .u8 0, .int .u8 0, .int .u8 0, .int .u8 0, .int .u8 0] 113)) (w.heap.size + 1) 8 0 (byteAt x) := ⟨_, _, by rw [show w.heap.size + 1 = (w.alloc (.cells #[.int .u8 0, .int .u8 0, .int .u8 0, .int .u8 0, .int .u8 0, .int .u8 0, .int .u8 0, .int .u8 0] 113)).heap.size by simp]; exact heap_alloc_new _ _, rfl, fun i h => absurd h (by omega)⟩
  have hr0 : RowTo ((w.alloc (.cells #[.int .u8 0, .int .u8 0, .int .u8 0, .int .u8 0, .int .u8 0, .int .u8 0, .int .u8 0, .int .u8 0] 113)).alloc (.cells #[.int .u8 0, .int .u8 0, .int .u8 0, .int .u8 0, .int .u8 0, .int .u8 0, .int .u8 0, .int .u8 0] 113)) w.heap.size 8 8 (fun _ => .int .u8 0) := ⟨#[.int .u8 0, .int .u8 0, .int .u8 0, .int .u8 0, .int .u8 0, .int .u8 0, .int .u8 0, .int .u8 0], _, (Below.heap_alloc _ _ _ (by simp)).trans (heap_alloc_new w _), rfl, fun i h => by
    match i, h with
    | 0, _ | 1, _ | 2, _ | 3, _ | 4, _ | 5, _ | 6, _ | 7, _ => rfl⟩
  have hbel0 := ((Below.refl w.heap.size w).alloc (Nat.le_refl _) (.cells #[.int .u8 0, .int .u8 0, .int .u8 0, .int .u8 0, .int .u8 0, .int .u8 0, .int .u8 0, .int .u8 0] 113)).alloc (by simp) (.cells #[.int .u8 0, .int .u8 0, .int .u8 0, .int .u8 0, .int .u8 0, .int .u8 0, .int .u8 0, .int .u8 0] 113)
  go_enter Try.func66, Try.ntmps66
  go_wp2
  go_loopw [5] (fun i wr => ∃ k : Nat, k ≤ 8 ∧ i = .int .i64 k ∧ RowTo wr (w.heap.size + 1) 8 k (byteAt x) ∧ RowTo wr w.heap.size 8 8 (fun _ => .int .u8 0) ∧ Below w.heap.size w wr) (fun i _ => 8 - (intOf i).toNat)
  case atStart => exact ⟨0, by omega, rfl, h0, hr0, hbel0⟩
  case round =>
    obtain ⟨k, hk, rfl, hm, hr, hbel⟩ := hrel
    clear h0 hr0 hbel0
    by_cases hlt : k < 8
    · obtain ⟨v0, hc0⟩ := hm.cell hlt
      have hf0 := hm.frozen k
      have EB := hide (show Value.int .u8 ((x : Int) / 2 ^ (8 * k) % 256) = byteAt x k by simp [byteAt])
      go_wp2
      rw [EB.out]
      go_roundw
      case rel => exact ⟨k + 1, by omega, by go_num, hm.set hlt, hr.keep (Below.heap_setCell _ _ _ _ (by simp)), hbel.setCell (p := ⟨w.heap.size + 1, k, none⟩) (by simp) _⟩
      case measure => simp [intOf]; omega
    · obtain rfl : k = 8 := by omega
      have key : ∀ i, ∃ b, byteAt x i = .int .u8 b := fun i => ⟨_, rfl⟩
      obtain ⟨b0, e0⟩ := key 0
      have a0 := hm.at_ 0 (by omega)
      rw [e0] at a0
      have E0 := hide e0
      clear e0
      have r0 := hr.at_ 0 (by omega)
      have f0 := hr.frozen 0
      obtain ⟨b1, e1⟩ := key 1
      have a1 := hm.at_ 1 (by omega)
      rw [e1] at a1
      have E1 := hide e1
      clear e1
      have r1 := hr.at_ 1 (by omega)
      have f1 := hr.frozen 1
      obtain ⟨b2, e2⟩ := key 2
      have a2 := hm.at_ 2 (by omega)
      rw [e2] at a2
      have E2 := hide e2
      clear e2
      have r2 := hr.at_ 2 (by omega)
      have f2 := hr.frozen 2
      obtain ⟨b3, e3⟩ := key 3
      have a3 := hm.at_ 3 (by omega)
      rw [e3] at a3
      have E3 := hide e3
      clear e3
      have r3 := hr.at_ 3 (by omega)
      have f3 := hr.frozen 3
      obtain ⟨b4, e4⟩ := key 4
      have a4 := hm.at_ 4 (by omega)
      rw [e4] at a4
      have E4 := hide e4
      clear e4
      have r4 := hr.at_ 4 (by omega)
      have f4 := hr.frozen 4
      obtain ⟨b5, e5⟩ := key 5
      have a5 := hm.at_ 5 (by omega)
      rw [e5] at a5
      have E5 := hide e5
      clear e5
      have r5 := hr.at_ 5 (by omega)
      have f5 := hr.frozen 5
      obtain ⟨b6, e6⟩ := key 6
      have a6 := hm.at_ 6 (by omega)
      rw [e6] at a6
      have E6 := hide e6
      clear e6
      have r6 := hr.at_ 6 (by omega)
      have f6 := hr.frozen 6
      obtain ⟨b7, e7⟩ := key 7
      have a7 := hm.at_ 7 (by omega)
      rw [e7] at a7
      have E7 := hide e7
      clear e7
      have r7 := hr.at_ 7 (by omega)
      have f7 := hr.frozen 7
      have hsz : w.heap.size + 1 < wr.heap.size := by
        obtain ⟨cs, t, hb, _⟩ := hm
        exact (Array.getElem?_eq_some_iff.1 hb).1
      clear key hm hr
      go_wp2
      refine bodyPost_ret (v := .agg #[.int .u8 b0, .int .u8 b1, .int .u8 b2, .int .u8 b3, .int .u8 b4, .int .u8 b5, .int .u8 b6, .int .u8 b7]) (by simp [results, Try.results66, go_sem, r0, r1, r2, r3, r4, r5, r6, r7]) rfl ⟨by rw [E0.out, E1.out, E2.out, E3.out, E4.out, E5.out, E6.out, E7.out], ?_⟩
      exact (((((((hbel.setCell (Nat.le_refl _) _).setCell (Nat.le_refl _) _).setCell (Nat.le_refl _) _).setCell (Nat.le_refl _) _).setCell (Nat.le_refl _) _).setCell (Nat.le_refl _) _).setCell (Nat.le_refl _) _).setCell (Nat.le_refl _) _
theorem fix8 (x : Nat) : #[byteAt x 0, byteAt x 1, byteAt x 2, byteAt x 3, byteAt x 4, byteAt x 5, byteAt x 6, byteAt x 7] = ((Buf.fixed x 8).map u8).toArray := by
  simp only [byteAt_eq]
  simp [Buf.fixed, Nat.div_div_eq_div_mul]
theorem byte_at (B p : Nat) (A : Option Addr) (c : Nat) (e : Int) (b : List UInt8) (most : Int) (A2 : Option Addr) (l : List UInt8) (n c2 : Nat) (w : World) (hn : l.length = n) (h : Wr w B p A c e b most) (hl : Bytes w A2 l)
    (hb : b.length ≤ 1000000000000) (hll : n ≤ 1000000000000) (hB : B ≤ w.heap.size) :
    Calls Try.prog 63 #[.pointer (some ⟨p, 0, none⟩), .slice A2 n c2] w fun r w' => r = .returned (.tuple #[]) ∧ Wrote w w' B p A (Buf.wput most (e, b) l) most := by
  subst hn
  exact byte_any B p A c e b most A2 l c2 w h hl hb hll hB
set_option maxRecDepth 100000 in
set_option maxHeartbeats 1000000 in
theorem fixed_any (B p : Nat) (A : Option Addr) (c : Nat) (e : Int) (b : List UInt8) (most : Int) (x : Nat) (n : Int) (w : World) (h : Wr w B p A c e b most)
    (hb : b.length ≤ 1000000000000) (hB : B ≤ w.heap.size) :
    Calls Try.prog 41 #[.pointer (some ⟨p, 0, none⟩), .int .u64 x, .int .i64 n] w fun r w' => r = .returned (.tuple #[]) ∧ Wrote w w' B p A (Buf.wfixed most (e, b) x n) most := by
  by_cases hn : n < 1 ∨ 8 < n
  · have hd : (decide (n < 1) || decide (8 < n)) = true := by simpa using hn
    by_cases he : e = 0
    · subst he
      have HP := hide (show Buf.wfixed most (0, b) x n = (1, b) by unfold Buf.wfixed; rw [if_pos hn]; rfl)
      have hc := h.c0
      have hf := h.fz 0
      rcases hn with hn | hn
      all_goals
        clear hd
        go_enter Try.func41, Try.ntmps41
        go_wp2_with fail
        refine (fail_set p 1 _ hc hf).mono ?_
        rintro r w' ⟨rfl, rfl⟩
        go_wp2
        refine bodyPost_ret (results_none rfl _ _ _) rfl ?_
        refine ⟨rfl, ?_⟩
        rw [HP.out]
        exact ⟨A, c, h.setErr 1, (Kept.refl _ _ w).setCell (p := ⟨p, 0, none⟩) (.inr (by simp [foot])) _, fun q hq => .inl hq⟩
    · have he' : (e == 0) = false := by simpa using he
      have HP := hide (show Buf.wfixed most (e, b) x n = (e, b) by unfold Buf.wfixed; rw [if_pos hn]; unfold Buf.wfail; rw [if_pos he])
      have hc := h.c0
      clear he
      rcases hn with hn | hn
      all_goals
        clear hd
        go_enter Try.func41, Try.ntmps41
        go_wp2_with fail
        refine (fail_keep p 1 e _ hc he').mono ?_
        rintro r w' ⟨rfl, rfl⟩
        go_wp2
        refine bodyPost_ret (results_none rfl _ _ _) rfl ?_
        refine ⟨rfl, ?_⟩
        rw [HP.out]
        exact Wrote.same h
  · obtain ⟨m, rfl⟩ := Int.eq_ofNat_of_zero_le (show 0 ≤ n by omega)
    have hm1 : 1 ≤ m := by omega
    have hm8 : m ≤ 8 := by omega
    have HP := hide (show Buf.wfixed most (e, b) x m = Buf.wput most (e, b) (Buf.fixed x m) by unfold Buf.wfixed; rw [if_neg hn, Int.toNat_natCast])
    clear hn
    have key : ∀ i, ∃ b, byteAt x i = .int .u8 b := fun i => ⟨_, rfl⟩
    obtain ⟨b0, e0⟩ := key 0
    obtain ⟨b1, e1⟩ := key 1
    obtain ⟨b2, e2⟩ := key 2
    obtain ⟨b3, e3⟩ := key 3
    obtain ⟨b4, e4⟩ := key 4
    obtain ⟨b5, e5⟩ := key 5
    obtain ⟨b6, e6⟩ := key 6
    obtain ⟨b7, e7⟩ := key 7
    have hx := bytes8_any x
    simp only [e0, e1, e2, e3, e4, e5, e6, e7] at hx
    have HX := hide hx
    clear hx key
    go_enter Try.func41, Try.ntmps41
    go_wp2_with fail
    refine (HX.out _).mono ?_
    rintro r w1 ⟨rfl, hg1⟩
    have hF := fix8 x
    rw [e0, e1, e2, e3, e4, e5, e6, e7] at hF
    have hbl := (Bytes.lit w1 (Buf.fixed x 8) _ 113 (0, 0) hF).take m
    rw [Buf.fixed_take x m 8 hm8] at hbl
    have hg2 := hg1.alloc (.cells #[.int .u8 b0, .int .u8 b1, .int .u8 b2, .int .u8 b3, .int .u8 b4, .int .u8 b5, .int .u8 b6, .int .u8 b7] 113)
    have HC := hide (byte_at B p A c e b most _ (Buf.fixed x m) m 8 _ (Buf.fixed_length m x) (h.grow hg2) hbl hb (by omega) (Nat.le_trans hB hg2.size))
    clear hF e0 e1 e2 e3 e4 e5 e6 e7
    go_wp2_with fail
    refine HC.out.mono ?_
    rintro r w2 ⟨rfl, hw⟩
    go_wp2
    go_end0
    refine ⟨rfl, ?_⟩
    rw [HP.out]
    exact hw.grown hg2
set_option maxRecDepth 100000 in
set_option maxHeartbeats 1000000 in
theorem num_any (B p : Nat) (A : Option Addr) (c : Nat) (e : Int) (b : List UInt8) (most : Int) (x : Nat) (w : World) (h : Wr w B p A c e b most) (hx : Hid (x < 18446744073709551616))
    (hb : b.length ≤ 1000000000000) (hB : B ≤ w.heap.size) :
    Calls Try.prog 40 #[.pointer (some ⟨p, 0, none⟩), .int .u64 x] w fun r w' => r = .returned (.tuple #[]) ∧ Wrote w w' B p A (Buf.wput most (e, b) (Buf.sevens x)) most := by
  have hl := Buf.sevens_len x
  go_enter Try.func40, Try.ntmps40
  go_wp2_with fail
  refine (sevens_any x _ hx).mono ?_
  generalize hgs : Buf.sevens x = s at *
  have HG := hide hgs
  clear hgs
  rintro r w1 ⟨A1, c1, rfl, hown, hg1⟩
  go_wp2_with fail
  refine (byte_any B p A c e b most A1 s c1 _ (h.grow hg1) hown.bytes hb (by omega) (Nat.le_trans hB hg1.size)).mono ?_
  rintro r w2 ⟨rfl, hw⟩
  go_wp2
  go_end0
  rw [HG.out]
  exact ⟨rfl, hw.grown hg1⟩
end Go.Proofs.Ytbccbfmgjeknhaa
namespace Go.Proofs.Ytbccbfmgjeknhaa
open Go.RowKit
set_option maxRecDepth 100000 in
set_option maxHeartbeats 1000000 in
theorem done_ok (B p : Nat) (A : Option Addr) (c : Nat) (b : List UInt8) (most : Int) (w : World) (h : Wr w B p A c 0 b most) (hb : b.length ≤ 1000000000000) :
    Calls Try.prog 43 #[.pointer (some ⟨p, 0, none⟩)] w fun r w' => ∃ A' c', r = .returned (.tuple #[.slice A' b.length c', .int .i64 0]) ∧ Own w' w.heap.size A' c' b ∧ Grow w w' := by
  have hc0 := h.c0
  have hc1 := (h.grow ((Grow.refl w).alloc (.cells #[] 5))).c1
  have hbb := h.own.bytes
  go_enter Try.func43, Try.ntmps43
  go_wp2_with fail
  refine (fine_any p 0 _ hc0).mono ?_
  rintro r w' ⟨rfl, rfl⟩
  go_wp2_with (at_builtin; refine wpList_append_bytes byteT rfl (.tmp 18) (.tmp 22) rfl (Own.made w (base := w.heap.size) #[] 0 (Nat.le_refl _) (by decide) rfl) (hbb.alloc _) rfl rfl ?_ ?_ ?_)
  · simp; omega
  · simp
  intro A' c' b' w2 HL hown hg2 _
  have e : b' = b := HL.out.trans (by simp)
  subst e
  go_wp2
  go_ret2
  exact ⟨A', c', rfl, hown, (((Below.refl _ _).alloc (Nat.le_refl _) _).grown hg2 (by simp) (by simp [blk]))⟩
end Go.Proofs.Ytbccbfmgjeknhaa
namespace Go.Proofs.Ytbccbfmgjeknhaa
open Go.RowKit
def u8of (x : Int) : UInt8 := UInt8.ofNat (IntKind.u8.wrap x).toNat
/-- between two calls on a writer: g is the box of what is written -/
structure Putting (w0 w : World) (B p : Nat) (A0 A : Option Addr) (c : Nat) (s : Int × List UInt8) (most : Int) (g : Nat) (cs : Array Value) : Prop where
  wr : Wr w B p A c s.1 s.2 most
  kept : Kept w0.heap.size (foot p A0) w0 w
  orig : ∀ q, blk A = some q → blk A0 = some q ∨ w0.heap.size ≤ q
  box : Holds w g cs
  apart : blk A ≠ some g
theorem Putting.step {w0 w w1 w2 : World} {B p : Nat} {A0 A : Option Addr} {c : Nat} {s s' : Int × List UInt8} {most : Int} {g : Nat} {cs : Array Value} (h : Putting w0 w B p A0 A c s most g cs)
    (hp : p < w0.heap.size) (hg : w0.heap.size ≤ g) (hs : 0 < cs.size) (hgr : Grow w w1) (hw : Wrote w1 w2 B p A s' most) : ∃ A' c', Putting w0 w2 B p A0 A' c' s' most g cs := by
  obtain ⟨A', c', h1, h2, h3⟩ := hw
  have hsz : w0.heap.size ≤ w1.heap.size := Nat.le_trans h.kept.size hgr.size
  have hgl : g < w.heap.size := h.box.lt hs
  have hgl1 : g < w1.heap.size := Nat.lt_of_lt_of_le hgl hgr.size
  have hng : g ∉ foot p A := by
    intro hm
    rcases List.mem_cons.1 hm with e | e
    · omega
    · exact h.apart (by simpa using e)
  refine ⟨A', c', h1, (h.kept.trans (Kept.of_below (hgr.mono (by have := h.kept.size; omega)) _)).trans (h2.mono hsz fun k hk hm => ?_), fun q hq => ?_, ?_, fun hq => ?_⟩
  · rcases List.mem_cons.1 hm with e | e
    · simp [foot, e]
    · have e' : blk A = some k := by simpa using e
      rcases h.orig k e' with e2 | e2
      · simp [foot, e2]
      · omega
  · rcases h3 q hq with e | e
    · exact h.orig q e
    · exact .inr (by omega)
  · intro i
    have hb := h.box.grow hs hgr i
    rw [← hb]
    exact World.cell?_of_block (h2.block g hgl1 hng)
  · rcases h3 g hq with e | e
    · exact h.apart e
    · omega
end Go.Proofs.Ytbccbfmgjeknhaa
