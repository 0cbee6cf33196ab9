/- The plain law of chapter 05: numbers as bytes. No Go in sight. The walks of a writer of package buf. The walks of numbers in sevens, and of the rest of a writer. The walks of the rest of a writer. The walks of head.Put. -/
import Derived.Test.YtpobjcdcimcdnaaTool
import Derived.Test.YtpobjcdcimcdnaaPk
namespace Buf
/-- a number in sevens, with fuel -/
def sevF : Nat → Nat → List UInt8
  | 0, x => [UInt8.ofNat x]
  | k + 1, x => if x < 128 then [UInt8.ofNat x] else UInt8.ofNat (x % 128 + 128) :: sevF k (x / 128)
def sevens (x : Nat) : List UInt8 := sevF 9 x
/-- what the sevens before the last one are -/
def sevTo (x : Nat) : Nat → List UInt8
  | 0 => []
  | k + 1 => sevTo x k ++ [UInt8.ofNat (x / 128 ^ k % 128 + 128)]
theorem sevTo_length (x : Nat) : ∀ k, (sevTo x k).length = k
  | 0 => rfl
  | k + 1 => by simp [sevTo, sevTo_length x k]
theorem sevTo_cons (x : Nat) : ∀ k, sevTo x (k + 1) = UInt8.ofNat (x % 128 + 128) :: sevTo (x / 128) k
  | 0 => by simp [sevTo]
  | k + 1 => by
    rw [show sevTo x (k + 1 + 1) = sevTo x (k + 1) ++ [UInt8.ofNat (x / 128 ^ (k + 1) % 128 + 128)] from rfl, sevTo_cons x k]
    rw [show sevTo (x / 128) (k + 1) = sevTo (x / 128) k ++ [UInt8.ofNat (x / 128 / 128 ^ k % 128 + 128)] from rfl, Nat.div_div_eq_div_mul, Nat.pow_succ, Nat.mul_comm 128]
    rfl
/-- the loop of the program ends with the sevens -/
theorem sevF_of (k : Nat) : ∀ f x, k ≤ f → (∀ j, j < k → 128 ≤ x / 128 ^ j) → x / 128 ^ k < 128 → sevF f x = sevTo x k ++ [UInt8.ofNat (x / 128 ^ k)] := by
  induction k with
  | zero =>
    intro f x _ _ h
    simp only [Nat.pow_zero, Nat.div_one] at h
    cases f with
    | zero => simp [sevF, sevTo]
    | succ f => simp [sevF, sevTo, h]
  | succ k ih =>
    intro f x hf hj h
    cases f with
    | zero => omega
    | succ f =>
      have h0 := hj 0 (by omega)
      simp only [Nat.pow_zero, Nat.div_one] at h0
      have hd : ∀ j, x / 128 / 128 ^ j = x / 128 ^ (j + 1) := fun j => by rw [Nat.div_div_eq_div_mul, Nat.pow_succ, Nat.mul_comm 128]
      rw [sevF, if_neg (by omega), ih f (x / 128) (by omega) (fun j hj' => by rw [hd]; exact hj (j + 1) (by omega)) (by rw [hd]; exact h), hd, sevTo_cons]
      rfl
theorem seven_small (x k : Nat) (hx : x < 18446744073709551616) (h : 128 ≤ x / 128 ^ k) : k < 9 := by
  apply Decidable.byContradiction
  intro hk
  have h1 : x / 128 ^ 9 < 128 := by
    apply (Nat.div_lt_iff_lt_mul (by decide)).2
    omega
  have h2 : x / 128 ^ k ≤ x / 128 ^ 9 := Nat.div_le_div_left (Nat.pow_le_pow_right (by omega) (by omega)) (by decide)
  omega
theorem sevF_len (f : Nat) : ∀ x, (sevF f x).length ≤ f + 1 := by
  induction f with
  | zero => intro x; simp [sevF]
  | succ f ih =>
    intro x
    simp only [sevF]
    split
    · simp
    · simp only [List.length_cons]; have := ih (x / 128); omega
theorem sevens_len (x : Nat) : (sevens x).length ≤ 10 := sevF_len 9 x
/-- what a writer has: what is wrong, and the bytes -/
def wput (most : Int) (s : Int × List UInt8) (l : List UInt8) : Int × List UInt8 :=
  if s.1 ≠ 0 then s else if most - s.2.length < l.length then (4, s.2) else (0, s.2 ++ l)
end Buf
namespace Go.Proofs.Ytpobjcdcimcdnaa
open Go.RowKit
/-- block p is a writer: what is wrong, its bytes, how many may be -/
structure Wr (w : World) (B p : Nat) (A : Option Addr) (c : Nat) (e : Int) (b : List UInt8) (most : Int) : Prop where
  base : B ≤ p
  row : w.heap[p]? = some (.cells #[.int .i64 e, .slice A b.length c, .int .i64 most] 100 (0, 0))
  own : Own w B A c b
  apart : blk A ≠ some p
  room : 0 ≤ most
  low : most ≤ 9223372036854775807
section
variable {w w' : World} {B p : Nat} {A : Option Addr} {c : Nat} {e : Int} {b : List UInt8} {most : Int}
theorem Wr.c0 (h : Wr w B p A c e b most) : w.cell? ⟨p, 0, none⟩ = some (.int .i64 e) := by rw [cell_of_row w p 0 _ _ (0, 0) h.row]; rfl
theorem Wr.c1 (h : Wr w B p A c e b most) : w.cell? ⟨p, 1, none⟩ = some (.slice A b.length c) := by rw [cell_of_row w p 1 _ _ (0, 0) h.row]; rfl
theorem Wr.c2 (h : Wr w B p A c e b most) : w.cell? ⟨p, 2, none⟩ = some (.int .i64 most) := by rw [cell_of_row w p 2 _ _ (0, 0) h.row]; rfl
theorem Wr.fz (h : Wr w B p A c e b most) (i : Nat) : w.frozen? ⟨p, i, none⟩ = false := frozen_of_row w p i _ _ h.row
theorem Wr.lt (h : Wr w B p A c e b most) : p < w.heap.size := (Array.getElem?_eq_some_iff.1 h.row).1
theorem Wr.drew (h : Wr w B p A c e b most) : Wr w.drew B p A c e b most := ⟨h.base, h.row, h.own.drew, h.apart, h.room, h.low⟩
theorem Wr.keep (h : Wr w B p A c e b most) (h1 : w'.heap[p]? = w.heap[p]?) (h2 : ∀ g, blk A = some g → w'.heap[g]? = w.heap[g]?) : Wr w' B p A c e b most :=
  ⟨h.base, h1.trans h.row, h.own.kept h2, h.apart, h.room, h.low⟩
theorem Wr.grow (h : Wr w B p A c e b most) (hg : Grow w w') : Wr w' B p A c e b most := h.keep (hg.block p h.lt) (fun g hq => hg.block g (h.own.lt hq))
theorem Wr.setErr (h : Wr w B p A c e b most) (e' : Int) : Wr (w.setCell ⟨p, 0, none⟩ (.int .i64 e')) B p A c e' b most := by
  refine ⟨h.base, ?_, h.own.kept fun g hg => Below.heap_setCell _ _ _ _ (fun e => h.apart (by rw [hg, e])), h.apart, h.room, h.low⟩
  rw [heap_setCell_same w p 0 _ _ _ h.row]
  rfl
theorem Wr.setBuf (h : Wr w B p A c e b most) {A' : Option Addr} {c' : Nat} {b' : List UInt8} (hp : w'.heap[p]? = w.heap[p]?) (ho : Own w' B A' c' b') (ha : blk A' ≠ some p) :
    Wr (w'.setCell ⟨p, 1, none⟩ (.slice A' b'.length c')) B p A' c' e b' most := by
  have hb := hp.trans h.row
  refine ⟨h.base, ?_, ho.kept fun g hg => Below.heap_setCell _ _ _ _ (fun e => ha (by rw [hg, e])), ha, h.room, h.low⟩
  rw [heap_setCell_same w' p 1 _ _ _ hb]
  rfl
end
/-- the blocks that a writer may turn -/
def foot (p : Nat) (A : Option Addr) : List Nat := p :: (blk A).toList
set_option maxHeartbeats 400000 in
theorem fine_any (p : Nat) (e : Int) (w : World) (h : w.cell? ⟨p, 0, none⟩ = some (.int .i64 e)) :
    Calls Try.prog 89 #[.pointer (some ⟨p, 0, none⟩)] w fun r w' => r = .returned (.bool (e == 0)) ∧ w = w' := by
  go_enter Try.func89, Try.ntmps89
  go_wp2
  go_ret
  exact ⟨rfl, rfl⟩
set_option maxHeartbeats 400000 in
theorem fail_set (p : Nat) (k : Int) (w : World) (h : w.cell? ⟨p, 0, none⟩ = some (.int .i64 0)) (hf : w.frozen? ⟨p, 0, none⟩ = false) :
    Calls Try.prog 91 #[.pointer (some ⟨p, 0, none⟩), .int .i64 k] w fun r w' => r = .returned (.tuple #[]) ∧ w.setCell ⟨p, 0, none⟩ (.int .i64 k) = w' := by
  go_enter Try.func91, Try.ntmps91
  go_wp2
  go_end0
  exact ⟨rfl, rfl⟩
set_option maxHeartbeats 400000 in
theorem new_any (most : Int) (w : World) (h : most ≤ 9223372036854775807) :
    Calls Try.prog 22 #[.int .i64 most] w fun r w' => r = .returned (.pointer (some ⟨w.heap.size, 0, none⟩)) ∧ Wr w' w.heap.size w.heap.size none 0 0 [] (max most 0) ∧ Below w.heap.size w w' := by
  by_cases h0 : 0 ≤ most
  · have HM := hide (show max most 0 = most by omega)
    go_enter Try.func22, Try.ntmps22
    go_wp2
    go_ret
    rw [HM.out]
    exact ⟨rfl, ⟨Nat.le_refl _, heap_alloc_new w _, Own.nil_ _ _, by simp [blk], h0, h⟩, (Below.refl _ _).alloc (Nat.le_refl _) _⟩
  · have HM := hide (show max most 0 = 0 by omega)
    go_enter Try.func22, Try.ntmps22
    go_wp2
    go_ret
    rw [HM.out]
    exact ⟨rfl, ⟨Nat.le_refl _, heap_alloc_new w _, Own.nil_ _ _, by simp [blk], by omega, by omega⟩, (Below.refl _ _).alloc (Nat.le_refl _) _⟩
set_option maxHeartbeats 1000000 in
theorem room_ok (B p : Nat) (A : Option Addr) (c : Nat) (b : List UInt8) (most n : Int) (w : World) (h : Wr w B p A c 0 b most) (hb : b.length ≤ 1000000000000) (hn : n ≤ most - b.length) :
    Calls Try.prog 97 #[.pointer (some ⟨p, 0, none⟩), .int .i64 n] w fun r w' => r = .returned (.bool true) ∧ Wr w' B p A c 0 b most ∧ Grow w w' := by
  have h0 := h.c0
  have hr := h.room
  have hlow := h.low
  have h1 := fun (W : World) (g : Grow w.drew W) => (h.drew.grow g).c1
  have h2 := fun (W : World) (g : Grow w.drew W) => (h.drew.grow g).c2
  go_enter Try.func97, Try.ntmps97
  go_wp2_with fail
  refine (fine_any p 0 _ h0).mono ?_
  rintro r w' ⟨rfl, rfl⟩
  go_wp2_with fail
  have e1 : IntKind.i64.wrap (most - (b.length : Int)) = most - (b.length : Int) := IntWalk.i64_in _ (by omega)
  have e2 : decide (most - (b.length : Int) < n) = false := by simp; omega
  refine wpG_region (by kernel_rfl) ?_
  refine wpG_take 0 rfl (by kernel_rfl) (fun _ _ _ h => h) rfl (v := ?_) ?_ ?_
  rotate_left
  · (intro w' hG; go_simp; try with_reducible rfl)
  try simp only [Act.put, List.setIfInBounds_toArray, List.set_cons_zero, List.set_cons_succ]
  refine wpG_take 1 rfl (by kernel_rfl) (fun _ _ _ h => h) rfl (v := ?_) ?_ ?_
  rotate_left
  · (intro w' hG; go_simp; try with_reducible rfl)
  try simp only [Act.put, List.setIfInBounds_toArray, List.set_cons_zero, List.set_cons_succ]
  refine wpG_take 2 rfl (by kernel_rfl) (fun _ _ _ h => h) rfl (v := ?_) ?_ ?_
  rotate_left
  · (intro w' hG; go_simp; try with_reducible rfl)
  try simp only [Act.put, List.setIfInBounds_toArray, List.set_cons_zero, List.set_cons_succ]
  refine wpG_take 3 rfl (by kernel_rfl) (fun _ _ _ h => h) rfl (v := ?_) ?_ ?_
  rotate_left
  · (intro w' hG; go_simp; try with_reducible rfl)
  try simp only [Act.put, List.setIfInBounds_toArray, List.set_cons_zero, List.set_cons_succ]
  refine wpG_take 4 rfl (by kernel_rfl) (fun _ _ _ h => h) rfl (v := ?_) ?_ ?_
  rotate_left
  · (intro w' hG; go_simp; try with_reducible rfl)
  try simp only [Act.put, List.setIfInBounds_toArray, List.set_cons_zero, List.set_cons_succ]
  refine wpG_take 5 rfl (by kernel_rfl) (fun _ _ _ h => h) rfl (v := ?_) ?_ ?_
  rotate_left
  · (intro w' hG; go_simp; try with_reducible rfl)
  try simp only [Act.put, List.setIfInBounds_toArray, List.set_cons_zero, List.set_cons_succ]
  refine wpG_take 6 rfl (by kernel_rfl) (fun _ _ _ h => h) rfl (v := ?_) ?_ ?_
  rotate_left
  · (intro w' hG; go_simp; try with_reducible rfl)
  try simp only [Act.put, List.setIfInBounds_toArray, List.set_cons_zero, List.set_cons_succ]
  refine wpG_take 7 rfl (by kernel_rfl) (fun _ _ _ h => h) rfl (v := ?_) ?_ ?_
  rotate_left
  · (intro w' hG; go_simp; try with_reducible rfl)
  try simp only [Act.put, List.setIfInBounds_toArray, List.set_cons_zero, List.set_cons_succ]
  refine wpG_take 8 rfl (by kernel_rfl) (fun _ _ _ h => h) rfl (v := ?_) ?_ ?_
  rotate_left
  · (intro w' hG; go_simp; try with_reducible rfl)
  try simp only [Act.put, List.setIfInBounds_toArray, List.set_cons_zero, List.set_cons_succ]
  refine wpG_take 9 rfl (by kernel_rfl) (fun _ _ _ h => h) rfl (v := ?_) ?_ ?_
  rotate_left
  · (intro w' hG; go_simp; try with_reducible rfl)
  try simp only [Act.put, List.setIfInBounds_toArray, List.set_cons_zero, List.set_cons_succ]
  refine wpG_take 10 rfl (by kernel_rfl) (fun _ _ _ h => h) rfl (v := ?_) ?_ ?_
  rotate_left
  · (intro w' hG; go_simp; try with_reducible rfl)
  try simp only [Act.put, List.setIfInBounds_toArray, List.set_cons_zero, List.set_cons_succ]
  refine wpG_take 11 rfl (by kernel_rfl) (fun _ _ _ h => h) rfl (v := ?_) ?_ ?_
  rotate_left
  · (intro w' hG; go_simp; try with_reducible rfl)
  try simp only [Act.put, List.setIfInBounds_toArray, List.set_cons_zero, List.set_cons_succ]
  refine wpG_done (by kernel_rfl) ?_ _
  go_wp2
  go_ret
  exact ⟨rfl, h.drew, (Grow.refl w).drew⟩
set_option maxHeartbeats 1000000 in
theorem room_long (B p : Nat) (A : Option Addr) (c : Nat) (b : List UInt8) (most n : Int) (w : World) (h : Wr w B p A c 0 b most) (hb : b.length ≤ 1000000000000) (hn : most - b.length < n) :
    Calls Try.prog 97 #[.pointer (some ⟨p, 0, none⟩), .int .i64 n] w fun r w' => r = .returned (.bool false) ∧ Wr w' B p A c 4 b most ∧ Kept w.heap.size (foot p A) w w' := by
  have h0 := h.c0
  have hr := h.room
  have hlow := h.low
  have h1 := fun (W : World) (g : Grow w.drew W) => (h.drew.grow g).c1
  have h2 := fun (W : World) (g : Grow w.drew W) => (h.drew.grow g).c2
  go_enter Try.func97, Try.ntmps97
  go_wp2_with fail
  refine (fine_any p 0 _ h0).mono ?_
  rintro r w' ⟨rfl, rfl⟩
  go_wp2_with fail
  have e1 : IntKind.i64.wrap (most - (b.length : Int)) = most - (b.length : Int) := IntWalk.i64_in _ (by omega)
  have e2 : decide (most - (b.length : Int) < n) = true := by simp; omega
  refine wpG_region (by kernel_rfl) ?_
  refine wpG_take 0 rfl (by kernel_rfl) (fun _ _ _ h => h) rfl (v := ?_) ?_ ?_
  rotate_left
  · (intro w' hG; go_simp; try with_reducible rfl)
  try simp only [Act.put, List.setIfInBounds_toArray, List.set_cons_zero, List.set_cons_succ]
  refine wpG_take 1 rfl (by kernel_rfl) (fun _ _ _ h => h) rfl (v := ?_) ?_ ?_
  rotate_left
  · (intro w' hG; go_simp; try with_reducible rfl)
  try simp only [Act.put, List.setIfInBounds_toArray, List.set_cons_zero, List.set_cons_succ]
  refine wpG_take 2 rfl (by kernel_rfl) (fun _ _ _ h => h) rfl (v := ?_) ?_ ?_
  rotate_left
  · (intro w' hG; go_simp; try with_reducible rfl)
  try simp only [Act.put, List.setIfInBounds_toArray, List.set_cons_zero, List.set_cons_succ]
  refine wpG_take 3 rfl (by kernel_rfl) (fun _ _ _ h => h) rfl (v := ?_) ?_ ?_
  rotate_left
  · (intro w' hG; go_simp; try with_reducible rfl)
  try simp only [Act.put, List.setIfInBounds_toArray, List.set_cons_zero, List.set_cons_succ]
  refine wpG_take 4 rfl (by kernel_rfl) (fun _ _ _ h => h) rfl (v := ?_) ?_ ?_
  rotate_left
  · (intro w' hG; go_simp; try with_reducible rfl)
  try simp only [Act.put, List.setIfInBounds_toArray, List.set_cons_zero, List.set_cons_succ]
  refine wpG_take 5 rfl (by kernel_rfl) (fun _ _ _ h => h) rfl (v := ?_) ?_ ?_
  rotate_left
  · (intro w' hG; go_simp; try with_reducible rfl)
  try simp only [Act.put, List.setIfInBounds_toArray, List.set_cons_zero, List.set_cons_succ]
  refine wpG_take 6 rfl (by kernel_rfl) (fun _ _ _ h => h) rfl (v := ?_) ?_ ?_
  rotate_left
  · (intro w' hG; go_simp; try with_reducible rfl)
  try simp only [Act.put, List.setIfInBounds_toArray, List.set_cons_zero, List.set_cons_succ]
  refine wpG_take 7 rfl (by kernel_rfl) (fun _ _ _ h => h) rfl (v := ?_) ?_ ?_
  rotate_left
  · (intro w' hG; go_simp; try with_reducible rfl)
  try simp only [Act.put, List.setIfInBounds_toArray, List.set_cons_zero, List.set_cons_succ]
  refine wpG_take 8 rfl (by kernel_rfl) (fun _ _ _ h => h) rfl (v := ?_) ?_ ?_
  rotate_left
  · (intro w' hG; go_simp; try with_reducible rfl)
  try simp only [Act.put, List.setIfInBounds_toArray, List.set_cons_zero, List.set_cons_succ]
  refine wpG_take 9 rfl (by kernel_rfl) (fun _ _ _ h => h) rfl (v := ?_) ?_ ?_
  rotate_left
  · (intro w' hG; go_simp; try with_reducible rfl)
  try simp only [Act.put, List.setIfInBounds_toArray, List.set_cons_zero, List.set_cons_succ]
  refine wpG_take 10 rfl (by kernel_rfl) (fun _ _ _ h => h) rfl (v := ?_) ?_ ?_
  rotate_left
  · (intro w' hG; go_simp; try with_reducible rfl)
  try simp only [Act.put, List.setIfInBounds_toArray, List.set_cons_zero, List.set_cons_succ]
  refine wpG_take 11 rfl (by kernel_rfl) (fun _ _ _ h => h) rfl (v := ?_) ?_ ?_
  rotate_left
  · (intro w' hG; go_simp; try with_reducible rfl)
  try simp only [Act.put, List.setIfInBounds_toArray, List.set_cons_zero, List.set_cons_succ]
  refine wpG_done (by kernel_rfl) ?_ _
  go_wp2_with fail
  refine (fail_set p 4 _ h.drew.c0 (h.drew.fz 0)).mono ?_
  rintro r w' ⟨rfl, rfl⟩
  go_wp2
  go_ret
  exact ⟨rfl, h.drew.setErr 4, ((Kept.refl _ _ w).drew).setCell (p := ⟨p, 0, none⟩) (.inr (by simp [foot])) _⟩
set_option maxHeartbeats 1000000 in
theorem room_bad (B p : Nat) (A : Option Addr) (c : Nat) (e : Int) (b : List UInt8) (most n : Int) (w : World) (h : Wr w B p A c e b most) (he : (e == 0) = false) :
    Calls Try.prog 97 #[.pointer (some ⟨p, 0, none⟩), .int .i64 n] w fun r w' => r = .returned (.bool false) ∧ w = w' := by
  have h0 := h.c0
  go_enter Try.func97, Try.ntmps97
  go_wp2_with fail
  refine (fine_any p e _ h0).mono ?_
  rintro r w' ⟨rfl, rfl⟩
  go_wp2
  go_ret
  exact ⟨rfl, rfl⟩
/-- what a call on a writer leaves -/
def Wrote (w w' : World) (B p : Nat) (A : Option Addr) (s : Int × List UInt8) (most : Int) : Prop :=
  ∃ A' c', Wr w' B p A' c' s.1 s.2 most ∧ Kept w.heap.size (foot p A) w w' ∧ ∀ q, blk A' = some q → blk A = some q ∨ w.heap.size ≤ q
theorem Wrote.same {w : World} {B p : Nat} {A : Option Addr} {c : Nat} {e : Int} {b : List UInt8} {most : Int} (h : Wr w B p A c e b most) : Wrote w w B p A (e, b) most :=
  ⟨A, c, h, Kept.refl _ _ _, fun _ hq => .inl hq⟩
theorem Wrote.grown {w0 w w' : World} {B p : Nat} {A : Option Addr} {s : Int × List UInt8} {most : Int} (hg : Grow w0 w) (h : Wrote w w' B p A s most) : Wrote w0 w' B p A s most := by
  obtain ⟨A', c', h1, h2, h3⟩ := h
  refine ⟨A', c', h1, (Kept.of_below hg _).trans (h2.mono hg.size (fun _ _ h => h)), fun q hq => ?_⟩
  rcases h3 q hq with h | h
  · exact .inl h
  · exact .inr (Nat.le_trans hg.size h)
set_option maxHeartbeats 1000000 in
theorem byte_any (B p : Nat) (A : Option Addr) (c : Nat) (e : Int) (b : List UInt8) (most : Int) (A2 : Option Addr) (l : List UInt8) (c2 : Nat) (w : World) (h : Wr w B p A c e b most) (hl : Bytes w A2 l)
    (hb : b.length ≤ 1000000000000) (hll : l.length ≤ 1000000000000) (hB : B ≤ w.heap.size) :
    Calls Try.prog 36 #[.pointer (some ⟨p, 0, none⟩), .slice A2 l.length c2] w fun r w' => r = .returned (.tuple #[]) ∧ Wrote w w' B p A (Buf.wput most (e, b) l) most := by
  by_cases he : e = 0
  · subst he
    by_cases hn : (l.length : Int) ≤ most - b.length
    · have HP := hide (show Buf.wput most (0, b) l = (0, b ++ l) by unfold Buf.wput; rw [if_neg (by simp), if_neg (by show ¬ most - (b.length : Int) < l.length; omega)])
      go_enter Try.func36, Try.ntmps36
      go_wp2_with fail
      refine (room_ok B p A c b most _ _ h hb hn).mono ?_
      rintro r w1 ⟨rfl, h1, hg1⟩
      have hl1 := hl.grow hg1
      have hc1 := h1.c1
      have hB1 : B ≤ w1.heap.size := Nat.le_trans hB hg1.size
      go_wp2_with (at_builtin; refine wpList_append_bytes byteT rfl (.tmp 12) (.tmp 13) rfl h1.own hl1 rfl rfl ?_ ?_ ?_)
      · omega
      · exact hB1
      intro A' c' b' w2 HL hown hg2 hat
      have hp : w2.heap[p]? = w1.heap[p]? := hg2.block p h1.lt (fun e => h1.apart e.symm)
      have ha : blk A' ≠ some p := by
        rcases hat with hat | hat
        · rw [hat]; exact h1.apart
        · rw [hat]; intro e; injection e with e; have := h1.lt; omega
      have hcx : w2.cell? ⟨p, 1, none⟩ = some (.slice A b.length c) := (World.cell?_of_block hp).trans hc1
      have hfx : w2.frozen? ⟨p, 1, none⟩ = false := (World.frozen?_of_block hp).trans (h1.fz 1)
      go_wp2
      go_end0
      refine ⟨rfl, ?_⟩
      rw [HP.out]
      have e : b' = b ++ l := HL.out
      subst e
      refine ⟨A', c', h1.setBuf hp hown ha, (((Kept.of_below hg1 _).grown hg2 hg1.size (fun q hq => ?_))).setCell (p := ⟨p, 1, none⟩) (.inr (by simp [foot])) _, fun q hq => ?_⟩
      · exact .inr (by simp [foot, hq])
      · rcases hat with hat | hat
        · exact .inl (by rw [← hat]; exact hq)
        · rw [hat] at hq; injection hq with hq; exact .inr (by have := hg1.size; omega)
    · have HP := hide (show Buf.wput most (0, b) l = (4, b) by unfold Buf.wput; rw [if_neg (by simp), if_pos (by show most - (b.length : Int) < l.length; omega)])
      go_enter Try.func36, Try.ntmps36
      go_wp2_with fail
      refine (room_long B p A c b most _ _ h hb (by omega)).mono ?_
      rintro r w1 ⟨rfl, h1, hk1⟩
      go_wp2
      go_end0
      refine ⟨rfl, ?_⟩
      rw [HP.out]
      exact ⟨A, c, h1, hk1, fun q hq => .inl hq⟩
  · have he' : (e == 0) = false := by simpa using he
    have HP := hide (show Buf.wput most (e, b) l = (e, b) by unfold Buf.wput; rw [if_pos he])
    clear he
    go_enter Try.func36, Try.ntmps36
    go_wp2_with fail
    refine (room_bad B p A c e b most _ _ h he').mono ?_
    rintro r w' ⟨rfl, rfl⟩
    go_wp2
    go_end0
    refine ⟨rfl, ?_⟩
    rw [HP.out]
    exact Wrote.same h
end Go.Proofs.Ytpobjcdcimcdnaa
namespace Go.Proofs.Ytpobjcdcimcdnaa
open Go.RowKit
theorem or128 (X : Nat) : bits .or .u8 ((X : Int) % 256) 128 = ((X % 128 + 128 : Nat) : Int) := by
  have h := u8_or_nat (X % 256) 128 (by omega) (by omega)
  rw [(show ∀ a : Fin 256, a.val ||| 128 = a.val % 128 + 128 by decide +kernel) ⟨X % 256, by omega⟩] at h
  have e : ((X : Int) % 256) = ((X % 256 : Nat) : Int) := by omega
  rw [e]
  rw [show X % 256 % 128 = X % 128 by omega] at h
  exact h
set_option maxRecDepth 100000 in
set_option maxHeartbeats 1000000 in
theorem sevens_any (x : Nat) (w : World) (hx : Hid (x < 18446744073709551616)) :
    Calls Try.prog 93 #[.int .u64 x] w fun r w' => ∃ A c, r = .returned (.slice A (Buf.sevens x).length c) ∧ Own w' w.heap.size A c (Buf.sevens x) ∧ Grow w w' := by
  go_enter Try.func93, Try.ntmps93
  go_wp2
  go_loopw [0, 3] (fun v b wr => ∃ (k X : Nat) (A : Option Addr) (c : Nat) (l : List UInt8), v = .int .u64 (X : Nat) ∧ b = .slice A l.length c ∧ Hid (X = x / 128 ^ k) ∧ Hid (l = Buf.sevTo x k) ∧ Hid (∀ j, j < k → 128 ≤ x / 128 ^ j) ∧ Own wr w.heap.size A c l ∧ Below w.heap.size w wr)
    (fun v _ _ => (intOf v).toNat)
  case atStart => exact ⟨0, x, none, 0, [], rfl, rfl, hide (by simp), hide rfl, hide (fun j h => absurd h (by omega)), Own.nil_ _ _, Below.refl _ _⟩
  case round =>
    obtain ⟨k, X, A, c, l, rfl, rfl, HX, HL, HJ, hown, hbel⟩ := hrel
    have HK := hide (fun (h : 128 ≤ X) => Buf.seven_small x k hx.out (by rw [← HX.out]; exact h))
    have HLL := hide (show l.length = k by rw [HL.out, Buf.sevTo_length])
    by_cases h : 128 ≤ X
    · have hk9 := HK.out h
      have hlen : l.length ≤ 9 := by rw [HLL.out]; omega
      have h1 := Bytes.one wr ((X % 128 + 128 : Nat) : Int) (by omega) (by omega) (t := 5) rfl
      have hbel1 := hbel.alloc hbel.size (.cells #[.int .u8 ((X % 128 + 128 : Nat) : Int)] 5)
      have EO := or128 X
      go_wp2_with (at_builtin; refine wpList_append_bytes byteT rfl (.tmp 6) (.tmp 10) rfl (hown.alloc _) h1 rfl rfl ?_ ?_ ?_)
      · simp; omega
      · exact hbel1.size
      intro A' c' l' w2 HL' hown2 hg2 _
      have hbel2 : Below w.heap.size w w2 := hbel1.grown hg2 hbel1.size (fun q hq => hown.base hq)
      go_wp2
      go_roundw
      case rel => exact ⟨k + 1, X / 128, A', c', l', rfl, rfl, hide (by rw [HX.out, Nat.div_div_eq_div_mul, Nat.pow_succ]), hide (by rw [HL'.out, HL.out, show ((X : Int) % 128 + 128).toNat = X % 128 + 128 by omega, HX.out]; rfl), hide (fun j hj => by
          rcases Nat.lt_or_ge j k with h' | h'
          · exact HJ.out j h'
          · obtain rfl : j = k := by omega
            rw [← HX.out]; exact h), hown2, hbel2⟩
      case measure => simp [intOf]; omega
    · have hk : k ≤ 9 := by
        rcases Nat.eq_zero_or_pos k with h0 | h0
        · omega
        · have := Buf.seven_small x (k - 1) hx.out (HJ.out (k - 1) (by omega)); omega
      have HS := hide (show Buf.sevens x = Buf.sevTo x k ++ [UInt8.ofNat (x / 128 ^ k)] from Buf.sevF_of k 9 x hk HJ.out (by rw [← HX.out]; omega))
      have hlen : l.length ≤ 9 := by rw [HLL.out]; exact hk
      have h1 := Bytes.one wr ((X : Nat) : Int) (by omega) (by omega) (t := 5) rfl
      have hbel1 := hbel.alloc hbel.size (.cells #[.int .u8 ((X : Nat) : Int)] 5)
      go_wp2_with (at_builtin; refine wpList_append_bytes byteT rfl (.tmp 14) (.tmp 17) rfl (hown.alloc _) h1 rfl rfl ?_ ?_ ?_)
      · simp; omega
      · exact hbel1.size
      intro A' c' l' w2 HL' hown2 hg2 _
      have hbel2 : Below w.heap.size w w2 := hbel1.grown hg2 hbel1.size (fun q hq => hown.base hq)
      have e : l' = Buf.sevens x := by rw [HL'.out, HS.out, HL.out, HX.out]
      subst e
      go_wp2
      go_ret
      exact ⟨A', c', rfl, hown2, hbel2⟩
/-- block g has n cells, of which the first k are f -/
def RowTo (w : World) (g n k : Nat) (f : Nat → Value) : Prop := ∃ (cs : Array Value) (t : TypeId), w.heap[g]? = some (.cells cs t (0, 0)) ∧ cs.size = n ∧ ∀ i, i < k → cs[i]? = some (f i)
section
variable {w w' : World} {g n k : Nat} {f : Nat → Value}
theorem RowTo.cell (h : RowTo w g n k f) (hk : k < n) : ∃ v, w.cell? ⟨g, k, none⟩ = some v := by
  obtain ⟨cs, t, hb, hs, _⟩ := h
  rw [cell_of_row w g k cs t (0, 0) hb]
  exact ⟨cs[k], by simp [hs, hk]⟩
theorem RowTo.set (h : RowTo w g n k f) (hk : k < n) : RowTo (w.setCell ⟨g, k, none⟩ (f k)) g n (k + 1) f := by
  obtain ⟨cs, t, hb, hs, hc⟩ := h
  refine ⟨cs.setIfInBounds k _, t, heap_setCell_same w g k cs t _ hb, by simpa using hs, fun i hi => ?_⟩
  rw [Array.getElem?_setIfInBounds]
  by_cases e : k = i
  · subst e; simp [hs, hk]
  · rw [if_neg e]; exact hc i (by omega)
theorem RowTo.keep (h : RowTo w g n k f) (hb : w'.heap[g]? = w.heap[g]?) : RowTo w' g n k f := by
  obtain ⟨cs, t, h1, h2, hc⟩ := h
  exact ⟨cs, t, by rw [hb]; exact h1, h2, hc⟩
end
set_option maxRecDepth 100000 in
set_option maxHeartbeats 1000000 in
theorem num_any (B p : Nat) (A : Option Addr) (c : Nat) (e : Int) (b : List UInt8) (most : Int) (x : Nat) (w : World) (h : Wr w B p A c e b most) (hx : Hid (x < 18446744073709551616))
    (hb : b.length ≤ 1000000000000) (hB : B ≤ w.heap.size) :
    Calls Try.prog 31 #[.pointer (some ⟨p, 0, none⟩), .int .u64 x] w fun r w' => r = .returned (.tuple #[]) ∧ Wrote w w' B p A (Buf.wput most (e, b) (Buf.sevens x)) most := by
  have hl := Buf.sevens_len x
  go_enter Try.func31, Try.ntmps31
  go_wp2_with fail
  refine (sevens_any x _ hx).mono ?_
  generalize hgs : Buf.sevens x = s at *
  have HG := hide hgs
  clear hgs
  rintro r w1 ⟨A1, c1, rfl, hown, hg1⟩
  go_wp2_with fail
  refine (byte_any B p A c e b most A1 s c1 _ (h.grow hg1) hown.bytes hb (by omega) (Nat.le_trans hB hg1.size)).mono ?_
  rintro r w2 ⟨rfl, hw⟩
  go_wp2
  go_end0
  rw [HG.out]
  exact ⟨rfl, hw.grown hg1⟩
end Go.Proofs.Ytpobjcdcimcdnaa
namespace Go.Proofs.Ytpobjcdcimcdnaa
open Go.RowKit
set_option maxRecDepth 100000 in
set_option maxHeartbeats 1000000 in
theorem done_ok (B p : Nat) (A : Option Addr) (c : Nat) (b : List UInt8) (most : Int) (w : World) (h : Wr w B p A c 0 b most) (hb : b.length ≤ 1000000000000) :
    Calls Try.prog 25 #[.pointer (some ⟨p, 0, none⟩)] w fun r w' => ∃ A' c', r = .returned (.tuple #[.slice A' b.length c', .int .i64 0]) ∧ Own w' w.heap.size A' c' b ∧ Grow w w' := by
  have hc0 := h.c0
  have hc1 := (h.grow ((Grow.refl w).alloc (.cells #[] 5))).c1
  have hbb := h.own.bytes
  go_enter Try.func25, Try.ntmps25
  go_wp2_with fail
  refine (fine_any p 0 _ hc0).mono ?_
  rintro r w' ⟨rfl, rfl⟩
  go_wp2_with (at_builtin; refine wpList_append_bytes byteT rfl (.tmp 18) (.tmp 22) rfl (Own.made w (base := w.heap.size) #[] 0 (Nat.le_refl _) (by decide) rfl) (hbb.alloc _) rfl rfl ?_ ?_ ?_)
  · simp; omega
  · simp
  intro A' c' b' w2 HL hown hg2 _
  have e : b' = b := HL.out.trans (by simp)
  subst e
  go_wp2
  go_ret2
  exact ⟨A', c', rfl, hown, (((Below.refl _ _).alloc (Nat.le_refl _) _).grown hg2 (by simp) (by simp [blk]))⟩
end Go.Proofs.Ytpobjcdcimcdnaa
namespace Go.Proofs.Ytpobjcdcimcdnaa
open Go.RowKit
def u8of (x : Int) : UInt8 := UInt8.ofNat (IntKind.u8.wrap x).toNat
def u64of (x : Int) : Nat := (IntKind.u64.wrap x).toNat
theorem u64w_bounds (x : Int) : 0 ≤ IntKind.u64.wrap x ∧ IntKind.u64.wrap x < 18446744073709551616 := by rw [IntKind.wrap_u64]; omega
theorem u64_of (x : Int) : IntKind.u64.wrap x = ((u64of x : Nat) : Int) := by unfold u64of; have := u64w_bounds x; omega
theorem u64of_lt (x : Int) : u64of x < 18446744073709551616 := by unfold u64of; have := u64w_bounds x; omega
/-- between two calls on a writer: g is the box of what is written -/
structure Putting (w0 w : World) (B p : Nat) (A0 A : Option Addr) (c : Nat) (s : Int × List UInt8) (most : Int) (g : Nat) (cs : Array Value) : Prop where
  wr : Wr w B p A c s.1 s.2 most
  kept : Kept w0.heap.size (foot p A0) w0 w
  orig : ∀ q, blk A = some q → blk A0 = some q ∨ w0.heap.size ≤ q
  box : Holds w g cs
  apart : blk A ≠ some g
theorem Putting.step {w0 w w1 w2 : World} {B p : Nat} {A0 A : Option Addr} {c : Nat} {s s' : Int × List UInt8} {most : Int} {g : Nat} {cs : Array Value} (h : Putting w0 w B p A0 A c s most g cs)
    (hp : p < w0.heap.size) (hg : w0.heap.size ≤ g) (hs : 0 < cs.size) (hgr : Grow w w1) (hw : Wrote w1 w2 B p A s' most) : ∃ A' c', Putting w0 w2 B p A0 A' c' s' most g cs := by
  obtain ⟨A', c', h1, h2, h3⟩ := hw
  have hsz : w0.heap.size ≤ w1.heap.size := Nat.le_trans h.kept.size hgr.size
  have hgl : g < w.heap.size := h.box.lt hs
  have hgl1 : g < w1.heap.size := Nat.lt_of_lt_of_le hgl hgr.size
  have hng : g ∉ foot p A := by
    intro hm
    rcases List.mem_cons.1 hm with e | e
    · omega
    · exact h.apart (by simpa using e)
  refine ⟨A', c', h1, (h.kept.trans (Kept.of_below (hgr.mono (by have := h.kept.size; omega)) _)).trans (h2.mono hsz fun k hk hm => ?_), fun q hq => ?_, ?_, fun hq => ?_⟩
  · rcases List.mem_cons.1 hm with e | e
    · simp [foot, e]
    · have e' : blk A = some k := by simpa using e
      rcases h.orig k e' with e2 | e2
      · simp [foot, e2]
      · omega
  · rcases h3 q hq with e | e
    · exact h.orig q e
    · exact .inr (by omega)
  · intro i
    have hb := h.box.grow hs hgr i
    rw [← hb]
    exact World.cell?_of_block (h2.block g hgl1 hng)
  · rcases h3 g hq with e | e
    · exact h.apart e
    · omega
theorem Putting.wrote {w0 w : World} {B p : Nat} {A0 A : Option Addr} {c : Nat} {s : Int × List UInt8} {most : Int} {g : Nat} {cs : Array Value} (h : Putting w0 w B p A0 A c s most g cs) : Wrote w0 w B p A0 s most :=
  ⟨A, c, h.wr, h.kept, h.orig⟩
/-- from a box on -/
theorem Putting.start {w : World} {B p : Nat} {A : Option Addr} {c : Nat} {e : Int} {b : List UInt8} {most : Int} (h : Wr w B p A c e b most) (cs : Array Value) (t : TypeId) : Putting w (w.alloc (.cells cs t)) B p A A c (e, b) most w.heap.size cs :=
  ⟨h.grow ((Grow.refl w).alloc _), Kept.of_below ((Grow.refl w).alloc _) _, fun _ hq => .inl hq, Holds.new w cs t (0, 0) rfl, fun e => Nat.lt_irrefl _ (h.own.lt e)⟩
theorem num_int (B p : Nat) (A : Option Addr) (c : Nat) (s : Int × List UInt8) (most : Int) (x : Int) (w : World) (h : Wr w B p A c s.1 s.2 most) (hb : s.2.length ≤ 1000000000000) (hB : B ≤ w.heap.size) :
    Calls Try.prog 31 #[.pointer (some ⟨p, 0, none⟩), .int .u64 (IntKind.u64.wrap x)] w fun r w' => r = .returned (.tuple #[]) ∧ Wrote w w' B p A (Buf.wput most s (Buf.sevens (u64of x))) most := by
  rw [u64_of]
  exact num_any B p A c s.1 s.2 most (u64of x) w h (u64of_lt x) hb hB
end Go.Proofs.Ytpobjcdcimcdnaa
