/- The plain law of chapter 05: numbers as bytes. No Go in sight. -/
namespace Buf
/-- a number in sevens, with fuel -/
def sevF : Nat → Nat → List UInt8
  | 0, x => [UInt8.ofNat x]
  | k + 1, x => if x < 128 then [UInt8.ofNat x] else UInt8.ofNat (x % 128 + 128) :: sevF k (x / 128)
def sevens (x : Nat) : List UInt8 := sevF 9 x
/-- the first n bytes of a number, the lowest first -/
def fixed (x : Nat) : Nat → List UInt8
  | 0 => []
  | n + 1 => UInt8.ofNat x :: fixed (x / 256) n
theorem fixed_length (n : Nat) : ∀ x, (fixed x n).length = n := by
  induction n with
  | zero => intro x; rfl
  | succ n ih => intro x; simp [fixed, ih]
theorem fixed_snoc (n : Nat) : ∀ x, fixed x (n + 1) = fixed x n ++ [UInt8.ofNat (x / 256 ^ n)] := by
  induction n with
  | zero => intro x; simp [fixed]
  | succ n ih =>
    intro x
    rw [show fixed x (n + 1 + 1) = UInt8.ofNat x :: fixed (x / 256) (n + 1) from rfl, ih, show fixed x (n + 1) = UInt8.ofNat x :: fixed (x / 256) n from rfl, Nat.div_div_eq_div_mul, Nat.pow_succ, Nat.mul_comm 256]
    rfl
theorem fixed_take (x : Nat) : ∀ (n m : Nat), n ≤ m → (fixed x m).take n = fixed x n := by
  intro n m h
  induction m with
  | zero => have : n = 0 := by omega
            subst this; rfl
  | succ m ih =>
    rw [fixed_snoc]
    by_cases e : n = m + 1
    · subst e
      rw [← fixed_snoc, List.take_of_length_le (by rw [fixed_length]; omega)]
    · rw [List.take_append_of_le_length (by rw [fixed_length]; omega)]
      exact ih (by omega)
theorem fixed_get (x m i : Nat) (h : i < m) : (fixed x m)[i]'(by rw [fixed_length]; exact h) = UInt8.ofNat (x / 256 ^ i) := by
  induction m generalizing x i with
  | zero => omega
  | succ m ih =>
    cases i with
    | zero => simp [fixed]
    | succ i =>
      simp only [fixed, List.getElem_cons_succ]
      rw [ih (x / 256) i (by omega), Nat.div_div_eq_div_mul, Nat.pow_succ, Nat.mul_comm 256]
/-- what the sevens before the last one are -/
def sevTo (x : Nat) : Nat → List UInt8
  | 0 => []
  | k + 1 => sevTo x k ++ [UInt8.ofNat (x / 128 ^ k % 128 + 128)]
theorem sevTo_length (x : Nat) : ∀ k, (sevTo x k).length = k
  | 0 => rfl
  | k + 1 => by simp [sevTo, sevTo_length x k]
theorem sevTo_cons (x : Nat) : ∀ k, sevTo x (k + 1) = UInt8.ofNat (x % 128 + 128) :: sevTo (x / 128) k
  | 0 => by simp [sevTo]
  | k + 1 => by
    rw [show sevTo x (k + 1 + 1) = sevTo x (k + 1) ++ [UInt8.ofNat (x / 128 ^ (k + 1) % 128 + 128)] from rfl, sevTo_cons x k]
    rw [show sevTo (x / 128) (k + 1) = sevTo (x / 128) k ++ [UInt8.ofNat (x / 128 / 128 ^ k % 128 + 128)] from rfl, Nat.div_div_eq_div_mul, Nat.pow_succ, Nat.mul_comm 128]
    rfl
/-- the loop of the program ends with the sevens -/
theorem sevF_of (k : Nat) : ∀ f x, k ≤ f → (∀ j, j < k → 128 ≤ x / 128 ^ j) → x / 128 ^ k < 128 → sevF f x = sevTo x k ++ [UInt8.ofNat (x / 128 ^ k)] := by
  induction k with
  | zero =>
    intro f x _ _ h
    simp only [Nat.pow_zero, Nat.div_one] at h
    cases f with
    | zero => simp [sevF, sevTo]
    | succ f => simp [sevF, sevTo, h]
  | succ k ih =>
    intro f x hf hj h
    cases f with
    | zero => omega
    | succ f =>
      have h0 := hj 0 (by omega)
      simp only [Nat.pow_zero, Nat.div_one] at h0
      have hd : ∀ j, x / 128 / 128 ^ j = x / 128 ^ (j + 1) := fun j => by rw [Nat.div_div_eq_div_mul, Nat.pow_succ, Nat.mul_comm 128]
      rw [sevF, if_neg (by omega), ih f (x / 128) (by omega) (fun j hj' => by rw [hd]; exact hj (j + 1) (by omega)) (by rw [hd]; exact h), hd, sevTo_cons]
      rfl
theorem seven_small (x k : Nat) (hx : x < 18446744073709551616) (h : 128 ≤ x / 128 ^ k) : k < 9 := by
  apply Decidable.byContradiction
  intro hk
  have h1 : x / 128 ^ 9 < 128 := by
    apply (Nat.div_lt_iff_lt_mul (by decide)).2
    omega
  have h2 : x / 128 ^ k ≤ x / 128 ^ 9 := Nat.div_le_div_left (Nat.pow_le_pow_right (by omega) (by omega)) (by decide)
  omega
theorem sevF_len (f : Nat) : ∀ x, (sevF f x).length ≤ f + 1 := by
  induction f with
  | zero => intro x; simp [sevF]
  | succ f ih =>
    intro x
    simp only [sevF]
    split
    · simp
    · simp only [List.length_cons]; have := ih (x / 128); omega
theorem sevens_len (x : Nat) : (sevens x).length ≤ 10 := sevF_len 9 x
/-- what a writer has: what is wrong, and the bytes -/
def wput (most : Int) (s : Int × List UInt8) (l : List UInt8) : Int × List UInt8 :=
  if s.1 ≠ 0 then s else if most - s.2.length < l.length then (4, s.2) else (0, s.2 ++ l)
def wfail (s : Int × List UInt8) (e : Int) : Int × List UInt8 := if s.1 ≠ 0 then s else (e, s.2)
def wfixed (most : Int) (s : Int × List UInt8) (x : Nat) (n : Int) : Int × List UInt8 :=
  if n < 1 ∨ 8 < n then wfail s 1 else wput most s (fixed x n.toNat)
/-- a number with its sign, folded -/
def zig (x : Int) : Nat := if x < 0 then (-2 * x - 1).toNat else (2 * x).toNat
theorem xor_ones64 (x : Nat) (h : x < 18446744073709551616) : x ^^^ 18446744073709551615 = 18446744073709551615 - x := by
  apply Nat.eq_of_testBit_eq
  intro i
  rw [Nat.testBit_xor]
  have h1 := Nat.testBit_two_pow_sub_succ (x := x) (n := 64) h i
  have h2 : (18446744073709551615 : Nat).testBit i = decide (i < 64) := Nat.testBit_two_pow_sub_one 64 i
  rw [show 18446744073709551615 - x = 2 ^ 64 - (x + 1) by omega, h1, h2]
  by_cases hi : i < 64
  · simp [hi]
  · have hx : x.testBit i = false := Nat.testBit_lt_two_pow (Nat.lt_of_lt_of_le h (show 2 ^ 64 ≤ 2 ^ i from Nat.pow_le_pow_right (by omega) (by omega)))
    simp [hi, hx]
end Buf
