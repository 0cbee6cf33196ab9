/- The plain law of chapter 05, of a reader: bytes as numbers. No Go in sight. -/
import Derived.Test.YtldgnallbkpchaaBufMath
namespace Buf
/-- the number of bytes, the lowest first -/
def num : List UInt8 → Nat
  | [] => 0
  | c :: l => c.toNat + 256 * num l
/-- the number of sevens, the lowest first -/
def num7 : List UInt8 → Nat
  | [] => 0
  | c :: l => c.toNat % 128 + 128 * num7 l
/-- how many bytes have one behind, no more than f are looked at -/
def lead : Nat → List UInt8 → Nat
  | 0, _ => 0
  | _ + 1, [] => 0
  | f + 1, c :: l => if 128 ≤ c.toNat then lead f l + 1 else 0
def getFixed (b : List UInt8) (n : Int) : Nat × List UInt8 × Int :=
  if n < 1 ∨ 8 < n then (0, [], 1) else if b.length < n.toNat then (0, [], 3) else (num (b.take n.toNat), b.drop n.toNat, 0)
def getNum (b : List UInt8) : Nat × List UInt8 × Int :=
  if lead 10 b = 10 then (0, [], 5) else if lead 10 b = b.length then (0, [], 3)
  else if (0 < lead 10 b ∧ (b.getD (lead 10 b) 0).toNat = 0) ∨ (lead 10 b = 9 ∧ 1 < (b.getD (lead 10 b) 0).toNat) then (0, [], 5)
  else (num7 (b.take (lead 10 b + 1)), b.drop (lead 10 b + 1), 0)
def getBytes (b : List UInt8) (most : Int) : List UInt8 × List UInt8 × Int :=
  if (getNum b).2.2 ≠ 0 then ([], [], (getNum b).2.2)
  else if most < 0 ∨ most < (getNum b).1 then ([], [], 4)
  else if (getNum b).2.1.length < (getNum b).1 then ([], [], 3)
  else ((getNum b).2.1.take (getNum b).1, (getNum b).2.1.drop (getNum b).1, 0)
theorem num_snoc (c : UInt8) : ∀ l, num (l ++ [c]) = num l + 256 ^ l.length * c.toNat
  | [] => by simp [num]
  | d :: l => by
    simp only [List.cons_append, num, num_snoc c l, List.length_cons, Nat.pow_succ]
    rw [Nat.mul_add, ← Nat.mul_assoc, Nat.mul_comm 256 (256 ^ l.length)]
    omega
theorem num7_snoc (c : UInt8) : ∀ l, num7 (l ++ [c]) = num7 l + 128 ^ l.length * (c.toNat % 128)
  | [] => by simp [num7]
  | d :: l => by
    simp only [List.cons_append, num7, num7_snoc c l, List.length_cons, Nat.pow_succ]
    rw [Nat.mul_add, ← Nat.mul_assoc, Nat.mul_comm 128 (128 ^ l.length)]
    omega
theorem num_lt : ∀ l, num l < 256 ^ l.length
  | [] => by simp [num]
  | c :: l => by
    have := num_lt l
    have := c.toNat_lt
    simp only [num, List.length_cons, Nat.pow_succ]
    omega
theorem num7_lt : ∀ l, num7 l < 128 ^ l.length
  | [] => by simp [num7]
  | c :: l => by
    have := num7_lt l
    simp only [num7, List.length_cons, Nat.pow_succ]
    omega
theorem num_fixed : ∀ (n x : Nat), num (fixed x n) = x % 256 ^ n
  | 0, x => by simp [num, fixed, Nat.mod_one]
  | n + 1, x => by
    have e : (UInt8.ofNat x).toNat = x % 256 := by rw [UInt8.toNat_ofNat']
    simp only [fixed, num, num_fixed n (x / 256), e]
    rw [Nat.pow_succ, Nat.mul_comm (256 ^ n) 256, Nat.mod_mul]
theorem fixed_num : ∀ l, fixed (num l) l.length = l
  | [] => rfl
  | c :: l => by
    have h := c.toNat_lt
    have h1 : (c.toNat + 256 * num l) / 256 = num l := by omega
    have h2 : UInt8.ofNat (c.toNat + 256 * num l) = c := by
      apply UInt8.toNat_inj.1
      rw [UInt8.toNat_ofNat']
      omega
    simp only [List.length_cons, num, fixed, h1, h2, fixed_num l]
theorem lead_le : ∀ f l, lead f l ≤ f
  | 0, _ => Nat.le_refl _
  | f + 1, [] => Nat.zero_le _
  | f + 1, c :: l => by
    have := lead_le f l
    simp only [lead]
    split <;> omega
theorem lead_len : ∀ f l, lead f l ≤ l.length
  | 0, _ => Nat.zero_le _
  | f + 1, [] => Nat.zero_le _
  | f + 1, c :: l => by
    have := lead_len f l
    simp only [lead, List.length_cons]
    split <;> omega
/-- all before the last one have one behind -/
theorem lead_all : ∀ f (l : List UInt8) j, j < lead f l → 128 ≤ (l.getD j 0).toNat
  | 0, _, j, h => by simp [lead] at h
  | f + 1, [], j, h => by simp [lead] at h
  | f + 1, c :: l, j, h => by
    simp only [lead] at h
    split at h
    · cases j with
      | zero => simpa
      | succ j => simpa using lead_all f l j (by omega)
    · omega
theorem lead_stop : ∀ f (l : List UInt8), lead f l < f → lead f l < l.length → (l.getD (lead f l) 0).toNat < 128
  | 0, _, h, _ => by simp [lead] at h
  | f + 1, [], _, h => by simp [lead] at h
  | f + 1, c :: l, h, h2 => by
    simp only [lead] at h h2 ⊢
    split
    · rename_i hc
      rw [if_pos hc] at h h2
      simpa using lead_stop f l (by omega) (by simpa using h2)
    · simp; omega
/-- a place is the first one without one behind -/
theorem lead_of : ∀ f (l : List UInt8) k, k ≤ f → k ≤ l.length → (∀ j, j < k → 128 ≤ (l.getD j 0).toNat) → (k < f → k < l.length → (l.getD k 0).toNat < 128) → lead f l = k
  | 0, _, k, h, _, _, _ => by simp [lead]; omega
  | f + 1, [], k, _, h, _, _ => by simp [lead] at h ⊢; omega
  | f + 1, c :: l, k, h1, h2, h3, h4 => by
    cases k with
    | zero =>
      have := h4 (by omega) (by simp)
      simp only [lead]
      rw [if_neg (by simp at this; omega)]
    | succ k =>
      have h0 := h3 0 (by omega)
      simp only [lead]
      rw [if_pos (by simpa using h0), lead_of f l k (by omega) (by simpa using h2) (fun j hj => by simpa using h3 (j + 1) (by omega)) (fun a b => by simpa using h4 (by omega) (by simpa using b))]
theorem take_snoc_getD (l : List UInt8) (k : Nat) (h : k < l.length) : l.take (k + 1) = l.take k ++ [l.getD k 0] := by
  rw [List.take_succ_eq_append_getElem h]
  simp [List.getD_eq_getElem?_getD, List.getElem?_eq_getElem h]
theorem getFixed_bad (b : List UInt8) (n : Int) (h : (getFixed b n).2.2 ≠ 0) : getFixed b n = (0, [], (getFixed b n).2.2) := by
  unfold getFixed at h ⊢
  split
  · rfl
  · split
    · rfl
    · rename_i h1 h2; rw [if_neg h1, if_neg h2] at h; exact absurd rfl h
theorem getNum_bad (b : List UInt8) (h : (getNum b).2.2 ≠ 0) : getNum b = (0, [], (getNum b).2.2) := by
  unfold getNum at h ⊢
  split
  · rfl
  · split
    · rfl
    · split
      · rfl
      · rename_i h1 h2 h3; rw [if_neg h1, if_neg h2, if_neg h3] at h; exact absurd rfl h
theorem getBytes_bad (b : List UInt8) (m : Int) (h : (getBytes b m).2.2 ≠ 0) : getBytes b m = ([], [], (getBytes b m).2.2) := by
  unfold getBytes at h ⊢
  split
  · rfl
  · split
    · rfl
    · split
      · rfl
      · rename_i h1 h2 h3; rw [if_neg h1, if_neg h2, if_neg h3] at h; exact absurd rfl h
/-- what a good number in sevens is -/
theorem getNum_ok (b : List UInt8) (h : (getNum b).2.2 = 0) : lead 10 b < 10 ∧ lead 10 b < b.length ∧ ¬ ((0 < lead 10 b ∧ (b.getD (lead 10 b) 0).toNat = 0) ∨ (lead 10 b = 9 ∧ 1 < (b.getD (lead 10 b) 0).toNat)) ∧
    getNum b = (num7 (b.take (lead 10 b + 1)), b.drop (lead 10 b + 1), 0) := by
  have h1 := lead_le 10 b
  have h2 := lead_len 10 b
  unfold getNum at h ⊢
  split at h
  · cases h
  · split at h
    · cases h
    · split at h
      · cases h
      · rename_i a1 a2 a3
        exact ⟨by omega, by omega, a3, by rw [if_neg a1, if_neg a2, if_neg a3]⟩
theorem num7_top (b : List UInt8) (k : Nat) (h : k < b.length) (h9 : k ≤ 9) (hs : (b.getD k 0).toNat < 128) (ht : k = 9 → (b.getD k 0).toNat ≤ 1) : num7 (b.take (k + 1)) < 18446744073709551616 := by
  rw [take_snoc_getD b k h, num7_snoc]
  have h1 := num7_lt (b.take k)
  have e : (b.take k).length = k := by rw [List.length_take]; omega
  rw [e] at h1 ⊢
  rw [Nat.mod_eq_of_lt hs]
  rcases Nat.lt_or_ge k 9 with hk | hk
  · have h2 : (128 : Nat) ^ (k + 1) ≤ 128 ^ 9 := Nat.pow_le_pow_right (by omega) (by omega)
    have h3 : num7 (b.take k) + 128 ^ k * (b.getD k 0).toNat < 128 ^ (k + 1) := by
      rw [Nat.pow_succ]
      have : 128 ^ k * (b.getD k 0).toNat ≤ 128 ^ k * 127 := Nat.mul_le_mul_left _ (by omega)
      omega
    omega
  · obtain rfl : k = 9 := by omega
    have := ht rfl
    have h4 : (128 : Nat) ^ 9 * (b.getD 9 0).toNat ≤ 128 ^ 9 * 1 := Nat.mul_le_mul_left _ this
    omega
theorem getNum_lt (b : List UInt8) : (getNum b).1 < 18446744073709551616 := by
  by_cases h : (getNum b).2.2 = 0
  · obtain ⟨h1, h2, h3, h4⟩ := getNum_ok b h
    rw [h4]
    exact num7_top b _ h2 (by omega) (lead_stop 10 b h1 h2) (fun e => by omega)
  · rw [getNum_bad b h]; exact Nat.zero_lt_of_lt (show 0 < 18446744073709551616 by omega)
theorem getFixed_lt (b : List UInt8) (n : Int) : (getFixed b n).1 < 18446744073709551616 := by
  unfold getFixed
  split
  · decide
  · split
    · decide
    · rename_i h1 h2
      have := num_lt (b.take n.toNat)
      have h3 : 256 ^ (b.take n.toNat).length ≤ 256 ^ 8 := Nat.pow_le_pow_right (by omega) (by rw [List.length_take]; omega)
      show num (b.take n.toNat) < _
      omega
theorem getFixed_len (b : List UInt8) (n : Int) : (getFixed b n).2.1.length ≤ b.length := by
  unfold getFixed
  split
  · simp
  · split <;> simp
theorem getNum_len (b : List UInt8) : (getNum b).2.1.length ≤ b.length := by
  unfold getNum
  split
  · simp
  · split
    · simp
    · split <;> simp
theorem getBytes_len (b : List UInt8) (m : Int) : (getBytes b m).2.1.length ≤ b.length ∧ (getBytes b m).1.length ≤ b.length := by
  have := getNum_len b
  unfold getBytes
  split
  · simp
  · split
    · simp
    · split
      · simp
      · simp; omega
theorem getNum_less (b : List UInt8) (h : (getNum b).2.2 = 0) : (getNum b).2.1.length < b.length := by
  obtain ⟨h1, h2, h3, h4⟩ := getNum_ok b h
  rw [h4]
  simp
  omega
/-! ### written and read back -/
theorem fixed_get_back (x n : Nat) (r : List UInt8) (h1 : 1 ≤ n) (h8 : n ≤ 8) : getFixed (fixed x n ++ r) n = (x % 256 ^ n, r, 0) := by
  unfold getFixed
  rw [if_neg (by omega), if_neg (by rw [List.length_append, fixed_length]; simp), Int.toNat_natCast,
    List.take_left' (fixed_length n x), List.drop_left' (fixed_length n x), num_fixed]
/-- the sevens of a number: what they are -/
theorem sevF_spec : ∀ f x, x < 128 ^ (f + 1) → ∃ k, k ≤ f ∧ (sevF f x).length = k + 1 ∧ (∀ j, j < k → 128 ≤ ((sevF f x).getD j 0).toNat) ∧ ((sevF f x).getD k 0).toNat < 128 ∧ num7 (sevF f x) = x ∧ (0 < k → 0 < ((sevF f x).getD k 0).toNat) ∧ 128 ^ k * ((sevF f x).getD k 0).toNat ≤ x
  | 0, x, h => ⟨0, Nat.le_refl _, rfl, fun j hj => by omega, by simp [sevF, UInt8.toNat_ofNat'] at *; omega, by simp [sevF, num7, UInt8.toNat_ofNat'] at *; omega, fun h => by omega, by simp [sevF, UInt8.toNat_ofNat'] at *; omega⟩
  | f + 1, x, h => by
    by_cases hx : x < 128
    · refine ⟨0, Nat.zero_le _, ?_, fun j hj => by omega, ?_, ?_, fun h => by omega, ?_⟩ <;> simp only [sevF, if_pos hx] <;> simp [num7, UInt8.toNat_ofNat'] <;> omega
    · obtain ⟨k, h1, h2, h3, h4, h5, h6, h7⟩ := sevF_spec f (x / 128) (by rw [Nat.pow_succ] at h; omega)
      have e : (UInt8.ofNat (x % 128 + 128)).toNat = x % 128 + 128 := by rw [UInt8.toNat_ofNat']; omega
      have hp : 0 < ((sevF f (x / 128)).getD k 0).toNat := by
        rcases Nat.eq_zero_or_pos k with rfl | hk
        · apply Nat.pos_of_ne_zero
          intro h0
          have hl : ∃ c, sevF f (x / 128) = [c] := List.length_eq_one_iff.1 (by rw [h2])
          obtain ⟨c, hc⟩ := hl
          rw [hc] at h5 h0
          simp [num7] at h5 h0
          omega
        · exact h6 hk
      refine ⟨k + 1, by omega, ?_, fun j hj => ?_, ?_, ?_, fun _ => ?_, ?_⟩ <;> simp only [sevF, if_neg hx]
      · simp [h2]
      · cases j with
        | zero => simp only [List.getD_cons_zero, e]; omega
        | succ j => simp only [List.getD_cons_succ]; exact h3 j (by omega)
      · simp only [List.getD_cons_succ]; exact h4
      · simp only [num7, h5, e]; omega
      · simp only [List.getD_cons_succ]; exact hp
      · simp only [List.getD_cons_succ, Nat.pow_succ]
        have := Nat.mul_le_mul_left 128 h7
        rw [Nat.mul_comm (128 ^ k) 128, Nat.mul_assoc]
        omega
theorem getD_left (l r : List UInt8) (j : Nat) (h : j < l.length) : (l ++ r).getD j 0 = l.getD j 0 := by
  simp [List.getD_eq_getElem?_getD, List.getElem?_append_left h]
theorem sevens_get_back (x : Nat) (r : List UInt8) (hx : x < 18446744073709551616) : getNum (sevens x ++ r) = (x, r, 0) := by
  obtain ⟨k, h1, h2, h3, h4, h5, h6, h7⟩ := sevF_spec 9 x (by omega)
  have hl : lead 10 (sevF 9 x ++ r) = k := lead_of 10 _ k (by omega) (by rw [List.length_append]; omega) (fun j hj => by rw [getD_left _ _ _ (by omega)]; exact h3 j hj) (fun _ _ => by rw [getD_left _ _ _ (by omega)]; exact h4)
  have hg : (sevF 9 x ++ r).getD k 0 = (sevF 9 x).getD k 0 := getD_left _ _ _ (by omega)
  unfold getNum sevens
  rw [hl, hg, if_neg (by omega), if_neg (by rw [List.length_append]; omega), if_neg, List.take_left' h2, List.drop_left' h2, h5]
  rintro (⟨a, b⟩ | ⟨a, b⟩)
  · have := h6 a; omega
  · subst a
    have : 128 ^ 9 * 2 ≤ 128 ^ 9 * ((sevF 9 x).getD 9 0).toNat := Nat.mul_le_mul_left _ b
    omega
/-- a list of sevens is what its number is written as -/
theorem sevF_num7 : ∀ f (l : List UInt8) k, l.length = k + 1 → k ≤ f → (∀ j, j < k → 128 ≤ (l.getD j 0).toNat) → (l.getD k 0).toNat < 128 → (0 < k → 0 < (l.getD k 0).toNat) → sevF f (num7 l) = l
  | 0, l, k, hl, hk, h3, h4, h5 => by
    obtain rfl : k = 0 := by omega
    obtain ⟨c, rfl⟩ := List.length_eq_one_iff.1 hl
    simp at h4
    simp [sevF, num7]
    apply UInt8.toNat_inj.1
    rw [UInt8.toNat_ofNat']
    omega
  | f + 1, [], k, hl, _, _, _, _ => by simp at hl
  | f + 1, c :: l, 0, hl, _, _, h4, _ => by
    have : l = [] := by simpa using hl
    subst this
    simp at h4
    have e : num7 [c] = c.toNat := by simp [num7]; omega
    rw [e, sevF, if_pos h4]
    congr 1
    apply UInt8.toNat_inj.1
    rw [UInt8.toNat_ofNat']
    have := c.toNat_lt
    omega
  | f + 1, c :: l, k + 1, hl, hk, h3, h4, h5 => by
    have h0 := h3 0 (by omega)
    simp only [List.getD_cons_zero] at h0
    have ih := sevF_num7 f l k (by simpa using hl) (by omega) (fun j hj => by simpa using h3 (j + 1) (by omega)) (by simpa using h4) (fun _ => by simpa using h5 (by omega))
    have hpos : 0 < num7 l := by
      apply Nat.pos_of_ne_zero
      intro hz
      have hlt : k < l.length := by simp at hl; omega
      have e1 : l = l.take (k + 1) := by rw [List.take_of_length_le (by simp at hl; omega)]
      have := h5 (by omega)
      have h4' : (l.getD k 0).toNat < 128 := by simpa using h4
      rw [e1, take_snoc_getD l k hlt, num7_snoc, Nat.mod_eq_of_lt h4'] at hz
      have h6 : 0 < (l.getD k 0).toNat := by simpa using this
      have := Nat.mul_pos (Nat.pow_pos (n := (l.take k).length) (show 0 < 128 by omega)) h6
      omega
    have hc := c.toNat_lt
    have e2 : (c.toNat % 128 + 128 * num7 l) / 128 = num7 l := by omega
    have e3 : UInt8.ofNat ((c.toNat % 128 + 128 * num7 l) % 128 + 128) = c := by
      apply UInt8.toNat_inj.1
      rw [UInt8.toNat_ofNat']
      omega
    rw [num7, sevF, if_neg (by omega), e2, e3, ih]
theorem getNum_once (b : List UInt8) (h : (getNum b).2.2 = 0) : b = sevens (getNum b).1 ++ (getNum b).2.1 := by
  obtain ⟨h1, h2, h3, h4⟩ := getNum_ok b h
  have e : (b.take (lead 10 b + 1)).length = lead 10 b + 1 := by rw [List.length_take]; omega
  have hg : ∀ j, j < lead 10 b + 1 → (b.take (lead 10 b + 1)).getD j 0 = b.getD j 0 := fun j hj => by
    simp [List.getD_eq_getElem?_getD, hj]
  have hs := sevF_num7 9 (b.take (lead 10 b + 1)) (lead 10 b) e (by omega) (fun j hj => by rw [hg j (by omega)]; exact lead_all 10 b j hj) (by rw [hg _ (by omega)]; exact lead_stop 10 b h1 h2) (fun hk => by rw [hg _ (by omega)]; omega)
  rw [h4]
  unfold sevens
  rw [hs, List.take_append_drop]
theorem bytes_get_back (l r : List UInt8) (most : Int) (h : (l.length : Int) ≤ most) (hl : l.length < 18446744073709551616) : getBytes (sevens l.length ++ l ++ r) most = (l, r, 0) := by
  unfold getBytes
  rw [List.append_assoc, sevens_get_back _ _ hl]
  simp only []
  rw [if_neg (by simp), if_neg (by omega), if_neg (by rw [List.length_append]; omega), List.take_left' rfl, List.drop_left' rfl]
theorem getFixed_once (b : List UInt8) (n : Int) (h : (getFixed b n).2.2 = 0) : b = fixed (getFixed b n).1 n.toNat ++ (getFixed b n).2.1 := by
  unfold getFixed at h ⊢
  split at h
  · cases h
  · split at h
    · cases h
    · rename_i h1 h2
      rw [if_neg h1, if_neg h2]
      have e : (b.take n.toNat).length = n.toNat := by rw [List.length_take]; omega
      have := fixed_num (b.take n.toNat)
      rw [e] at this
      show b = fixed (num (b.take n.toNat)) n.toNat ++ b.drop n.toNat
      rw [this, List.take_append_drop]
theorem getBytes_once (b : List UInt8) (m : Int) (h : (getBytes b m).2.2 = 0) : b = sevens (getBytes b m).1.length ++ (getBytes b m).1 ++ (getBytes b m).2.1 := by
  unfold getBytes at h ⊢
  split at h
  · rename_i h0; exact absurd h h0
  · split at h
    · cases h
    · split at h
      · cases h
      · rename_i h1 h2 h3
        rw [if_neg h1, if_neg h2, if_neg h3]
        have e : ((getNum b).2.1.take (getNum b).1).length = (getNum b).1 := by rw [List.length_take]; omega
        show b = sevens ((getNum b).2.1.take (getNum b).1).length ++ (getNum b).2.1.take (getNum b).1 ++ (getNum b).2.1.drop (getNum b).1
        rw [e, List.append_assoc, List.take_append_drop]
        exact getNum_once b (by simpa using h1)
/-! ### what a reader has: the bytes that are left, what is wrong -/
def rok (s : List UInt8 × Int) : Prop := s.2 ≠ 0 → s.1 = []
/-- an item is read -/
def rget {α : Type} (z : α) (f : List UInt8 → α × List UInt8 × Int) (s : List UInt8 × Int) : α × List UInt8 × Int := if s.2 = 0 then f s.1 else (z, s)
end Buf
