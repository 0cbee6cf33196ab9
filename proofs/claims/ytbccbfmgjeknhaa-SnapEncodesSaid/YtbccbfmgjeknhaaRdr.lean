/- The plain law of chapter 05, of a reader: bytes as numbers. No Go in sight. The walks of a reader of package buf. The walks of numbers that a reader of package buf reads. The walks of numbers in sevens that a reader of package buf reads. The walks of the rest of a reader of package buf. The walks of the rest of a reader of package buf. -/
import Derived.Test.YtbccbfmgjeknhaaWri
import Derived.Test.YtbccbfmgjeknhaaTool
import Derived.Laws.Rows
import Derived.Deep.RegionLaw
namespace Buf
/-- the number of bytes, the lowest first -/
def num : List UInt8 → Nat
  | [] => 0
  | c :: l => c.toNat + 256 * num l
/-- the number of sevens, the lowest first -/
def num7 : List UInt8 → Nat
  | [] => 0
  | c :: l => c.toNat % 128 + 128 * num7 l
/-- how many bytes have one behind, no more than f are looked at -/
def lead : Nat → List UInt8 → Nat
  | 0, _ => 0
  | _ + 1, [] => 0
  | f + 1, c :: l => if 128 ≤ c.toNat then lead f l + 1 else 0
def getFixed (b : List UInt8) (n : Int) : Nat × List UInt8 × Int :=
  if n < 1 ∨ 8 < n then (0, [], 1) else if b.length < n.toNat then (0, [], 3) else (num (b.take n.toNat), b.drop n.toNat, 0)
def getNum (b : List UInt8) : Nat × List UInt8 × Int :=
  if lead 10 b = 10 then (0, [], 5) else if lead 10 b = b.length then (0, [], 3)
  else if (0 < lead 10 b ∧ (b.getD (lead 10 b) 0).toNat = 0) ∨ (lead 10 b = 9 ∧ 1 < (b.getD (lead 10 b) 0).toNat) then (0, [], 5)
  else (num7 (b.take (lead 10 b + 1)), b.drop (lead 10 b + 1), 0)
theorem num_snoc (c : UInt8) : ∀ l, num (l ++ [c]) = num l + 256 ^ l.length * c.toNat
  | [] => by simp [num]
  | d :: l => by
    simp only [List.cons_append, num, num_snoc c l, List.length_cons, Nat.pow_succ]
    rw [Nat.mul_add, ← Nat.mul_assoc, Nat.mul_comm 256 (256 ^ l.length)]
    omega
theorem num7_snoc (c : UInt8) : ∀ l, num7 (l ++ [c]) = num7 l + 128 ^ l.length * (c.toNat % 128)
  | [] => by simp [num7]
  | d :: l => by
    simp only [List.cons_append, num7, num7_snoc c l, List.length_cons, Nat.pow_succ]
    rw [Nat.mul_add, ← Nat.mul_assoc, Nat.mul_comm 128 (128 ^ l.length)]
    omega
theorem num_lt : ∀ l, num l < 256 ^ l.length
  | [] => by simp [num]
  | c :: l => by
    have := num_lt l
    have := c.toNat_lt
    simp only [num, List.length_cons, Nat.pow_succ]
    omega
theorem num7_lt : ∀ l, num7 l < 128 ^ l.length
  | [] => by simp [num7]
  | c :: l => by
    have := num7_lt l
    simp only [num7, List.length_cons, Nat.pow_succ]
    omega
theorem num_fixed : ∀ (n x : Nat), num (fixed x n) = x % 256 ^ n
  | 0, x => by simp [num, fixed, Nat.mod_one]
  | n + 1, x => by
    have e : (UInt8.ofNat x).toNat = x % 256 := by rw [UInt8.toNat_ofNat']
    simp only [fixed, num, num_fixed n (x / 256), e]
    rw [Nat.pow_succ, Nat.mul_comm (256 ^ n) 256, Nat.mod_mul]
theorem fixed_num : ∀ l, fixed (num l) l.length = l
  | [] => rfl
  | c :: l => by
    have h := c.toNat_lt
    have h1 : (c.toNat + 256 * num l) / 256 = num l := by omega
    have h2 : UInt8.ofNat (c.toNat + 256 * num l) = c := by
      apply UInt8.toNat_inj.1
      rw [UInt8.toNat_ofNat']
      omega
    simp only [List.length_cons, num, fixed, h1, h2, fixed_num l]
theorem lead_le : ∀ f l, lead f l ≤ f
  | 0, _ => Nat.le_refl _
  | f + 1, [] => Nat.zero_le _
  | f + 1, c :: l => by
    have := lead_le f l
    simp only [lead]
    split <;> omega
theorem lead_len : ∀ f l, lead f l ≤ l.length
  | 0, _ => Nat.zero_le _
  | f + 1, [] => Nat.zero_le _
  | f + 1, c :: l => by
    have := lead_len f l
    simp only [lead, List.length_cons]
    split <;> omega
/-- all before the last one have one behind -/
theorem lead_all : ∀ f (l : List UInt8) j, j < lead f l → 128 ≤ (l.getD j 0).toNat
  | 0, _, j, h => by simp [lead] at h
  | f + 1, [], j, h => by simp [lead] at h
  | f + 1, c :: l, j, h => by
    simp only [lead] at h
    split at h
    · cases j with
      | zero => simpa
      | succ j => simpa using lead_all f l j (by omega)
    · omega
theorem lead_stop : ∀ f (l : List UInt8), lead f l < f → lead f l < l.length → (l.getD (lead f l) 0).toNat < 128
  | 0, _, h, _ => by simp [lead] at h
  | f + 1, [], _, h => by simp [lead] at h
  | f + 1, c :: l, h, h2 => by
    simp only [lead] at h h2 ⊢
    split
    · rename_i hc
      rw [if_pos hc] at h h2
      simpa using lead_stop f l (by omega) (by simpa using h2)
    · simp; omega
/-- a place is the first one without one behind -/
theorem lead_of : ∀ f (l : List UInt8) k, k ≤ f → k ≤ l.length → (∀ j, j < k → 128 ≤ (l.getD j 0).toNat) → (k < f → k < l.length → (l.getD k 0).toNat < 128) → lead f l = k
  | 0, _, k, h, _, _, _ => by simp [lead]; omega
  | f + 1, [], k, _, h, _, _ => by simp [lead] at h ⊢; omega
  | f + 1, c :: l, k, h1, h2, h3, h4 => by
    cases k with
    | zero =>
      have := h4 (by omega) (by simp)
      simp only [lead]
      rw [if_neg (by simp at this; omega)]
    | succ k =>
      have h0 := h3 0 (by omega)
      simp only [lead]
      rw [if_pos (by simpa using h0), lead_of f l k (by omega) (by simpa using h2) (fun j hj => by simpa using h3 (j + 1) (by omega)) (fun a b => by simpa using h4 (by omega) (by simpa using b))]
theorem take_snoc_getD (l : List UInt8) (k : Nat) (h : k < l.length) : l.take (k + 1) = l.take k ++ [l.getD k 0] := by
  rw [List.take_succ_eq_append_getElem h]
  simp [List.getD_eq_getElem?_getD, List.getElem?_eq_getElem h]
theorem getNum_bad (b : List UInt8) (h : (getNum b).2.2 ≠ 0) : getNum b = (0, [], (getNum b).2.2) := by
  unfold getNum at h ⊢
  split
  · rfl
  · split
    · rfl
    · split
      · rfl
      · rename_i h1 h2 h3; rw [if_neg h1, if_neg h2, if_neg h3] at h; exact absurd rfl h
/-- what a good number in sevens is -/
theorem getNum_ok (b : List UInt8) (h : (getNum b).2.2 = 0) : lead 10 b < 10 ∧ lead 10 b < b.length ∧ ¬ ((0 < lead 10 b ∧ (b.getD (lead 10 b) 0).toNat = 0) ∨ (lead 10 b = 9 ∧ 1 < (b.getD (lead 10 b) 0).toNat)) ∧
    getNum b = (num7 (b.take (lead 10 b + 1)), b.drop (lead 10 b + 1), 0) := by
  have h1 := lead_le 10 b
  have h2 := lead_len 10 b
  unfold getNum at h ⊢
  split at h
  · cases h
  · split at h
    · cases h
    · split at h
      · cases h
      · rename_i a1 a2 a3
        exact ⟨by omega, by omega, a3, by rw [if_neg a1, if_neg a2, if_neg a3]⟩
theorem num7_top (b : List UInt8) (k : Nat) (h : k < b.length) (h9 : k ≤ 9) (hs : (b.getD k 0).toNat < 128) (ht : k = 9 → (b.getD k 0).toNat ≤ 1) : num7 (b.take (k + 1)) < 18446744073709551616 := by
  rw [take_snoc_getD b k h, num7_snoc]
  have h1 := num7_lt (b.take k)
  have e : (b.take k).length = k := by rw [List.length_take]; omega
  rw [e] at h1 ⊢
  rw [Nat.mod_eq_of_lt hs]
  rcases Nat.lt_or_ge k 9 with hk | hk
  · have h2 : (128 : Nat) ^ (k + 1) ≤ 128 ^ 9 := Nat.pow_le_pow_right (by omega) (by omega)
    have h3 : num7 (b.take k) + 128 ^ k * (b.getD k 0).toNat < 128 ^ (k + 1) := by
      rw [Nat.pow_succ]
      have : 128 ^ k * (b.getD k 0).toNat ≤ 128 ^ k * 127 := Nat.mul_le_mul_left _ (by omega)
      omega
    omega
  · obtain rfl : k = 9 := by omega
    have := ht rfl
    have h4 : (128 : Nat) ^ 9 * (b.getD 9 0).toNat ≤ 128 ^ 9 * 1 := Nat.mul_le_mul_left _ this
    omega
theorem getNum_lt (b : List UInt8) : (getNum b).1 < 18446744073709551616 := by
  by_cases h : (getNum b).2.2 = 0
  · obtain ⟨h1, h2, h3, h4⟩ := getNum_ok b h
    rw [h4]
    exact num7_top b _ h2 (by omega) (lead_stop 10 b h1 h2) (fun e => by omega)
  · rw [getNum_bad b h]; exact Nat.zero_lt_of_lt (show 0 < 18446744073709551616 by omega)
theorem getFixed_lt (b : List UInt8) (n : Int) : (getFixed b n).1 < 18446744073709551616 := by
  unfold getFixed
  split
  · decide
  · split
    · decide
    · rename_i h1 h2
      have := num_lt (b.take n.toNat)
      have h3 : 256 ^ (b.take n.toNat).length ≤ 256 ^ 8 := Nat.pow_le_pow_right (by omega) (by rw [List.length_take]; omega)
      show num (b.take n.toNat) < _
      omega
/-! ### written and read back -/
theorem fixed_get_back (x n : Nat) (r : List UInt8) (h1 : 1 ≤ n) (h8 : n ≤ 8) : getFixed (fixed x n ++ r) n = (x % 256 ^ n, r, 0) := by
  unfold getFixed
  rw [if_neg (by omega), if_neg (by rw [List.length_append, fixed_length]; simp), Int.toNat_natCast,
    List.take_left' (fixed_length n x), List.drop_left' (fixed_length n x), num_fixed]
/-- the sevens of a number: what they are -/
theorem sevF_spec : ∀ f x, x < 128 ^ (f + 1) → ∃ k, k ≤ f ∧ (sevF f x).length = k + 1 ∧ (∀ j, j < k → 128 ≤ ((sevF f x).getD j 0).toNat) ∧ ((sevF f x).getD k 0).toNat < 128 ∧ num7 (sevF f x) = x ∧ (0 < k → 0 < ((sevF f x).getD k 0).toNat) ∧ 128 ^ k * ((sevF f x).getD k 0).toNat ≤ x
  | 0, x, h => ⟨0, Nat.le_refl _, rfl, fun j hj => by omega, by simp [sevF, UInt8.toNat_ofNat'] at *; omega, by simp [sevF, num7, UInt8.toNat_ofNat'] at *; omega, fun h => by omega, by simp [sevF, UInt8.toNat_ofNat'] at *; omega⟩
  | f + 1, x, h => by
    by_cases hx : x < 128
    · refine ⟨0, Nat.zero_le _, ?_, fun j hj => by omega, ?_, ?_, fun h => by omega, ?_⟩ <;> simp only [sevF, if_pos hx] <;> simp [num7, UInt8.toNat_ofNat'] <;> omega
    · obtain ⟨k, h1, h2, h3, h4, h5, h6, h7⟩ := sevF_spec f (x / 128) (by rw [Nat.pow_succ] at h; omega)
      have e : (UInt8.ofNat (x % 128 + 128)).toNat = x % 128 + 128 := by rw [UInt8.toNat_ofNat']; omega
      have hp : 0 < ((sevF f (x / 128)).getD k 0).toNat := by
        rcases Nat.eq_zero_or_pos k with rfl | hk
        · apply Nat.pos_of_ne_zero
          intro h0
          have hl : ∃ c, sevF f (x / 128) = [c] := List.length_eq_one_iff.1 (by rw [h2])
          obtain ⟨c, hc⟩ := hl
          rw [hc] at h5 h0
          simp [num7] at h5 h0
          omega
        · exact h6 hk
      refine ⟨k + 1, by omega, ?_, fun j hj => ?_, ?_, ?_, fun _ => ?_, ?_⟩ <;> simp only [sevF, if_neg hx]
      · simp [h2]
      · cases j with
        | zero => simp only [List.getD_cons_zero, e]; omega
        | succ j => simp only [List.getD_cons_succ]; exact h3 j (by omega)
      · simp only [List.getD_cons_succ]; exact h4
      · simp only [num7, h5, e]; omega
      · simp only [List.getD_cons_succ]; exact hp
      · simp only [List.getD_cons_succ, Nat.pow_succ]
        have := Nat.mul_le_mul_left 128 h7
        rw [Nat.mul_comm (128 ^ k) 128, Nat.mul_assoc]
        omega
theorem getD_left (l r : List UInt8) (j : Nat) (h : j < l.length) : (l ++ r).getD j 0 = l.getD j 0 := by
  simp [List.getD_eq_getElem?_getD, List.getElem?_append_left h]
theorem sevens_get_back (x : Nat) (r : List UInt8) (hx : x < 18446744073709551616) : getNum (sevens x ++ r) = (x, r, 0) := by
  obtain ⟨k, h1, h2, h3, h4, h5, h6, h7⟩ := sevF_spec 9 x (by omega)
  have hl : lead 10 (sevF 9 x ++ r) = k := lead_of 10 _ k (by omega) (by rw [List.length_append]; omega) (fun j hj => by rw [getD_left _ _ _ (by omega)]; exact h3 j hj) (fun _ _ => by rw [getD_left _ _ _ (by omega)]; exact h4)
  have hg : (sevF 9 x ++ r).getD k 0 = (sevF 9 x).getD k 0 := getD_left _ _ _ (by omega)
  unfold getNum sevens
  rw [hl, hg, if_neg (by omega), if_neg (by rw [List.length_append]; omega), if_neg, List.take_left' h2, List.drop_left' h2, h5]
  rintro (⟨a, b⟩ | ⟨a, b⟩)
  · have := h6 a; omega
  · subst a
    have : 128 ^ 9 * 2 ≤ 128 ^ 9 * ((sevF 9 x).getD 9 0).toNat := Nat.mul_le_mul_left _ b
    omega
/-- a list of sevens is what its number is written as -/
theorem sevF_num7 : ∀ f (l : List UInt8) k, l.length = k + 1 → k ≤ f → (∀ j, j < k → 128 ≤ (l.getD j 0).toNat) → (l.getD k 0).toNat < 128 → (0 < k → 0 < (l.getD k 0).toNat) → sevF f (num7 l) = l
  | 0, l, k, hl, hk, h3, h4, h5 => by
    obtain rfl : k = 0 := by omega
    obtain ⟨c, rfl⟩ := List.length_eq_one_iff.1 hl
    simp at h4
    simp [sevF, num7]
    apply UInt8.toNat_inj.1
    rw [UInt8.toNat_ofNat']
    omega
  | f + 1, [], k, hl, _, _, _, _ => by simp at hl
  | f + 1, c :: l, 0, hl, _, _, h4, _ => by
    have : l = [] := by simpa using hl
    subst this
    simp at h4
    have e : num7 [c] = c.toNat := by simp [num7]; omega
    rw [e, sevF, if_pos h4]
    congr 1
    apply UInt8.toNat_inj.1
    rw [UInt8.toNat_ofNat']
    have := c.toNat_lt
    omega
  | f + 1, c :: l, k + 1, hl, hk, h3, h4, h5 => by
    have h0 := h3 0 (by omega)
    simp only [List.getD_cons_zero] at h0
    have ih := sevF_num7 f l k (by simpa using hl) (by omega) (fun j hj => by simpa using h3 (j + 1) (by omega)) (by simpa using h4) (fun _ => by simpa using h5 (by omega))
    have hpos : 0 < num7 l := by
      apply Nat.pos_of_ne_zero
      intro hz
      have hlt : k < l.length := by simp at hl; omega
      have e1 : l = l.take (k + 1) := by rw [List.take_of_length_le (by simp at hl; omega)]
      have := h5 (by omega)
      have h4' : (l.getD k 0).toNat < 128 := by simpa using h4
      rw [e1, take_snoc_getD l k hlt, num7_snoc, Nat.mod_eq_of_lt h4'] at hz
      have h6 : 0 < (l.getD k 0).toNat := by simpa using this
      have := Nat.mul_pos (Nat.pow_pos (n := (l.take k).length) (show 0 < 128 by omega)) h6
      omega
    have hc := c.toNat_lt
    have e2 : (c.toNat % 128 + 128 * num7 l) / 128 = num7 l := by omega
    have e3 : UInt8.ofNat ((c.toNat % 128 + 128 * num7 l) % 128 + 128) = c := by
      apply UInt8.toNat_inj.1
      rw [UInt8.toNat_ofNat']
      omega
    rw [num7, sevF, if_neg (by omega), e2, e3, ih]
theorem getNum_once (b : List UInt8) (h : (getNum b).2.2 = 0) : b = sevens (getNum b).1 ++ (getNum b).2.1 := by
  obtain ⟨h1, h2, h3, h4⟩ := getNum_ok b h
  have e : (b.take (lead 10 b + 1)).length = lead 10 b + 1 := by rw [List.length_take]; omega
  have hg : ∀ j, j < lead 10 b + 1 → (b.take (lead 10 b + 1)).getD j 0 = b.getD j 0 := fun j hj => by
    simp [List.getD_eq_getElem?_getD, hj]
  have hs := sevF_num7 9 (b.take (lead 10 b + 1)) (lead 10 b) e (by omega) (fun j hj => by rw [hg j (by omega)]; exact lead_all 10 b j hj) (by rw [hg _ (by omega)]; exact lead_stop 10 b h1 h2) (fun hk => by rw [hg _ (by omega)]; omega)
  rw [h4]
  unfold sevens
  rw [hs, List.take_append_drop]
theorem getFixed_once (b : List UInt8) (n : Int) (h : (getFixed b n).2.2 = 0) : b = fixed (getFixed b n).1 n.toNat ++ (getFixed b n).2.1 := by
  unfold getFixed at h ⊢
  split at h
  · cases h
  · split at h
    · cases h
    · rename_i h1 h2
      rw [if_neg h1, if_neg h2]
      have e : (b.take n.toNat).length = n.toNat := by rw [List.length_take]; omega
      have := fixed_num (b.take n.toNat)
      rw [e] at this
      show b = fixed (num (b.take n.toNat)) n.toNat ++ b.drop n.toNat
      rw [this, List.take_append_drop]
/-! ### what a reader has: the bytes that are left, what is wrong -/
/-- an item is read -/
def rget {α : Type} (z : α) (f : List UInt8 → α × List UInt8 × Int) (s : List UInt8 × Int) : α × List UInt8 × Int := if s.2 = 0 then f s.1 else (z, s)
end Buf
namespace Go.Proofs.Ytbccbfmgjeknhaa
open Go.RowKit
/-- block p is a reader: what is left, what is wrong; its blocks lie below N -/
def Rd (w : World) (N p : Nat) (s : List UInt8 × Int) : Prop :=
  ∃ A c l, w.heap[p]? = some (.cells #[.int .i64 s.2, .slice A l.length c] 120 (0, 0)) ∧ l.length ≤ c ∧ c ≤ 9223372036854775807 ∧ Bytes w A l ∧ p < N ∧ N ≤ w.heap.size ∧ (∀ q, blk A = some q → q < N ∧ q ≠ p) ∧ (s.2 = 0 → l = s.1) ∧ (s.2 ≠ 0 → s.1 = [])
section
variable {w w' : World} {N p : Nat} {s : List UInt8 × Int}
theorem Rd.below (h : Rd w N p s) (hb : Below N w w') : Rd w' N p s := by
  obtain ⟨A, c, l, h1, h2, h3, h4, h5, h6, h7, h8⟩ := h
  refine ⟨A, c, l, (hb.block p h5).trans h1, h2, h3, h4.keep fun b o hA _ => hb.block b (h7 b (by rw [hA]; rfl)).1, h5, Nat.le_trans h6 hb.size, h7, h8⟩
theorem Rd.size (h : Rd w N p s) : N ≤ w.heap.size := by obtain ⟨A, c, l, h1, h2, h3, h4, h5, h6, h7, h8⟩ := h; exact h6
theorem Rd.grow (h : Rd w N p s) (hb : Grow w w') : Rd w' N p s := h.below (Below.mono hb h.size)
theorem Rd.lt (h : Rd w N p s) : p < N := by obtain ⟨A, c, l, h1, h2, h3, h4, h5, h6, h7, h8⟩ := h; exact h5
theorem Rd.drew (h : Rd w N p s) : Rd w.drew N p s := h
theorem Rd.fz (h : Rd w N p s) (i : Nat) : w.frozen? ⟨p, i, none⟩ = false := by obtain ⟨A, c, l, h1, _⟩ := h; exact frozen_of_row w p i _ _ h1
theorem Rd.c0 (h : Rd w N p s) : w.cell? ⟨p, 0, none⟩ = some (.int .i64 s.2) := by obtain ⟨A, c, l, h1, _⟩ := h; rw [cell_of_row w p 0 _ _ (0, 0) h1]; rfl
theorem Rd.setErr (h : Rd w N p s) (e : Int) (he : e ≠ 0) : Rd (w.setCell ⟨p, 0, none⟩ (.int .i64 e)) N p ([], e) := by
  obtain ⟨A, c, l, h1, h2, h3, h4, h5, h6, h7, h8⟩ := h
  refine ⟨A, c, l, ?_, h2, h3, h4.keep fun b o hA _ => Below.heap_setCell _ _ _ _ (h7 b (by rw [hA]; rfl)).2, h5, by simpa [World.setCell] using h6, h7, fun e0 => absurd e0 he, fun _ => rfl⟩
  rw [heap_setCell_same w p 0 _ _ _ h1]
  rfl
end
theorem Rd.apart {w : World} {N p : Nat} {s : List UInt8 × Int} (h : Rd w N p s) {A : Option Addr} {n c : Nat} (hc : w.cell? ⟨p, 1, none⟩ = some (.slice A n c)) {q : Nat} (hq : blk A = some q) : q ≠ p := by
  obtain ⟨A', c', l, h1, h2, h3, h4, h5, h6, h7, h8⟩ := h
  rw [cell_of_row w p 1 _ _ (0, 0) h1] at hc
  simp at hc
  obtain ⟨rfl, _, _⟩ := hc
  exact (h7 q hq).2
theorem Rd.setOther {w : World} {N p : Nat} {s : List UInt8 × Int} (h : Rd w N p s) {q : Addr} (hq : N ≤ q.block) (v : Value) : Rd (w.setCell q v) N p s :=
  h.below ((Below.refl _ _).setCell hq v)
/-- a reader with nothing wrong, opened -/
theorem Rd.open0 {w : World} {N p : Nat} {b : List UInt8} (h : Rd w N p (b, 0)) :
    ∃ A c, w.cell? ⟨p, 0, none⟩ = some (.int .i64 0) ∧ w.cell? ⟨p, 1, none⟩ = some (.slice A b.length c) ∧ b.length ≤ c ∧ c ≤ 9223372036854775807 ∧ Bytes w A b ∧
      ∀ A' c' b', b'.length ≤ c' → c' ≤ 9223372036854775807 → Bytes w A' b' → blk A' = blk A → Rd (w.setCell ⟨p, 1, none⟩ (.slice A' b'.length c')) N p (b', 0) := by
  obtain ⟨A, c, l, h1, h2, h3, h4, h5, h6, h7, h8, h9⟩ := h
  obtain rfl : l = b := h8 rfl
  refine ⟨A, c, by rw [cell_of_row w p 0 _ _ (0, 0) h1]; rfl, by rw [cell_of_row w p 1 _ _ (0, 0) h1]; rfl, h2, h3, h4, fun A' c' b' k1 k2 k3 k4 => ?_⟩
  refine ⟨A', c', b', ?_, k1, k2, k3.keep fun b o hA _ => Below.heap_setCell _ _ _ _ (h7 b (by rw [← k4, hA]; rfl)).2, h5, by simpa [World.setCell] using h6, fun q hq => h7 q (by rw [← k4]; exact hq), fun _ => rfl, fun e => absurd rfl e⟩
  rw [heap_setCell_same w p 1 _ _ _ h1]
  rfl
theorem Kept.grow {w w1 w2 : World} {S : List Nat} (h : Kept w.heap.size S w w1) (hg : Grow w1 w2) : Kept w.heap.size S w w2 := h.trans ((Kept.of_below hg S).mono h.size (fun _ _ e => e))
theorem Kept.step {w w1 w2 : World} {S : List Nat} (h : Kept w.heap.size S w w1) (k : Kept w1.heap.size S w1 w2) : Kept w.heap.size S w w2 := h.trans (k.mono h.size (fun _ _ e => e))
theorem Kept.after {w w1 w2 : World} {S : List Nat} (hg : Grow w w1) (k : Kept w1.heap.size S w1 w2) : Kept w.heap.size S w w2 := (Kept.of_below hg S).trans (k.mono hg.size (fun _ _ e => e))
theorem Bytes.kept {w w' : World} {A : Option Addr} {l : List UInt8} {S : List Nat} (h : Bytes w A l) (hk : Kept w.heap.size S w w') (hS : ∀ q, blk A = some q → q ∉ S) : Bytes w' A l :=
  h.keep fun b o hA hlt => hk.block b hlt (hS b (by rw [hA]; rfl))
/-- a part of bytes -/
theorem Bytes.drop {w : World} {b o : Nat} {l : List UInt8} (h : Bytes w (some ⟨b, o, none⟩) l) (n : Nat) : Bytes w (some ⟨b, o + n, none⟩) (l.drop n) := by
  intro hl
  obtain ⟨b', o', hA, hc⟩ := h (by rintro rfl; simp at hl)
  injection hA with hA
  injection hA with h1 h2
  subst h1 h2
  refine ⟨b, o + n, rfl, fun j hj => ?_⟩
  rw [List.length_drop] at hj
  rw [show o + n + j = o + (n + j) by omega, hc (n + j) (by omega), List.getElem_drop]
theorem Bytes.drop_any {w : World} {A : Option Addr} {l : List UInt8} (h : Bytes w A l) (n : Nat) : Bytes w (Option.map (fun x => x.add n) A) (l.drop n) := by
  intro hl
  obtain ⟨b, o, rfl, hc⟩ := h (by rintro rfl; simp at hl)
  obtain ⟨b', o', hA, hc'⟩ := Bytes.drop (show Bytes w (some ⟨b, o, none⟩) l from fun _ => ⟨b, o, rfl, hc⟩) n hl
  injection hA with hA
  injection hA with h1 h2
  subst h1 h2
  exact ⟨b, o + n, by simp [Addr.add], hc'⟩
theorem blk_add (A : Option Addr) (n : Nat) : blk (Option.map (fun x => x.add n) A) = blk A := by
  cases A with
  | none => rfl
  | some a => simp [blk, Addr.add]; split <;> rfl
def rtake (s : List UInt8 × Int) (n : Nat) : List UInt8 × List UInt8 × Int := Buf.rget [] (fun b => if b.length < n then ([], [], 3) else (b.take n, b.drop n, 0)) s
set_option maxRecDepth 100000 in
set_option maxHeartbeats 1000000 in
theorem take_ok (N p : Nat) (b : List UInt8) (n : Nat) (w : World) (h0 : Rd w N p (b, 0)) (hn : n ≤ b.length) :
    Calls Try.prog 82 #[.pointer (some ⟨p, 0, none⟩), .int .i64 n] w fun r w' => ∃ A c, r = .returned (.slice A n c) ∧ n ≤ c ∧ Bytes w' A (b.take n) ∧ Rd w' N p (b.drop n, 0) ∧ Kept w.heap.size [p] w w' := by
  obtain ⟨A, c, hc0, hc1, hlc, hcm, hb, hset⟩ := h0.open0
  have hf := h0.fz 1
  go_enter Try.func82, Try.ntmps82
  go_wp2_with fail
  refine (fine_any p 0 _ hc0).mono ?_
  rintro r w' ⟨rfl, rfl⟩
  go_wp2
  · obtain rfl : c = n := by assumption
    have e : b.drop c = [] := List.drop_of_length_le hlc
    have h2 := hset A 0 (b.drop c) (by simp [e]) (by omega) (by rw [e]; exact Bytes.nil _ _) rfl
    rw [List.length_drop] at h2
    go_ret
    exact ⟨A, c, rfl, Nat.le_refl _, (hb.take c).keep fun q o hA _ => Below.heap_setCell _ _ _ _ (h0.apart hc1 (by rw [hA]; rfl)), h2, (Kept.refl _ _ w).setCell (p := ⟨p, 1, none⟩) (.inr (by simp)) _⟩
  · have h2 := hset (Option.map (fun x => x.add n) A) (c - n) (b.drop n) (by rw [List.length_drop]; omega) (by omega) (hb.drop_any n) (blk_add A n)
    rw [List.length_drop] at h2
    go_ret
    exact ⟨A, c, rfl, by omega, (hb.take n).keep fun q o hA _ => Below.heap_setCell _ _ _ _ (h0.apart hc1 (by rw [hA]; rfl)), h2, (Kept.refl _ _ w).setCell (p := ⟨p, 1, none⟩) (.inr (by simp)) _⟩
set_option maxRecDepth 100000 in
set_option maxHeartbeats 1000000 in
theorem take_short (N p : Nat) (b : List UInt8) (n : Nat) (w : World) (h : Rd w N p (b, 0)) (hn : b.length < n) :
    Calls Try.prog 82 #[.pointer (some ⟨p, 0, none⟩), .int .i64 n] w fun r w' => r = .returned (.slice none 0 0) ∧ Rd w' N p ([], 3) ∧ Kept w.heap.size [p] w w' := by
  obtain ⟨A, c, hc0, hc1, hlc, hcm, hb, hset⟩ := h.open0
  have hf := h.fz 0
  go_enter Try.func82, Try.ntmps82
  go_wp2_with fail
  refine (fine_any p 0 _ hc0).mono ?_
  rintro r w' ⟨rfl, rfl⟩
  go_wp2_with fail
  refine (fail_set p 3 _ hc0 hf).mono ?_
  rintro r w' ⟨rfl, rfl⟩
  go_wp2
  go_ret
  exact ⟨rfl, h.setErr 3 (by decide), (Kept.refl _ _ w).setCell (p := ⟨p, 0, none⟩) (.inr (by simp)) _⟩
set_option maxRecDepth 100000 in
set_option maxHeartbeats 1000000 in
theorem take_bad (N p : Nat) (b : List UInt8) (e : Int) (n : Int) (w : World) (h : Rd w N p (b, e)) (he : (e == 0) = false) :
    Calls Try.prog 82 #[.pointer (some ⟨p, 0, none⟩), .int .i64 n] w fun r w' => r = .returned (.slice none 0 0) ∧ w = w' := by
  have hc0 := h.c0
  go_enter Try.func82, Try.ntmps82
  go_wp2_with fail
  refine (fine_any p e _ hc0).mono ?_
  rintro r w' ⟨rfl, rfl⟩
  go_wp2
  go_ret
  exact ⟨rfl, rfl⟩
/-- take, in all states -/
theorem take_any (N p : Nat) (s : List UInt8 × Int) (n : Nat) (w : World) (h : Rd w N p s) :
    Calls Try.prog 82 #[.pointer (some ⟨p, 0, none⟩), .int .i64 n] w fun r w' => ∃ A c, r = .returned (.slice A (rtake s n).1.length c) ∧ (rtake s n).1.length ≤ c ∧ Bytes w' A (rtake s n).1 ∧ Rd w' N p (rtake s n).2 ∧ Kept w.heap.size [p] w w' := by
  obtain ⟨b, e⟩ := s
  by_cases he : e = 0
  · subst he
    by_cases hl : b.length < n
    · refine (take_short N p b n w h hl).mono ?_
      rintro r w' ⟨rfl, h1, h2⟩
      have ht : rtake (b, 0) n = ([], [], 3) := by simp [rtake, Buf.rget, hl]
      rw [ht]
      exact ⟨none, 0, rfl, Nat.le_refl _, Bytes.nil _ _, h1, h2⟩
    · refine (take_ok N p b n w h (by omega)).mono ?_
      rintro r w' ⟨A, c, rfl, h0, h1, h2, h3⟩
      have ht : rtake (b, 0) n = (b.take n, b.drop n, 0) := by simp [rtake, Buf.rget, hl]
      rw [ht]
      have hln : (b.take n).length = n := by rw [List.length_take]; omega
      exact ⟨A, c, by rw [hln], by rw [hln]; exact h0, h1, h2, h3⟩
  · refine (take_bad N p b e n w h (by simpa using he)).mono ?_
    rintro r w' ⟨rfl, rfl⟩
    have ht : rtake (b, e) n = ([], b, e) := by simp [rtake, Buf.rget, he]
    rw [ht]
    exact ⟨none, 0, rfl, Nat.le_refl _, Bytes.nil _ _, h, Kept.refl _ _ _⟩
end Go.Proofs.Ytbccbfmgjeknhaa
namespace Go.Proofs.Ytbccbfmgjeknhaa
open Go.RowKit
theorem or_part (X c m : Nat) (hX : X < 2 ^ m) (h : X + 2 ^ m * c < 18446744073709551616) : bits .or .u64 (X : Int) (IntKind.u64.wrap ((c : Int) * 2 ^ m)) = ((X + 2 ^ m * c : Nat) : Int) := by
  have e : (c : Int) * 2 ^ m = ((2 ^ m * c : Nat) : Int) := by rw [Int.natCast_mul, Int.mul_comm]; simp
  have e2 : IntKind.u64.wrap ((2 ^ m * c : Nat) : Int) = ((2 ^ m * c : Nat) : Int) := by rw [IntKind.wrap_u64]; omega
  rw [e, e2, u64_or_nat _ _ (by omega) (by omega), Nat.or_comm, ← Nat.two_pow_add_eq_or_of_lt hX, Nat.add_comm]
theorem pow_256 (k : Nat) : (2 : Nat) ^ (8 * k) = 256 ^ k := by rw [Nat.pow_mul]
theorem num_step (l : List UInt8) (hl : l.length = 8) (k : Nat) (hk : k < 8) :
    bits .or .u64 ((Buf.num (l.take k) : Nat) : Int) (IntKind.u64.wrap (((l[k]'(by omega)).toNat : Int) * 2 ^ (8 * k))) = ((Buf.num (l.take (k + 1)) : Nat) : Int) := by
  have h1 := Buf.num_lt (l.take k)
  have e1 : (l.take k).length = k := by rw [List.length_take]; omega
  have e2 : Buf.num (l.take (k + 1)) = Buf.num (l.take k) + 2 ^ (8 * k) * (l[k]'(by omega)).toNat := by
    rw [take_succ' l k (by omega), Buf.num_snoc, e1, pow_256]
  have h3 := Buf.num_lt (l.take (k + 1))
  have h4 : 256 ^ (l.take (k + 1)).length ≤ 256 ^ 8 := Nat.pow_le_pow_right (by omega) (by rw [List.length_take]; omega)
  rw [e2]
  rw [e1, ← pow_256] at h1
  exact or_part _ _ _ h1 (by omega)
set_option maxRecDepth 100000 in
set_option maxHeartbeats 1000000 in
theorem unumber_any (l : List UInt8) (cs : Array Value) (w : World) (hl : l.length = 8) (hcs : Hid (cs = (l.map u8).toArray)) :
    Calls Try.prog 83 #[.agg cs] w fun r w' => r = .returned (.int .u64 (Buf.num l)) ∧ Grow w w' := by
  have hh := Holds.new w cs 113 (0, 0) rfl
  go_enter Try.func83, Try.ntmps83
  go_wp2
  go_loop [3, 5] (fun x i => ∃ k : Nat, k ≤ 8 ∧ i = .int .i64 k ∧ x = .int .u64 (Buf.num (l.take k))) (fun _ i => 8 - (intOf i).toNat)
  case atStart => exact ⟨0, by omega, rfl, rfl⟩
  case round =>
    obtain ⟨k, hk, rfl, rfl⟩ := hrel
    by_cases hlt : k < 8
    · have hc : cs[k]? = some (.int .u8 ((l[k]'(by omega)).toNat : Int)) := by rw [hcs.out, List.getElem?_toArray, u8_map_get l k (by omega)]
      have hcb := (l[k]'(by omega)).toNat_lt
      have HS := hide (num_step l hl k hlt)
      go_wp2
      go_round
      case rel => exact ⟨k + 1, by omega, by go_num, by rw [HS.out]⟩
      case measure => simp [intOf]; omega
    · obtain rfl : k = 8 := by omega
      have HT := show l.take 8 = l from List.take_of_length_le (by omega)
      go_wp2
      go_ret
      exact ⟨rfl, (Grow.refl w).alloc _⟩
/-- the builtin copy inside a region -/
theorem oper_copy_splice {P : Program} {o : Oper} {a : Act} {w : World} {K : Act → World → Prop} {Q : Exit → Act → World → Prop} (hgd : o.guard = none) (d s : Operand) (dT sT : TypeId)
    (ho : o.op = .call { callee := .builtin .copy, args := #[d, s], argTypes := #[dT, sT] }) (elem : TypeId) (hu : P.underlying dT = some (.slice elem)) (hsz : (P.info? elem).map (·.size) = some 1)
    (dp sp : Option Addr) (dLen dCap sLen sCap : Nat) (hd : a.eval d = .slice dp dLen dCap) (hs : a.eval s = .slice sp sLen sCap)
    (g off : Nat) (cur : List Value) (t : TypeId) (hg : w.heap[g]? = some (.cells cur.toArray t (0, 0))) (cs : List Value) (hn : cs.length = Nat.min sLen dLen)
    (hpos : 0 < cs.length → dp = some ⟨g, off, none⟩ ∧ ∃ ad, sp = some ad ∧ ∀ j v, cs[j]? = some v → w.cell? (ad.add j) = some v)
    (hfit : off + cs.length ≤ cur.length) (h1 : ∀ v ∈ cs, v.oneCell' = true)
    (h : ∀ w', Hid (w'.heap[g]? = some (.cells (splice cur off cs).toArray t (0, 0))) → Below g w w' → K (a.put o.dst (goInt cs.length)) w') : Oper.wp P o a w K Q := by
  have h2 := step_copy_splice (P := P) (ops := #[]) (E := True) (K := K) (Q := Q) hgd d s dT sT ho elem hu hsz dp sp dLen dCap sLen sCap hd hs g off cur t hg cs hn hpos hfit h1 g w (Below.refl _ _) (Nat.le_refl _) h
  rwa [if_pos (by simp [Region.wanted, hgd])] at h2
theorem Bytes.cells {w : World} {A : Option Addr} {l : List UInt8} (h : Bytes w A l) (hl : 0 < (l.map u8).length) : ∃ ad, A = some ad ∧ ∀ j v, (l.map u8)[j]? = some v → w.cell? (ad.add j) = some v := by
  obtain ⟨b, o, hA, hc⟩ := h (by rintro rfl; simp at hl)
  refine ⟨_, hA, fun j v hv => ?_⟩
  have hj : j < l.length := by
    rcases Nat.lt_or_ge j l.length with h | h
    · exact h
    · rw [List.getElem?_eq_none (by simpa using h)] at hv; cases hv
  rw [u8_map_get l j hj] at hv
  injection hv with hv
  subst hv
  have e : (⟨b, o, none⟩ : Addr).add j = ⟨b, o + j, none⟩ := by unfold Addr.add; split <;> simp_all
  rw [e, hc j hj]
theorem u8_one (l : List UInt8) : ∀ v ∈ l.map u8, v.oneCell' = true := by
  intro u hu
  simp only [List.mem_map] at hu
  obtain ⟨x, _, rfl⟩ := hu
  rfl
/-- eight bytes of which the first are given -/
def pad8 (l : List UInt8) : List UInt8 := l ++ List.replicate (8 - l.length) 0
theorem num_zeros : ∀ n, Buf.num (List.replicate n 0) = 0
  | 0 => rfl
  | n + 1 => by simp [List.replicate_succ, Buf.num, num_zeros n]
theorem num_append (m : List UInt8) : ∀ l, Buf.num (l ++ m) = Buf.num l + 256 ^ l.length * Buf.num m
  | [] => by simp [Buf.num]
  | c :: l => by
    simp only [List.cons_append, Buf.num, num_append m l, List.length_cons, Nat.pow_succ]
    rw [Nat.mul_add, ← Nat.mul_assoc, Nat.mul_comm 256 (256 ^ l.length)]
    omega
theorem num_pad8 (l : List UInt8) : Buf.num (pad8 l) = Buf.num l := by unfold pad8; rw [num_append, num_zeros]; simp
theorem pad8_splice (l : List UInt8) : splice [Value.int .u8 0, .int .u8 0, .int .u8 0, .int .u8 0, .int .u8 0, .int .u8 0, .int .u8 0, .int .u8 0] 0 (l.map u8) = (pad8 l).map u8 := by
  have e : [Value.int .u8 0, .int .u8 0, .int .u8 0, .int .u8 0, .int .u8 0, .int .u8 0, .int .u8 0, .int .u8 0] = (List.replicate 8 (0 : UInt8)).map u8 := by rfl
  rw [e]
  unfold splice pad8
  rw [List.take_zero, List.nil_append, Nat.zero_add, List.length_map, ← List.map_drop, List.map_append, List.drop_replicate]
theorem rtake_len (s : List UInt8 × Int) (n : Nat) : (rtake s n).1.length ≤ n := by
  unfold rtake Buf.rget
  split
  · show (if s.1.length < n then (([] : List UInt8), ([] : List UInt8), (3 : Int)) else (s.1.take n, s.1.drop n, 0)).1.length ≤ n
    split
    · simp
    · simp; omega
  · simp
theorem pad8_length (l : List UInt8) (h : l.length ≤ 8) : (pad8 l).length = 8 := by unfold pad8; simp; omega
set_option maxRecDepth 100000 in
set_option maxHeartbeats 1000000 in
theorem rfixed_any (N p : Nat) (s : List UInt8 × Int) (n : Nat) (w : World) (h : Rd w N p s) (h1 : 1 ≤ n) (h8 : n ≤ 8) :
    Calls Try.prog 73 #[.pointer (some ⟨p, 0, none⟩), .int .i64 n] w fun r w' => r = .returned (.int .u64 (Buf.num (rtake s n).1)) ∧ Rd w' N p (rtake s n).2 ∧ Kept w.heap.size [p] w w' := by
  have hd1 : decide ((n : Int) < 1) = false := by simp; omega
  have hd2 : decide (8 < (n : Int)) = false := by simp; omega
  go_enter Try.func73, Try.ntmps73
  go_wp2_with fail
  have hrf : ∀ w : World, (fun _ _ : World => True) w w := fun _ => trivial
  have htr : ∀ a b c : World, (fun _ _ : World => True) a b → (fun _ _ : World => True) b c → (fun _ _ : World => True) a c := fun _ _ _ _ _ => trivial
  refine wpR_region (fun _ _ => True) [] (by kernel_rfl) ?_
  refine wpR_take hrf htr 0 rfl (by kernel_rfl) (fun _ _ _ h => h) rfl (v := ?_) ?_ ?_
  rotate_left
  · (intro w' hG; go_simp; try with_reducible rfl)
  try simp only [Act.put, List.setIfInBounds_toArray, List.set_cons_zero, List.set_cons_succ]
  refine wpR_take hrf htr 1 rfl (by kernel_rfl) (fun _ _ _ h => h) rfl (v := ?_) ?_ ?_
  rotate_left
  · (intro w' hG; go_simp; try with_reducible rfl)
  try simp only [Act.put, List.setIfInBounds_toArray, List.set_cons_zero, List.set_cons_succ]
  refine wpR_take hrf htr 2 rfl (by kernel_rfl) (fun _ _ _ h => h) rfl (v := ?_) ?_ ?_
  rotate_left
  · (intro w' hG; go_simp; try with_reducible rfl)
  try simp only [Act.put, List.setIfInBounds_toArray, List.set_cons_zero, List.set_cons_succ]
  have HA := hide (h.grow ((Grow.refl w).alloc (.cells #[.int .u8 0, .int .u8 0, .int .u8 0, .int .u8 0, .int .u8 0, .int .u8 0, .int .u8 0, .int .u8 0] 113)).drew)
  refine wpR_call 3 rfl (by kernel_rfl) rfl fun K hK => ?_
  go_simp
  refine (take_any N p s n _ (h.grow ((Grow.refl w).alloc _)).drew).mono ?_
  rintro r w1 ⟨A, c, rfl, hc, hb, hr, hk⟩
  refine hK.out _ _ (.inr (trivial)) ?_
  clear hK
  try simp only [Act.put, List.setIfInBounds_toArray, List.set_cons_zero, List.set_cons_succ]
  have hg1 : w1.heap[w.heap.size]? = some (.cells #[.int .u8 0, .int .u8 0, .int .u8 0, .int .u8 0, .int .u8 0, .int .u8 0, .int .u8 0, .int .u8 0] 113 (0, 0)) := (hk.block _ (by simp) (by have := h.lt; have := h.size; simp; omega)).trans (heap_alloc_new w _)
  have hl8 := rtake_len s n
  generalize hT : rtake s n = T at *
  have HT := hide hT
  clear hT
  refine wpR_call 4 rfl (by kernel_rfl) rfl fun K hK => ?_
  refine oper_copy_splice rfl (.tmp 18) (.tmp 21) 22 22 rfl 5 Try.underlying22 (by kernel_rfl) _ A 8 8 T.1.length c rfl rfl w.heap.size 0 _ _ hg1 (T.1.map u8) ?_ ?_ ?_ (u8_one _) ?_
  · rw [List.length_map]; exact (Nat.min_eq_left (by omega)).symm
  · exact fun h0 => ⟨rfl, hb.cells h0⟩
  · rw [List.length_map]; simp; omega
  intro w2 hg2 hb2
  rw [pad8_splice _] at hg2
  refine hK.out _ _ (.inr (trivial)) ?_
  clear hK
  try simp only [Act.put, List.setIfInBounds_toArray, List.set_cons_zero, List.set_cons_succ]
  refine wpR_done (by kernel_rfl) ?_ _
  go_wp2_with (refine wpList_load_row rfl 113 (.tmp 5) rfl w.heap.size rfl _ _ _ _ hg2.out Try.underlying113 rfl (by rw [List.size_toArray, List.length_map, pad8_length _ (by omega)]; kernel_rfl) ?_)
  refine (unumber_any (pad8 T.1) _ _ (pad8_length _ (by omega)) (hide rfl)).mono ?_
  rintro r w3 ⟨rfl, hg3⟩
  go_wp2
  go_ret
  rw [num_pad8, HT.out]
  exact ⟨rfl, (hr.below (hb2.mono h.size)).grow hg3, ((((Kept.refl w.heap.size [p] w).alloc (Nat.le_refl _) _).drew.trans (hk.mono (by simp) (fun _ _ e => e))).trans (Kept.of_below hb2 _)).grow hg3⟩
def rfix (n : Int) (s : List UInt8 × Int) : Nat × List UInt8 × Int := Buf.rget 0 (fun b => Buf.getFixed b n) s
theorem rfix_in (s : List UInt8 × Int) (n : Nat) (h1 : 1 ≤ n) (h8 : n ≤ 8) : rfix n s = (Buf.num (rtake s n).1, (rtake s n).2) := by
  unfold rfix rtake Buf.rget Buf.getFixed
  by_cases h : s.2 = 0
  · rw [if_pos h, if_pos h]
    dsimp only
    rw [if_neg (by omega), Int.toNat_natCast]
    by_cases hl : s.1.length < n
    · simp [hl, Buf.num]
    · simp [hl]
  · rw [if_neg h, if_neg h]; rfl
set_option maxRecDepth 100000 in
set_option maxHeartbeats 1000000 in
theorem rfixed_no (N p : Nat) (s : List UInt8 × Int) (n : Int) (w : World) (h : Rd w N p s) (hn : n < 1 ∨ 8 < n) :
    Calls Try.prog 73 #[.pointer (some ⟨p, 0, none⟩), .int .i64 n] w fun r w' => r = .returned (.int .u64 (rfix n s).1) ∧ Rd w' N p (rfix n s).2 ∧ Kept w.heap.size [p] w w' := by
  obtain ⟨b, e⟩ := s
  have hc0 := h.c0
  have hf := h.fz 0
  by_cases he : e = 0
  · subst he
    have HP := hide (show rfix n (b, 0) = (0, [], 1) by unfold rfix Buf.rget Buf.getFixed; rw [if_pos rfl]; dsimp only; rw [if_pos hn])
    rcases hn with hn | hn
    all_goals
      go_enter Try.func73, Try.ntmps73
      go_wp2_with fail
      refine (fail_set p 1 _ hc0 hf).mono ?_
      rintro r w' ⟨rfl, rfl⟩
      go_wp2
      go_ret
      rw [HP.out]
      exact ⟨rfl, h.setErr 1 (by decide), (Kept.refl _ _ w).setCell (p := ⟨p, 0, none⟩) (.inr (by simp)) _⟩
  · have he' : (e == 0) = false := by simpa using he
    have HP := hide (show rfix n (b, e) = (0, b, e) by unfold rfix Buf.rget; rw [if_neg he])
    clear he
    rcases hn with hn | hn
    all_goals
      go_enter Try.func73, Try.ntmps73
      go_wp2_with fail
      refine (fail_keep p 1 e _ hc0 he').mono ?_
      rintro r w' ⟨rfl, rfl⟩
      go_wp2
      go_ret
      rw [HP.out]
      exact ⟨rfl, h, Kept.refl _ _ _⟩
/-- a number of any width -/
theorem rfix_any (N p : Nat) (s : List UInt8 × Int) (n : Int) (w : World) (h : Rd w N p s) :
    Calls Try.prog 73 #[.pointer (some ⟨p, 0, none⟩), .int .i64 n] w fun r w' => r = .returned (.int .u64 (rfix n s).1) ∧ Rd w' N p (rfix n s).2 ∧ Kept w.heap.size [p] w w' := by
  by_cases hn : n < 1 ∨ 8 < n
  · exact rfixed_no N p s n w h hn
  · obtain ⟨m, rfl⟩ := Int.eq_ofNat_of_zero_le (show 0 ≤ n by omega)
    have := rfixed_any N p s m w h (by omega) (by omega)
    rw [rfix_in s m (by omega) (by omega)]
    exact this
end Go.Proofs.Ytbccbfmgjeknhaa
namespace Go.Proofs.Ytbccbfmgjeknhaa
open Go.RowKit
theorem Bytes.get {w : World} {A : Option Addr} {l : List UInt8} (h : Bytes w A l) (k : Nat) (hk : k < l.length) : ∃ b o, A = some ⟨b, o, none⟩ ∧ w.cell? ⟨b, o + k, none⟩ = some (.int .u8 ((l.getD k 0).toNat : Int)) := by
  obtain ⟨b, o, hA, hc⟩ := h.at_ k hk
  exact ⟨b, o, hA, by rw [hc]; simp [List.getD_eq_getElem?_getD, List.getElem?_eq_getElem hk]⟩
/-- the bytes of a reader as numbers -/
structure Dig (w : World) (A : Option Addr) (b : List UInt8) (d : Nat → Nat) : Prop where
  lt : ∀ k, d k < 256
  cell : ∀ k, k < b.length → ∃ bb o, A = some ⟨bb, o, none⟩ ∧ w.cell? ⟨bb, o + k, none⟩ = some (.int .u8 ((d k : Nat) : Int))
theorem Dig.mk_ {w : World} {A : Option Addr} {b : List UInt8} (h : Bytes w A b) : ∃ d, Dig w A b d ∧ ∀ k, d k = (b.getD k 0).toNat :=
  ⟨fun k => (b.getD k 0).toNat, ⟨fun k => (b.getD k 0).toNat_lt, fun k hk => h.get k hk⟩, fun _ => rfl⟩
theorem Dig.at_ {w : World} {bb o : Nat} {b : List UInt8} {d : Nat → Nat} (h : Dig w (some ⟨bb, o, none⟩) b d) (k : Nat) (hk : k < b.length) : w.cell? ⟨bb, o + k, none⟩ = some (.int .u8 ((d k : Nat) : Int)) := by
  obtain ⟨b', o', hA, hc⟩ := h.cell k hk
  injection hA with hA
  injection hA with e1 e2
  subst e1 e2
  exact hc
set_option maxRecDepth 100000 in
set_option maxHeartbeats 1000000 in
theorem length_ok (N p : Nat) (b : List UInt8) (w : World) (h : Rd w N p (b, 0)) (h1 : Buf.lead 10 b < 10) (h2 : Buf.lead 10 b < b.length) :
    Calls Try.prog 81 #[.pointer (some ⟨p, 0, none⟩)] w fun r w' => r = .returned (.int .i64 ((Buf.lead 10 b + 1 : Nat) : Int)) ∧ w = w' := by
  obtain ⟨A, c, hc0, hc1, hlc, hcm, hb, hset⟩ := h.open0
  obtain ⟨d, hD, hd⟩ := Dig.mk_ hb
  have hall := hide (show ∀ k, k < Buf.lead 10 b → 128 ≤ d k from fun k hk => by rw [hd]; exact Buf.lead_all 10 b k hk)
  have hstop := hide (show d (Buf.lead 10 b) < 128 by rw [hd]; exact Buf.lead_stop 10 b h1 h2)
  generalize Buf.lead 10 b = L at *
  obtain ⟨bb, o, hA, _⟩ := hD.cell 0 (by omega)
  subst hA
  clear hset hd
  go_enter Try.func81, Try.ntmps81
  go_wp2
  go_loop [10] (fun i => ∃ k : Nat, k ≤ L ∧ i = .int .i64 k) (fun i => L - (intOf i).toNat)
  case atStart => exact ⟨0, by omega, rfl⟩
  case round =>
    obtain ⟨k, hk, rfl⟩ := hrel
    have hcell := hD.at_ k (by omega)
    have hu := hD.lt k
    have t10 : ((k : Int) == 10) = false := by simp; omega
    by_cases hlt : k < L
    · have h128 := hall.out k hlt
      have hd : decide (((d k : Nat) : Int) < 128) = false := by simp; omega
      go_wp2
      go_round
      case rel => exact ⟨k + 1, by omega, by go_num⟩
      case measure => simp [intOf]; omega
    · obtain rfl : k = L := by omega
      have h128 := hstop.out
      have hd : decide (((d k : Nat) : Int) < 128) = true := by simp; omega
      go_wp2
      go_ret
      exact ⟨rfl, rfl⟩
set_option maxRecDepth 100000 in
set_option maxHeartbeats 1000000 in
theorem length_short (N p : Nat) (b : List UInt8) (w : World) (h : Rd w N p (b, 0)) (h1 : Buf.lead 10 b < 10) (h2 : Buf.lead 10 b = b.length) :
    Calls Try.prog 81 #[.pointer (some ⟨p, 0, none⟩)] w fun r w' => r = .returned (.int .i64 0) ∧ Rd w' N p ([], 3) ∧ Kept w.heap.size [p] w w' := by
  obtain ⟨A, c, hc0, hc1, hlc, hcm, hb, hset⟩ := h.open0
  have hf := h.fz 0
  obtain ⟨d, hD, hd⟩ := Dig.mk_ hb
  have hall := hide (show ∀ k, k < Buf.lead 10 b → 128 ≤ d k from fun k hk => by rw [hd]; exact Buf.lead_all 10 b k hk)
  generalize Buf.lead 10 b = L at *
  subst h2
  clear hset hd
  go_enter Try.func81, Try.ntmps81
  go_wp2
  go_loop [10] (fun i => ∃ k : Nat, k ≤ b.length ∧ i = .int .i64 k) (fun i => b.length - (intOf i).toNat)
  case atStart => exact ⟨0, by omega, rfl⟩
  case round =>
    obtain ⟨k, hk, rfl⟩ := hrel
    by_cases hlt : k < b.length
    · obtain ⟨bb, o, hA, hcell⟩ := hD.cell k hlt
      subst hA
      have hu := hD.lt k
      have t10 : ((k : Int) == 10) = false := by simp; omega
      have h128 := hall.out k hlt
      have hd : decide (((d k : Nat) : Int) < 128) = false := by simp; omega
      go_wp2
      go_round
      case rel => exact ⟨k + 1, by omega, by go_num⟩
      case measure => simp [intOf]; omega
    · obtain rfl : k = b.length := by omega
      have hd : decide (10 ≤ b.length) = false := by simp; omega
      go_wp2_with fail
      refine (fail_set p 3 _ hc0 hf).mono ?_
      rintro r w' ⟨rfl, rfl⟩
      go_wp2
      go_ret
      exact ⟨rfl, h.setErr 3 (by decide), (Kept.refl _ _ w).setCell (p := ⟨p, 0, none⟩) (.inr (by simp)) _⟩
set_option maxRecDepth 100000 in
set_option maxHeartbeats 1000000 in
theorem length_form (N p : Nat) (b : List UInt8) (w : World) (h : Rd w N p (b, 0)) (h1 : Buf.lead 10 b = 10) :
    Calls Try.prog 81 #[.pointer (some ⟨p, 0, none⟩)] w fun r w' => r = .returned (.int .i64 0) ∧ Rd w' N p ([], 5) ∧ Kept w.heap.size [p] w w' := by
  have h10 := Buf.lead_len 10 b
  rw [h1] at h10
  obtain ⟨A, c, hc0, hc1, hlc, hcm, hb, hset⟩ := h.open0
  have hf := h.fz 0
  obtain ⟨d, hD, hd⟩ := Dig.mk_ hb
  have hall := hide (show ∀ k, k < 10 → 128 ≤ d k from fun k hk => by rw [hd]; exact Buf.lead_all 10 b k (by omega))
  clear hset hd h1
  go_enter Try.func81, Try.ntmps81
  go_wp2
  go_loop [10] (fun i => ∃ k : Nat, k ≤ 10 ∧ i = .int .i64 k) (fun i => 10 - (intOf i).toNat)
  case atStart => exact ⟨0, by omega, rfl⟩
  case round =>
    obtain ⟨k, hk, rfl⟩ := hrel
    by_cases hlt : k < 10
    · obtain ⟨bb, o, hA, hcell⟩ := hD.cell k (by omega)
      subst hA
      have hu := hD.lt k
      have t10 : ((k : Int) == 10) = false := by simp; omega
      have h128 := hall.out k hlt
      have hd : decide (((d k : Nat) : Int) < 128) = false := by simp; omega
      have hkl : k < b.length := by omega
      go_wp2
      go_round
      case rel => exact ⟨k + 1, by omega, by go_num⟩
      case measure => simp [intOf]; omega
    · obtain rfl : k = 10 := by omega
      by_cases hl : 10 < b.length
      · obtain ⟨bb, o, hA, hcell⟩ := hD.cell 10 hl
        subst hA
        have hu := hD.lt 10
        go_wp2_with fail
        refine (fail_set p 5 _ hc0 hf).mono ?_
        rintro r w' ⟨rfl, rfl⟩
        go_wp2
        go_ret
        exact ⟨rfl, h.setErr 5 (by decide), (Kept.refl _ _ w).setCell (p := ⟨p, 0, none⟩) (.inr (by simp)) _⟩
      · have hd : decide (10 ≤ b.length) = true := by simp; omega
        have hR := h.setErr 5 (by decide)
        have hc5 := hR.c0
        go_wp2_with fail
        refine (fail_set p 5 _ hc0 hf).mono ?_
        rintro r w' ⟨rfl, rfl⟩
        go_wp2_with fail
        refine (fail_keep p 3 5 _ hc5 (by decide)).mono ?_
        rintro r w' ⟨rfl, rfl⟩
        go_wp2
        go_ret
        exact ⟨rfl, hR, (Kept.refl _ _ w).setCell (p := ⟨p, 0, none⟩) (.inr (by simp)) _⟩
end Go.Proofs.Ytbccbfmgjeknhaa
namespace Go.Proofs.Ytbccbfmgjeknhaa
open Go.RowKit
theorem andnot128 (c : Nat) (h : c < 256) : bits .andNot .u8 (c : Int) 128 = ((c % 128 : Nat) : Int) :=
  (show ∀ a : Fin 256, bits .andNot .u8 (a.val : Int) 128 = ((a.val % 128 : Nat) : Int) by decide +kernel) ⟨c, h⟩
theorem pow_128 (k : Nat) : (2 : Nat) ^ (7 * k) = 128 ^ k := by rw [Nat.pow_mul]
theorem num7_step (l : List UInt8) (d : Nat → Nat) (hd : ∀ k, d k = (l.getD k 0).toNat) (k : Nat) (hk : k < l.length) (h : Buf.num7 (l.take (k + 1)) < 18446744073709551616) :
    bits .or .u64 ((Buf.num7 (l.take k) : Nat) : Int) (IntKind.u64.wrap (((d k % 128 : Nat) : Int) * 2 ^ (7 * k))) = ((Buf.num7 (l.take (k + 1)) : Nat) : Int) := by
  have h1 := Buf.num7_lt (l.take k)
  have e1 : (l.take k).length = k := by rw [List.length_take]; omega
  have e2 : Buf.num7 (l.take (k + 1)) = Buf.num7 (l.take k) + 2 ^ (7 * k) * (d k % 128) := by
    rw [Buf.take_snoc_getD l k hk, Buf.num7_snoc, e1, pow_128, hd]
  rw [e2] at h ⊢
  rw [e1, ← pow_128] at h1
  exact or_part _ _ _ h1 h
theorem num7_mono (l : List UInt8) (k : Nat) : Buf.num7 (l.take k) ≤ Buf.num7 l := by
  have h : ∀ (m l : List UInt8), Buf.num7 l ≤ Buf.num7 (l ++ m) := by
    intro m l
    induction l with
    | nil => simp [Buf.num7]
    | cons c l ih => simp only [List.cons_append, Buf.num7]; omega
  have := h (l.drop k) (l.take k)
  rwa [List.take_append_drop] at this
set_option maxRecDepth 100000 in
set_option maxHeartbeats 1000000 in
theorem rnum_bad (N p : Nat) (b : List UInt8) (e : Int) (w : World) (h : Rd w N p (b, e)) (he : (e == 0) = false) :
    Calls Try.prog 71 #[.pointer (some ⟨p, 0, none⟩)] w fun r w' => r = .returned (.int .u64 0) ∧ w = w' := by
  have hc0 := h.c0
  go_enter Try.func71, Try.ntmps71
  go_wp2_with fail
  refine (fine_any p e _ hc0).mono ?_
  rintro r w' ⟨rfl, rfl⟩
  go_wp2
  go_ret
  exact ⟨rfl, rfl⟩
set_option maxRecDepth 100000 in
set_option maxHeartbeats 1000000 in
theorem rnum_none (N p : Nat) (b : List UInt8) (e : Int) (w : World) (h : Rd w N p (b, 0))
    (hl : Calls Try.prog 81 #[.pointer (some ⟨p, 0, none⟩)] w fun r w' => r = .returned (.int .i64 0) ∧ Rd w' N p ([], e) ∧ Kept w.heap.size [p] w w') :
    Calls Try.prog 71 #[.pointer (some ⟨p, 0, none⟩)] w fun r w' => r = .returned (.int .u64 0) ∧ Rd w' N p ([], e) ∧ Kept w.heap.size [p] w w' := by
  have hc0 := h.c0
  have HL := hide hl
  clear hl
  go_enter Try.func71, Try.ntmps71
  go_wp2_with fail
  refine (fine_any p 0 _ hc0).mono ?_
  rintro r w' ⟨rfl, rfl⟩
  go_wp2_with fail
  refine HL.out.mono ?_
  rintro r w' ⟨rfl, h1, h2⟩
  go_wp2
  go_ret
  exact ⟨rfl, h1, h2⟩
set_option maxRecDepth 100000 in
set_option maxHeartbeats 1000000 in
theorem rnum_form (N p : Nat) (b : List UInt8) (w : World) (h : Rd w N p (b, 0)) (h1 : Buf.lead 10 b < 10) (h2 : Buf.lead 10 b < b.length)
    (h3 : (0 < Buf.lead 10 b ∧ (b.getD (Buf.lead 10 b) 0).toNat = 0) ∨ (Buf.lead 10 b = 9 ∧ 1 < (b.getD (Buf.lead 10 b) 0).toNat)) :
    Calls Try.prog 71 #[.pointer (some ⟨p, 0, none⟩)] w fun r w' => r = .returned (.int .u64 0) ∧ Rd w' N p ([], 5) ∧ Kept w.heap.size [p] w w' := by
  have HL := hide (length_ok N p b w h h1 h2)
  obtain ⟨A, c, hc0, hc1, hlc, hcm, hb, hset⟩ := h.open0
  have hf := h.fz 0
  obtain ⟨d, hD, hd⟩ := Dig.mk_ hb
  rw [← hd] at h3
  generalize Buf.lead 10 b = L at *
  obtain ⟨bb, o, hA, hcell⟩ := hD.cell L h2
  subst hA
  have hu := hD.lt L
  clear hset hd
  have e1 : IntKind.i64.wrap (((L + 1 : Nat) : Int) - 1) = (L : Int) := by rw [IntWalk.i64_in _ (by omega)]; omega
  go_enter Try.func71, Try.ntmps71
  go_wp2_with fail
  refine (fine_any p 0 _ hc0).mono ?_
  rintro r w' ⟨rfl, rfl⟩
  go_wp2_with fail
  refine HL.out.mono ?_
  rintro r w' ⟨rfl, rfl⟩
  go_wp2_with fail
  all_goals
    refine (fail_set p 5 _ hc0 hf).mono ?_
    rintro r w' ⟨rfl, rfl⟩
    go_wp2
    go_ret
    exact ⟨rfl, h.setErr 5 (by decide), (Kept.refl _ _ w).setCell (p := ⟨p, 0, none⟩) (.inr (by simp)) _⟩
set_option maxRecDepth 100000 in
set_option maxHeartbeats 2000000 in
theorem rnum_ok (N p : Nat) (b : List UInt8) (w : World) (h : Rd w N p (b, 0)) (h1 : Buf.lead 10 b < 10) (h2 : Buf.lead 10 b < b.length)
    (h3 : ¬ ((0 < Buf.lead 10 b ∧ (b.getD (Buf.lead 10 b) 0).toNat = 0) ∨ (Buf.lead 10 b = 9 ∧ 1 < (b.getD (Buf.lead 10 b) 0).toNat))) :
    Calls Try.prog 71 #[.pointer (some ⟨p, 0, none⟩)] w fun r w' => r = .returned (.int .u64 ((Buf.num7 (b.take (Buf.lead 10 b + 1)) : Nat) : Int)) ∧ Rd w' N p (b.drop (Buf.lead 10 b + 1), 0) ∧ Kept w.heap.size [p] w w' := by
  have HL := hide (length_ok N p b w h h1 h2)
  have HM := hide (Buf.num7_top b (Buf.lead 10 b) h2 (by omega) (Buf.lead_stop 10 b h1 h2) (fun e => by omega))
  obtain ⟨A, c, hc0, hc1, hlc, hcm, hb, hset⟩ := h.open0
  obtain ⟨d, hD, hd⟩ := Dig.mk_ hb
  rw [← hd] at h3
  generalize Buf.lead 10 b = L at *
  have HT := hide (show ∀ n : Int, n = ((L + 1 : Nat) : Int) → Calls Try.prog 82 #[.pointer (some ⟨p, 0, none⟩), .int .i64 n] w fun r w' => ∃ A c, r = .returned (.slice A (L + 1) c) ∧ L + 1 ≤ c ∧ Bytes w' A (b.take (L + 1)) ∧ Rd w' N p (b.drop (L + 1), 0) ∧ Kept w.heap.size [p] w w' from fun n hn => by
    subst hn; exact take_ok N p b (L + 1) w h (by omega))
  obtain ⟨bb, o, hA, hcell⟩ := hD.cell L h2
  subst hA
  have hu := hD.lt L
  have hdt : ∀ k, k < L + 1 → d k = ((b.take (L + 1)).getD k 0).toNat := fun k hk => by rw [hd, List.getD_eq_getElem?_getD, List.getD_eq_getElem?_getD, List.getElem?_take_of_lt hk]
  have hcell' : ∀ (w1 : World) (A1 : Option Addr), Bytes w1 A1 (b.take (L + 1)) → ∀ k, k < L + 1 → ∃ b1 o1, A1 = some ⟨b1, o1, none⟩ ∧ w1.cell? ⟨b1, o1 + k, none⟩ = some (.int .u8 ((d k : Nat) : Int)) := fun w1 A1 hB k hk => by
    rw [hdt k hk]; exact hB.get k (by rw [List.length_take]; omega)
  have HC := hide hcell'
  have HS : Hid (∀ k, k < L + 1 → bits .or .u64 ((Buf.num7 (b.take k) : Nat) : Int) (IntKind.u64.wrap (((d k % 128 : Nat) : Int) * 2 ^ (7 * k))) = ((Buf.num7 (b.take (k + 1)) : Nat) : Int)) := fun k hk =>
    num7_step b d hd k (by omega) (by
      have := num7_mono (b.take (L + 1)) (k + 1)
      rw [List.take_take, show min (k + 1) (L + 1) = k + 1 by omega] at this
      exact Nat.lt_of_le_of_lt this HM.out)
  have HN := hide (fun k (_ : k < L + 1) => andnot128 (d k) (hD.lt k))
  have hlt8 := hD.lt
  clear hset hcell' hdt hd
  have e1 : IntKind.i64.wrap (((L + 1 : Nat) : Int) - 1) = (L : Int) := by rw [IntWalk.i64_in _ (by omega)]; omega
  have hcase : L = 0 ∨ (0 < L ∧ L < 9 ∧ 0 < d L) ∨ (L = 9 ∧ 0 < d L ∧ d L ≤ 1) := by omega
  clear h3
  have hz : (L ≤ 0 ∧ (((L : Nat) : Int) + 1 == 10) = false) ∨ (1 ≤ L ∧ (((d L : Nat) : Int) == 0) = false ∧ (((L : Nat) : Int) + 1 == 10) = false) ∨ (1 ≤ L ∧ (((d L : Nat) : Int) == 0) = false ∧ (((L : Nat) : Int) + 1 == 10) = true ∧ decide (1 < ((d L : Nat) : Int)) = false) := by
    rcases hcase with h | h | h
    · exact .inl ⟨by omega, by simp; omega⟩
    · exact .inr (.inl ⟨h.1, by simp; omega, by simp; omega⟩)
    · exact .inr (.inr ⟨by omega, by simp; omega, by simp; omega, by simp; omega⟩)
  clear hcase
  rcases hz with ⟨g1, g4⟩ | ⟨g1, g2, g4⟩ | ⟨g1, g2, g4, g3⟩
  all_goals
    go_enter Try.func71, Try.ntmps71
    go_wp2_with fail
    refine (fine_any p 0 _ hc0).mono ?_
    rintro r w' ⟨rfl, rfl⟩
    go_wp2_with fail
    refine HL.out.mono ?_
    rintro r w' ⟨rfl, rfl⟩
    go_wp2_with fail
  all_goals
    refine (HT.out _ (by omega)).mono ?_
    rintro r w1 ⟨A1, c1, rfl, hc1, hb1, hr1, hk1⟩
    go_wp2
    go_loop [5, 55] (fun x i => ∃ k : Nat, k ≤ L + 1 ∧ i = .int .i64 k ∧ x = .int .u64 (Buf.num7 (b.take k))) (fun _ i => L + 1 - (intOf i).toNat)
    case atStart => exact ⟨0, by omega, rfl, rfl⟩
    case round =>
      obtain ⟨k, hk, rfl, rfl⟩ := hrel
      by_cases hlt : k < L + 1
      · obtain ⟨b1, o1, hA1, hcl⟩ := HC.out w1 A1 hb1 k hlt
        subst hA1
        have hs := HS.out k hlt
        rw [show ((d k % 128 : Nat) : Int) = ((d k : Nat) : Int) % 128 by omega] at hs
        have HX := hide hs
        clear hs
        have hn := HN.out k hlt
        have hu := hlt8 k
        go_wp2
        go_round
        case rel => exact ⟨k + 1, by omega, by go_num, by rw [HX.out]⟩
        case measure => simp [intOf]; omega
      · obtain rfl : k = L + 1 := by omega
        go_wp2
        go_ret
        exact ⟨rfl, hr1, hk1⟩
def rnum (s : List UInt8 × Int) : Nat × List UInt8 × Int := Buf.rget 0 Buf.getNum s
/-- a number in sevens, in all states -/
theorem rnum_any (N p : Nat) (s : List UInt8 × Int) (w : World) (h : Rd w N p s) :
    Calls Try.prog 71 #[.pointer (some ⟨p, 0, none⟩)] w fun r w' => r = .returned (.int .u64 ((rnum s).1 : Nat)) ∧ Rd w' N p (rnum s).2 ∧ Kept w.heap.size [p] w w' := by
  obtain ⟨b, e⟩ := s
  by_cases he : e = 0
  · subst he
    have er : rnum (b, 0) = Buf.getNum b := rfl
    rw [er]
    unfold Buf.getNum
    by_cases h1 : Buf.lead 10 b = 10
    · rw [if_pos h1]
      exact rnum_none N p b 5 w h (length_form N p b w h h1)
    · rw [if_neg h1]
      have hle := Buf.lead_le 10 b
      have hll := Buf.lead_len 10 b
      by_cases h2 : Buf.lead 10 b = b.length
      · rw [if_pos h2]
        exact rnum_none N p b 3 w h (length_short N p b w h (by omega) h2)
      · rw [if_neg h2]
        by_cases h3 : (0 < Buf.lead 10 b ∧ (b.getD (Buf.lead 10 b) 0).toNat = 0) ∨ (Buf.lead 10 b = 9 ∧ 1 < (b.getD (Buf.lead 10 b) 0).toNat)
        · rw [if_pos h3]
          exact rnum_form N p b w h (by omega) (by omega) h3
        · rw [if_neg h3]
          exact rnum_ok N p b w h (by omega) (by omega) h3
  · refine (rnum_bad N p b e w h (by simpa using he)).mono ?_
    rintro r w' ⟨rfl, rfl⟩
    have er : rnum (b, e) = (0, b, e) := by simp [rnum, Buf.rget, he]
    rw [er]
    exact ⟨rfl, h, Kept.refl _ _ _⟩
end Go.Proofs.Ytbccbfmgjeknhaa
namespace Go.Proofs.Ytbccbfmgjeknhaa
open Go.RowKit
theorem rget_bad {α : Type} (z : α) (f : List UInt8 → α × List UInt8 × Int) (s : List UInt8 × Int) (h : s.2 ≠ 0) : Buf.rget z f s = (z, s) := by unfold Buf.rget; rw [if_neg h]
def rbyte (s : List UInt8 × Int) : Nat × List UInt8 × Int := rfix 1 s
theorem err_any (N p : Nat) (s : List UInt8 × Int) (w : World) (h : Rd w N p s) :
    Calls Try.prog 72 #[.pointer (some ⟨p, 0, none⟩)] w fun r w' => r = .returned (.int .i64 s.2) ∧ w = w' := by
  have hc0 := h.c0
  go_enter Try.func72, Try.ntmps72
  go_wp2
  go_ret
  exact ⟨rfl, rfl⟩
/-- what is wrong at the end -/
def rend (s : List UInt8 × Int) : Int := if s.2 = 0 ∧ s.1 ≠ [] then 5 else s.2
theorem end_any (N p : Nat) (s : List UInt8 × Int) (w : World) (h : Rd w N p s) :
    Calls Try.prog 50 #[.pointer (some ⟨p, 0, none⟩)] w fun r w' => r = .returned (.int .i64 (rend s)) ∧ w = w' := by
  obtain ⟨b, e⟩ := s
  by_cases he : e = 0
  · subst he
    have HE := hide (err_any N p (b, 0) w h)
    obtain ⟨A, c, hc0, hc1, hlc, hcm, hb, hset⟩ := h.open0
    by_cases hl : 0 < b.length
    · have HR := hide (show rend (b, 0) = 5 by unfold rend; rw [if_pos ⟨rfl, by rintro rfl; simp at hl⟩])
      go_enter Try.func50, Try.ntmps50
      go_wp2_with fail
      refine (fine_any p 0 _ hc0).mono ?_
      rintro r w' ⟨rfl, rfl⟩
      go_wp2
      go_ret
      exact ⟨by rw [HR.out]; rfl, rfl⟩
    · obtain rfl : b = [] := List.length_eq_zero_iff.1 (by omega)
      go_enter Try.func50, Try.ntmps50
      go_wp2_with fail
      refine (fine_any p 0 _ hc0).mono ?_
      rintro r w' ⟨rfl, rfl⟩
      go_wp2_with fail
      refine HE.out.mono ?_
      rintro r w' ⟨rfl, rfl⟩
      go_wp2
      go_ret
      exact ⟨rfl, rfl⟩
  · have HE := hide (err_any N p (b, e) w h)
    have hc0 := h.c0
    have HR := hide (show rend (b, e) = e by unfold rend; rw [if_neg (fun h => he h.1)])
    have he' : (e == 0) = false := by simpa using he
    clear he
    go_enter Try.func50, Try.ntmps50
    go_wp2_with fail
    refine (fine_any p e _ hc0).mono ?_
    rintro r w' ⟨rfl, rfl⟩
    go_wp2_with fail
    refine HE.out.mono ?_
    rintro r w' ⟨rfl, rfl⟩
    go_wp2
    go_ret
    exact ⟨by rw [HR.out]; rfl, rfl⟩
theorem rnum_lt (s : List UInt8 × Int) : (rnum s).1 < 18446744073709551616 := by
  unfold rnum Buf.rget
  split
  · exact Buf.getNum_lt _
  · exact Nat.zero_lt_of_lt (show 0 < 18446744073709551616 by omega)
end Go.Proofs.Ytbccbfmgjeknhaa
