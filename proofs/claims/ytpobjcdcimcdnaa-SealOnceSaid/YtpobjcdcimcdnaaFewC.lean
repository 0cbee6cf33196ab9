/- Walks and plain lemmas that several statements share. -/
import Derived.Test.YtpobjcdcimcdnaaRows
import Derived.Test.YtpobjcdcimcdnaaTool
import Derived.Test.YtpobjcdcimcdnaaPk
import Derived.Test.YtpobjcdcimcdnaaFrm
namespace Crc
def poly : Nat := 3988292384
/-- one step: a sum is halved -/
def st (x : Nat) : Nat := if x % 2 = 1 then (x / 2) ^^^ poly else x / 2
/-- k steps -/
def sts : Nat → Nat → Nat
  | 0, x => x
  | k + 1, x => sts k (st x)
/-- the documents step -/
def rstep (s b : Nat) : Nat := if s % 2 ≠ b then (s / 2) ^^^ poly else s / 2
/-- k bits of c fed -/
def feed : Nat → Nat → Nat → Nat
  | 0, s, _ => s
  | k + 1, s, c => feed k (rstep s (c % 2)) (c / 2)
theorem xor_mod_two (a b : Nat) : (a ^^^ b) % 2 = (a + b) % 2 := by
  have h := Nat.testBit_xor a b 0
  rw [Nat.testBit_zero, Nat.testBit_zero, Nat.testBit_zero] at h
  have hx := Nat.mod_two_eq_zero_or_one (a ^^^ b)
  rcases Nat.mod_two_eq_zero_or_one a with ha | ha <;> rcases Nat.mod_two_eq_zero_or_one b with hb | hb <;> rcases hx with hx | hx <;> simp [ha, hb, hx] at h <;> omega
theorem xor_div_two (a b : Nat) : (a ^^^ b) / 2 = a / 2 ^^^ b / 2 := by
  have := Nat.xor_div_two_pow (a := a) (b := b) (n := 1)
  simpa using this
theorem xor_cancel (a b : Nat) : a ^^^ b ^^^ b = a := by rw [Nat.xor_assoc, Nat.xor_self, Nat.xor_zero]
theorem st_xor (a b : Nat) : st (a ^^^ b) = st a ^^^ st b := by
  unfold st
  rw [xor_mod_two, xor_div_two]
  rcases Nat.mod_two_eq_zero_or_one a with ha | ha <;> rcases Nat.mod_two_eq_zero_or_one b with hb | hb
  · rw [if_neg (by omega), if_neg (by omega), if_neg (by omega)]
  · rw [if_pos (by omega), if_neg (by omega), if_pos (by omega), Nat.xor_assoc]
  · rw [if_pos (by omega), if_pos (by omega), if_neg (by omega), Nat.xor_assoc, Nat.xor_assoc, Nat.xor_comm poly]
  · rw [if_neg (by omega), if_pos (by omega), if_pos (by omega)]
    rw [show a / 2 ^^^ poly ^^^ (b / 2 ^^^ poly) = a / 2 ^^^ b / 2 ^^^ (poly ^^^ poly) by ac_rfl, Nat.xor_self, Nat.xor_zero]
theorem sts_xor (k : Nat) : ∀ a b, sts k (a ^^^ b) = sts k a ^^^ sts k b := by
  induction k with
  | zero => intro a b; rfl
  | succ k ih => intro a b; simp only [sts]; rw [st_xor, ih]
theorem st_double (y : Nat) : st (2 * y) = y := by unfold st; rw [if_neg (by omega)]; omega
theorem sts_add (j : Nat) : ∀ k x, sts (j + k) x = sts k (sts j x) := by
  induction j with
  | zero => intro k x; simp [sts]
  | succ j ih => intro k x; rw [show j + 1 + k = (j + k) + 1 by omega]; simp only [sts]; rw [ih]
theorem sts_shift (k y : Nat) : sts k (2 ^ k * y) = y := by
  induction k generalizing y with
  | zero => simp [sts]
  | succ k ih => simp only [sts]; rw [show 2 ^ (k + 1) * y = 2 * (2 ^ k * y) by rw [Nat.pow_succ]; ac_rfl, st_double, ih]
theorem split_bit (c : Nat) : c = c % 2 ^^^ 2 * (c / 2) := by
  apply Nat.eq_of_testBit_eq
  intro i
  rw [Nat.testBit_xor]
  cases i with
  | zero => simp [Nat.testBit_zero]
  | succ i =>
    rw [Nat.testBit_succ, Nat.testBit_succ, Nat.testBit_succ]
    rw [show c % 2 / 2 = 0 by omega, show 2 * (c / 2) / 2 = c / 2 by omega]
    simp
theorem rstep_st (s b : Nat) (hb : b < 2) : rstep s b = st (s ^^^ b) := by
  unfold rstep st
  rw [xor_mod_two, xor_div_two, show b / 2 = 0 by omega, Nat.xor_zero]
  by_cases h : s % 2 = b
  · rw [if_neg (by omega), if_neg (by omega)]
  · rw [if_pos h, if_pos (by omega)]
theorem feed_sts (k : Nat) : ∀ s c, feed k s c = sts k (s ^^^ c) ^^^ c / 2 ^ k := by
  induction k with
  | zero => intro s c; simp [feed, sts, xor_cancel]
  | succ k ih =>
    intro s c
    simp only [feed, sts]
    rw [ih, rstep_st _ _ (by omega)]
    have h1 : st (s ^^^ c % 2) ^^^ c / 2 = st (s ^^^ c) := by
      conv => rhs; rw [split_bit c, ← Nat.xor_assoc, st_xor, st_double]
    rw [h1, Nat.div_div_eq_div_mul, Nat.pow_succ, Nat.mul_comm 2]
theorem feed_lt (k s c : Nat) (h : c < 2 ^ k) : feed k s c = sts k (s ^^^ c) := by
  rw [feed_sts, Nat.div_eq_of_lt h, Nat.xor_zero]
theorem st_lt (x : Nat) (h : x < 2 ^ 32) : st x < 2 ^ 32 := by
  unfold st
  split
  · exact Nat.xor_lt_two_pow (by omega) (by decide)
  · omega
theorem sts_lt (k : Nat) : ∀ x, x < 2 ^ 32 → sts k x < 2 ^ 32 := by
  induction k with
  | zero => intro x h; exact h
  | succ k ih => intro x h; exact ih _ (st_lt x h)
theorem st_ne (x : Nat) (h : x < 2 ^ 32) (h0 : x ≠ 0) : st x ≠ 0 := by
  unfold st
  split
  · intro e
    have : x / 2 = poly := by
      have := congrArg (· ^^^ poly) e
      simpa [xor_cancel] using this
    unfold poly at this
    omega
  · omega
theorem sts_ne (k : Nat) : ∀ x, x < 2 ^ 32 → x ≠ 0 → sts k x ≠ 0 := by
  induction k with
  | zero => intro x _ h; exact h
  | succ k ih => intro x h h0; exact ih _ (st_lt x h) (st_ne x h h0)
/-- the programs byte -/
theorem byte_step (s c : Nat) (hc : c < 256) : feed 8 s c = s / 256 ^^^ sts 8 ((s ^^^ c) % 256) := by
  rw [feed_lt 8 s c hc]
  have h : s ^^^ c = 2 ^ 8 * (s / 256) ^^^ (s ^^^ c) % 256 := by
    apply Nat.eq_of_testBit_eq
    intro i
    rw [show (256 : Nat) = 2 ^ 8 by rfl, Nat.testBit_xor, Nat.testBit_xor, Nat.testBit_mod_two_pow, Nat.testBit_xor, Nat.mul_comm, ← Nat.shiftLeft_eq, Nat.testBit_shiftLeft, ← Nat.shiftRight_eq_div_pow, Nat.testBit_shiftRight]
    by_cases hi : i < 8
    · simp [hi, show ¬ (8 ≤ i) by omega]
    · have hcb : c.testBit i = false := by
        apply Nat.testBit_lt_two_pow
        exact Nat.lt_of_lt_of_le hc (show 2 ^ 8 ≤ 2 ^ i from Nat.pow_le_pow_right (by omega) (by omega))
      simp [hi, show 8 ≤ i by omega, hcb]
  conv => lhs; rw [h, sts_xor, sts_shift]

/-- a message's bits as one number, the first bit the lowest -/
def num : List UInt8 → Nat
  | [] => 0
  | c :: l => c.toNat ^^^ 2 ^ 8 * num l
/-- the documents more -/
def more (s : Nat) (l : List UInt8) : Nat := l.foldl (fun s c => feed 8 s c.toNat) s
theorem more_nil (s : Nat) : more s [] = s := rfl
theorem more_append (s : Nat) (a b : List UInt8) : more s (a ++ b) = more (more s a) b := by simp [more, List.foldl_append]
theorem more_num (l : List UInt8) : ∀ s, more s l = sts (8 * l.length) (s ^^^ num l) := by
  induction l with
  | nil => intro s; simp [more, num, sts]
  | cons c l ih =>
    intro s
    show more (feed 8 s c.toNat) l = _
    rw [ih, feed_lt 8 s c.toNat (show c.toNat < 256 from c.toNat_lt), List.length_cons, show 8 * (l.length + 1) = 8 + 8 * l.length by omega, sts_add]
    congr 1
    simp only [num]
    rw [← Nat.xor_assoc, sts_xor 8 _ (2 ^ 8 * num l), sts_shift]
theorem more_lt (l : List UInt8) : ∀ s, s < 2 ^ 32 → more s l < 2 ^ 32 := by
  induction l with
  | nil => intro s h; exact h
  | cons c l ih =>
    intro s h
    refine ih _ ?_
    show feed 8 s c.toNat < 2 ^ 32
    rw [feed_lt 8 s c.toNat (show c.toNat < 256 from c.toNat_lt)]
    exact sts_lt _ _ (Nat.xor_lt_two_pow h (Nat.lt_trans (show c.toNat < 256 from c.toNat_lt) (by decide)))
def ones : Nat := 4294967295
/-- the sum of bytes -/
def sum (l : List UInt8) : Nat := ones - more ones l
theorem ones_sub (x : Nat) (h : x < 2 ^ 32) : ones - x = x ^^^ ones := by
  unfold ones
  apply Nat.eq_of_testBit_eq
  intro i
  rw [Nat.testBit_xor]
  have h1 := Nat.testBit_two_pow_sub_succ (x := x) (n := 32) h i
  have h2 : (4294967295 : Nat).testBit i = decide (i < 32) := Nat.testBit_two_pow_sub_one 32 i
  rw [show 4294967295 - x = 2 ^ 32 - (x + 1) by omega, h1, h2]
  by_cases hi : i < 32
  · simp [hi]
  · have hx : x.testBit i = false := Nat.testBit_lt_two_pow (Nat.lt_of_lt_of_le h (Nat.pow_le_pow_right (by omega) (by omega)))
    simp [hi, hx]
theorem ones_lt : ones < 2 ^ 32 := by decide
theorem sum_lt (l : List UInt8) : sum l < 2 ^ 32 := by unfold sum; have := ones_lt; omega
theorem sum_xor (l : List UInt8) : sum l = more ones l ^^^ ones := ones_sub _ (more_lt _ _ ones_lt)
theorem xor_eq_zero {a b : Nat} (h : a ^^^ b = 0) : a = b := by
  have := congrArg (· ^^^ b) h
  simpa [xor_cancel] using this
theorem sts_inj (k a b : Nat) (ha : a < 2 ^ 32) (hb : b < 2 ^ 32) (h : sts k a = sts k b) : a = b := by
  apply xor_eq_zero
  apply Decidable.byContradiction
  intro hne
  refine sts_ne k _ (Nat.xor_lt_two_pow ha hb) hne ?_
  rw [sts_xor, h, Nat.xor_self]
theorem num_lt (l : List UInt8) : num l < 2 ^ (8 * l.length) := by
  induction l with
  | nil => simp [num]
  | cons c l ih =>
    simp only [num, List.length_cons]
    have hc : c.toNat < 2 ^ (8 * (l.length + 1)) := Nat.lt_of_lt_of_le (show c.toNat < 2 ^ 8 from c.toNat_lt) (Nat.pow_le_pow_right (by omega) (by omega))
    refine Nat.xor_lt_two_pow hc ?_
    rw [show 8 * (l.length + 1) = 8 + 8 * l.length by omega, Nat.pow_add]
    exact Nat.mul_lt_mul_of_pos_left ih (by decide)
theorem xor_add (c x : Nat) (hc : c < 256) : c ^^^ 2 ^ 8 * x = c + 256 * x := by
  have h := Nat.two_pow_add_eq_or_of_lt (b := c) (i := 8) hc x
  rw [Nat.add_comm, show 256 = 2 ^ 8 by rfl, h]
  apply Nat.eq_of_testBit_eq
  intro i
  rw [Nat.testBit_xor, Nat.testBit_or, Nat.mul_comm, ← Nat.shiftLeft_eq, Nat.testBit_shiftLeft]
  by_cases hi : i < 8
  · simp [show ¬ (8 ≤ i) by omega]
  · have hcb : c.testBit i = false := by
      apply Nat.testBit_lt_two_pow
      exact Nat.lt_of_lt_of_le hc (show 2 ^ 8 ≤ 2 ^ i from Nat.pow_le_pow_right (by omega) (by omega))
    simp [hcb]
theorem num_inj : ∀ (a b : List UInt8), a.length = b.length → num a = num b → a = b
  | [], [], _, _ => rfl
  | x :: a, y :: b, hl, h => by
    simp only [num] at h
    rw [xor_add _ _ x.toNat_lt, xor_add _ _ y.toNat_lt] at h
    have hx := x.toNat_lt
    have hy := y.toNat_lt
    have e1 : x.toNat = y.toNat := by omega
    have e2 : num a = num b := by omega
    rw [UInt8.toNat_inj.1 e1, num_inj a b (by simpa using hl) e2]
/-- a number as four bytes, the lowest first -/
def le4 (s : Nat) : List UInt8 := [UInt8.ofNat s, UInt8.ofNat (s / 256), UInt8.ofNat (s / 65536), UInt8.ofNat (s / 16777216)]
theorem num_le4 (s : Nat) (h : s < 2 ^ 32) : num (le4 s) = s := by
  have e : ∀ x : Nat, (UInt8.ofNat x).toNat = x % 256 := fun x => by simp
  simp only [num, le4]
  rw [xor_add _ _ (UInt8.toNat_lt _), xor_add _ _ (UInt8.toNat_lt _), xor_add _ _ (UInt8.toNat_lt _), xor_add _ _ (UInt8.toNat_lt _), e, e, e, e]
  omega
def seal_ (l : List UInt8) : List UInt8 := l ++ le4 (sum l)
def good (l : List UInt8) : Bool := decide (4 ≤ l.length) && (l.drop (l.length - 4) == le4 (sum (l.take (l.length - 4))))
theorem good_seal (l : List UInt8) : good (seal_ l) = true := by
  simp [good, seal_, le4]
theorem good_iff (l : List UInt8) (h : 4 ≤ l.length) : good l = true ↔ more ones l = sts 32 ones := by
  have hsplit := (List.take_append_drop (l.length - 4) l).symm
  have hv : (l.drop (l.length - 4)).length = 4 := by rw [List.length_drop]; omega
  have hg : good l = true ↔ l.drop (l.length - 4) = le4 (sum (l.take (l.length - 4))) := by simp [good, h]
  rw [hg]
  have hu := more_lt (l.take (l.length - 4)) ones ones_lt
  have hm : more ones l = sts 32 (more ones (l.take (l.length - 4)) ^^^ num (l.drop (l.length - 4))) := by
    conv => lhs; rw [hsplit, more_append, more_num (l.drop _), hv]
  rw [hm]
  constructor
  · intro e
    rw [e, num_le4 _ (sum_lt _), sum_xor, ← Nat.xor_assoc, Nat.xor_self, Nat.zero_xor]
  · intro e
    have hvl : num (l.drop (l.length - 4)) < 2 ^ 32 := by have := num_lt (l.drop (l.length - 4)); rw [hv] at this; exact this
    have h1 := sts_inj 32 _ _ (Nat.xor_lt_two_pow hu hvl) ones_lt e
    apply num_inj
    · rw [hv]; rfl
    rw [num_le4 _ (sum_lt _), sum_xor]
    have h2 := congrArg (more ones (l.take (l.length - 4)) ^^^ ·) h1
    simp only [← Nat.xor_assoc, Nat.xor_self, Nat.zero_xor] at h2
    exact h2
/-- bit i of bytes is turned -/
def flip (l : List UInt8) (i : Nat) : List UInt8 := l.set (i / 8) (UInt8.ofNat ((l.getD (i / 8) 0).toNat ^^^ 2 ^ (i % 8)))
theorem flip_length (l : List UInt8) (i : Nat) : (flip l i).length = l.length := by simp [flip]
theorem num_flip (l : List UInt8) : ∀ i, i / 8 < l.length → num (flip l i) = num l ^^^ 2 ^ i := by
  induction l with
  | nil => intro i h; simp at h
  | cons c l ih =>
    intro i h
    by_cases h0 : i / 8 = 0
    · have hi : i % 8 = i := by omega
      have hx : c.toNat ^^^ 2 ^ i < 256 := Nat.xor_lt_two_pow (n := 8) c.toNat_lt (Nat.pow_lt_pow_right (by omega) (by omega))
      simp only [flip, h0, List.set_cons_zero, List.getD_cons_zero, hi, num]
      rw [show (UInt8.ofNat (c.toNat ^^^ 2 ^ i)).toNat = c.toNat ^^^ 2 ^ i by rw [UInt8.toNat_ofNat']; exact Nat.mod_eq_of_lt hx]
      ac_rfl
    · have h1 : i / 8 = (i - 8) / 8 + 1 := by omega
      have h2 : (i - 8) % 8 = i % 8 := by omega
      have h3 := ih (i - 8) (by simp only [List.length_cons] at h; omega)
      unfold flip at h3
      rw [h2] at h3
      simp only [flip, h1, List.set_cons_succ, List.getD_cons_succ, num]
      rw [h3, show 2 ^ i = 2 ^ 8 * 2 ^ (i - 8) by rw [← Nat.pow_add]; congr 1; omega]
      have hd : ∀ a b : Nat, 2 ^ 8 * (a ^^^ b) = 2 ^ 8 * a ^^^ 2 ^ 8 * b := by
        intro a b
        rw [Nat.mul_comm, Nat.mul_comm (2 ^ 8) a, Nat.mul_comm (2 ^ 8) b, ← Nat.shiftLeft_eq, ← Nat.shiftLeft_eq, ← Nat.shiftLeft_eq, Nat.shiftLeft_xor_distrib]
      rw [hd, Nat.xor_assoc]
/-- the k first of 32 bits turned -/
def turn (l : List UInt8) (pos bits : Nat) : Nat → List UInt8
  | 0 => l
  | k + 1 => if bits / 2 ^ k % 2 = 1 ∧ (pos + k) / 8 < l.length then flip (turn l pos bits k) (pos + k) else turn l pos bits k
theorem turn_length (l : List UInt8) (pos bits : Nat) : ∀ k, (turn l pos bits k).length = l.length
  | 0 => rfl
  | k + 1 => by
    unfold turn
    split
    · rw [flip_length, turn_length l pos bits k]
    · exact turn_length l pos bits k
theorem turn_num (l : List UInt8) (pos bits : Nat) : ∀ k, ∃ p, p < 2 ^ k ∧ num (turn l pos bits k) = num l ^^^ 2 ^ pos * p ∧ (p ≠ 0 → pos < 8 * l.length)
  | 0 => ⟨0, by decide, by simp [turn], fun h => absurd rfl h⟩
  | k + 1 => by
    obtain ⟨p, hp, hn, hl⟩ := turn_num l pos bits k
    have hlt : 2 ^ k < 2 ^ (k + 1) := Nat.pow_lt_pow_right (by omega) (by omega)
    unfold turn
    split
    · next h =>
      refine ⟨p ^^^ 2 ^ k, Nat.xor_lt_two_pow (by omega) hlt, ?_, fun _ => by omega⟩
      rw [num_flip _ _ (by rw [turn_length]; exact h.2), hn, Nat.pow_add, Nat.xor_assoc]
      congr 1
      rw [Nat.mul_comm (2 ^ pos) (p ^^^ 2 ^ k), Nat.mul_comm (2 ^ pos) p, Nat.mul_comm (2 ^ pos) (2 ^ k), ← Nat.shiftLeft_eq, ← Nat.shiftLeft_eq, ← Nat.shiftLeft_eq, Nat.shiftLeft_xor_distrib]
    · exact ⟨p, by omega, hn, hl⟩
/-- P4.4: a burst is found -/
theorem burst (l : List UInt8) (h : 4 ≤ l.length) (hg : good l = true) (pos bits : Nat) : good (turn l pos bits 32) = decide (turn l pos bits 32 = l) := by
  obtain ⟨p, hp, hn, hl⟩ := turn_num l pos bits 32
  have hlen := turn_length l pos bits 32
  by_cases hp0 : p = 0
  · have e : turn l pos bits 32 = l := num_inj _ _ hlen (by rw [hn, hp0, Nat.mul_zero, Nat.xor_zero])
    rw [e, hg]; simp
  · have hpos := hl hp0
    have hne : turn l pos bits 32 ≠ l := by
      intro e
      rw [e] at hn
      have h0 := congrArg (num l ^^^ ·) hn
      simp only [Nat.xor_self, ← Nat.xor_assoc, Nat.zero_xor] at h0
      have : 0 < 2 ^ pos * p := Nat.mul_pos (Nat.two_pow_pos _) (by omega)
      omega
    rw [decide_eq_false hne]
    apply Bool.eq_false_iff.2
    intro ht
    rw [good_iff _ (by omega)] at ht
    rw [good_iff _ h] at hg
    rw [more_num, hlen, hn, ← Nat.xor_assoc, sts_xor, ← more_num, hg] at ht
    have h0 := congrArg (sts 32 ones ^^^ ·) ht
    simp only [Nat.xor_self, ← Nat.xor_assoc, Nat.zero_xor] at h0
    rw [show 8 * l.length = pos + (8 * l.length - pos) by omega, sts_add, sts_shift] at h0
    exact sts_ne _ p hp hp0 h0
theorem more_of_sum (a b : List UInt8) : ones - more (ones - sum a) b = sum (a ++ b) := by
  have h := more_lt a ones ones_lt
  unfold sum
  rw [more_append, show ones - (ones - more ones a) = more ones a by have := ones_lt; unfold ones at *; omega]
theorem feed_snoc (k : Nat) : ∀ s c, feed (k + 1) s c = rstep (feed k s c) (c / 2 ^ k % 2) := by
  induction k with
  | zero => intro s c; simp [feed]
  | succ k ih =>
    intro s c
    show feed (k + 1) (rstep s (c % 2)) (c / 2) = _
    rw [ih, Nat.div_div_eq_div_mul, Nat.pow_succ, Nat.mul_comm 2]
    rfl
theorem rstep_lt (s b : Nat) (h : s < 4294967296) : rstep s b < 4294967296 := by
  unfold rstep
  split
  · exact Nat.xor_lt_two_pow (n := 32) (by omega) (by decide)
  · omega
theorem feed_bound (k : Nat) : ∀ s c, s < 4294967296 → feed k s c < 4294967296 := by
  induction k with
  | zero => intro s c h; exact h
  | succ k ih => intro s c h; exact ih _ _ (rstep_lt _ _ h)
theorem div_pow_succ (c k : Nat) : c / 2 ^ (k + 1) = c / 2 ^ k / 2 := by rw [Nat.div_div_eq_div_mul, Nat.pow_succ]
theorem more_snoc (s : Nat) (l : List UInt8) (c : UInt8) : more s (l ++ [c]) = feed 8 (more s l) c.toNat := by rw [more_append]; rfl
theorem le4_take (s k : Nat) (h : k < 4) : (le4 s).take (k + 1) = (le4 s).take k ++ [UInt8.ofNat (s / 256 ^ k)] := by
  match k, h with
  | 0, _ => simp [le4]
  | 1, _ => simp [le4]
  | 2, _ => simp [le4]
  | 3, _ => simp [le4]
theorem le4_len (s : Nat) : (le4 s).length = 4 := rfl
theorem div_256_succ (s k : Nat) : s / 256 ^ (k + 1) = s / 256 ^ k / 256 := by rw [Nat.div_div_eq_div_mul, Nat.pow_succ]
theorem ofNat_mod (x : Nat) : UInt8.ofNat (x % 256) = UInt8.ofNat x := by
  apply UInt8.toNat_inj.1
  simp
theorem good_eq (l : List UInt8) (h : 4 ≤ l.length) : good l = (seal_ (l.take (l.length - 4)) == l) := by
  unfold good seal_
  rw [decide_eq_true h, Bool.true_and, Bool.eq_iff_iff, beq_iff_eq, beq_iff_eq]
  constructor
  · intro e
    rw [← e, List.take_append_drop]
  · intro e
    have := congrArg (List.drop (l.length - 4)) e
    rw [List.drop_left' (by rw [List.length_take]; omega)] at this
    exact this.symm
theorem le4_get (s k : Nat) (h : k < 4) : (le4 s)[k]'(by rw [le4_len]; exact h) = UInt8.ofNat (s / 256 ^ k) := by
  match k, h with
  | 0, _ => simp [le4]
  | 1, _ => simp [le4]
  | 2, _ => simp [le4]
  | 3, _ => simp [le4]
/-- the last four bytes are compared one by one -/
theorem good_no (l : List UInt8) (m k : Nat) (hm : l.length = m + 4) (hk : k < 4) (h : (l[m + k]'(by omega)).toNat ≠ sum (l.take m) / 256 ^ k % 256) : good l = false := by
  unfold good
  rw [show l.length - 4 = m by omega]
  apply Bool.eq_false_iff.2
  intro e
  rw [Bool.and_eq_true, beq_iff_eq] at e
  apply h
  have e2 := congrArg (·[k]?) e.2
  simp only [List.getElem?_drop] at e2
  rw [List.getElem?_eq_getElem (by omega), List.getElem?_eq_getElem (by rw [le4_len]; exact hk), le4_get _ _ hk] at e2
  injection e2 with e2
  rw [e2, UInt8.toNat_ofNat']
theorem good_yes (l : List UInt8) (m : Nat) (hm : l.length = m + 4) (h : ∀ k (hk : k < 4), (l[m + k]'(by omega)).toNat = sum (l.take m) / 256 ^ k % 256) : good l = true := by
  unfold good
  rw [show l.length - 4 = m by omega, decide_eq_true (by omega), Bool.true_and, beq_iff_eq]
  apply List.ext_getElem
  · rw [List.length_drop, le4_len]; omega
  · intro k h1 h2
    rw [le4_len] at h2
    rw [List.getElem_drop, le4_get _ _ h2]
    apply UInt8.toNat_inj.1
    rw [h k h2, UInt8.toNat_ofNat']
theorem good_no' (l : List UInt8) (d : Nat → UInt8) (m k : Nat) (hm : l.length = m + 4) (hd : ∀ k, d k = l.getD (m + k) 0) (hk : k < 4) (h : (d k).toNat ≠ sum (l.take m) / 256 ^ k % 256) : good l = false := by
  refine good_no l m k hm hk ?_
  rw [hd k, List.getD_eq_getElem?_getD, List.getElem?_eq_getElem (by omega)] at h
  exact h
theorem good_yes' (l : List UInt8) (d : Nat → UInt8) (m : Nat) (hm : l.length = m + 4) (hd : ∀ k, d k = l.getD (m + k) 0) (h : ∀ k, k < 4 → (d k).toNat = sum (l.take m) / 256 ^ k % 256) : good l = true := by
  refine good_yes l m hm fun k hk => ?_
  have := h k hk
  rw [hd k, List.getD_eq_getElem?_getD, List.getElem?_eq_getElem (by omega)] at this
  exact this
theorem sum_nil : sum [] = 0 := by unfold sum; rw [more_nil, Nat.sub_self]
theorem sum_lt' (l : List UInt8) : sum l < 4294967296 := by have := sum_lt l; omega
theorem more_lt' (l : List UInt8) (s : Nat) (h : s < 4294967296) : more s l < 4294967296 := by have := more_lt l s (by omega); omega
theorem sts_lt' (k x : Nat) (h : x < 4294967296) : sts k x < 4294967296 := by have := sts_lt k x (by omega); omega
end Crc

namespace Go.Proofs.Ytpobjcdcimcdnaa
open Go.RowKit
theorem sts_snoc (k x : Nat) : Crc.sts (k + 1) x = Crc.st (Crc.sts k x) := Crc.sts_add k 1 x
theorem u32_and1 (y : Nat) (h : y < 4294967296) : bits .and .u32 (y : Int) 1 = ((y % 2 : Nat) : Int) := by
  have := u32_and_nat y 1 h (by omega)
  rw [nat_mask1] at this
  exact this
theorem st_odd (y : Nat) (h : y < 4294967296) (h1 : (bits .and .u32 (y : Int) 1 == 1) = true) : bits .xor .u32 ((y : Int) / 2) 3988292384 = ((Crc.st y : Nat) : Int) := by
  rw [u32_and1 y h, beq_iff_eq] at h1
  have := u32_xor_nat (y / 2) 3988292384 (by omega) (by omega)
  unfold Crc.st Crc.poly
  rw [if_pos (by omega)]
  exact this
theorem st_even (y : Nat) (h : y < 4294967296) (h1 : (bits .and .u32 (y : Int) 1 == 1) = false) : (y : Int) / 2 = ((Crc.st y : Nat) : Int) := by
  rw [u32_and1 y h, beq_eq_false_iff_ne] at h1
  unfold Crc.st
  rw [if_neg (by omega)]
  rfl
set_option maxHeartbeats 400000 in
theorem halve_any (x : Nat) (w : World) (hx : x < 4294967296) :
    Calls Try.prog 158 #[.int .u32 x] w fun e w' => e = .returned (.int .u32 (Crc.sts 8 x : Nat)) ∧ w = w' := by
  go_enter Try.func158, Try.ntmps158
  go_wp2
  go_loop [0, 3] (fun v i => ∃ k : Nat, k ≤ 8 ∧ i = .int .i64 k ∧ v = .int .u32 (Crc.sts k x : Nat)) (fun _ i => 8 - (intOf i).toNat)
  case atStart => exact ⟨0, by omega, rfl, rfl⟩
  case round =>
    obtain ⟨k, hk, rfl, rfl⟩ := hrel
    have hb := Crc.sts_lt' k x hx
    by_cases hlt : k < 8
    · go_wp2
      · have h1 : (bits .and .u32 (Crc.sts k x : Nat) 1 == 1) = true := by assumption
        go_round
        case rel => exact ⟨k + 1, by omega, by go_num, by rw [sts_snoc, st_odd _ hb h1]⟩
        case measure => simp [intOf]; omega
      · have h1 : (bits .and .u32 (Crc.sts k x : Nat) 1 == 1) = false := by assumption
        go_round
        case rel => exact ⟨k + 1, by omega, by go_num, by rw [sts_snoc, st_even _ hb h1]⟩
        case measure => simp [intOf]; omega
    · obtain rfl : k = 8 := by omega
      go_wp2
      go_ret
      exact ⟨rfl, rfl⟩
theorem not_eq (s : Nat) (hs : s < 4294967296) : bits .xor .u32 IntKind.u32.max (s : Int) = ((Crc.ones - s : Nat) : Int) := by
  rw [Crc.ones_sub s hs, Nat.xor_comm]
  exact u32_xor_nat 4294967295 s (by omega) hs
theorem upd_eq (s : Nat) (c : UInt8) (hs : s < 4294967296) :
    bits .xor .u32 ((s : Int) / 256) ((Crc.sts 8 ((s ^^^ c.toNat) % 256) : Nat) : Int) = ((Crc.feed 8 s c.toNat : Nat) : Int) := by
  have hc := c.toNat_lt
  rw [Crc.byte_step s c.toNat hc]
  exact u32_xor_nat (s / 256) _ (by omega) (Crc.sts_lt' 8 _ (Nat.lt_of_lt_of_le (Nat.mod_lt _ (by omega)) (by omega)))
theorem arg_eq (s : Nat) (c : UInt8) (hs : s < 4294967296) :
    bits .and .u32 (bits .xor .u32 (s : Int) (c.toNat : Int)) 255 = (((s ^^^ c.toNat) % 256 : Nat) : Int) := by
  have hc := c.toNat_lt
  rw [u32_xor_nat s c.toNat hs (by omega)]
  have h1 : s ^^^ c.toNat < 2 ^ 32 := Nat.xor_lt_two_pow (by omega) (by omega)
  have := u32_and_nat (s ^^^ c.toNat) 255 (by omega) (by omega)
  rw [nat_mask8] at this
  exact this
set_option maxHeartbeats 400000 in
theorem more_any (s : Nat) (A : Option Addr) (l : List UInt8) (c : Nat) (w : World) (hs : s < 4294967296) (hl : l.length ≤ 9223372036854775807) (hb : Bytes w A l) :
    Calls Try.prog 156 #[.int .u32 s, .slice A l.length c] w fun e w' => e = .returned (.int .u32 (Crc.ones - Crc.more (Crc.ones - s) l : Nat)) ∧ w = w' := by
  go_enter Try.func156, Try.ntmps156
  go_wp2
  have hn := not_eq s hs
  have HN := hide hn
  clear hn
  rw [HN.out]
  go_loop [5, 12] (fun v i => ∃ k : Nat, k ≤ l.length ∧ i = .int .i64 k ∧ v = .int .u32 (Crc.more (Crc.ones - s) (l.take k) : Nat)) (fun _ i => l.length - (intOf i).toNat)
  case atStart => exact ⟨0, by omega, rfl, rfl⟩
  case round =>
    obtain ⟨k, hk, rfl, rfl⟩ := hrel
    have hm := Crc.more_lt' (l.take k) (Crc.ones - s) (by unfold Crc.ones; omega)
    by_cases hlt : k < l.length
    · obtain ⟨b, o, rfl, hcell⟩ := hb.at_ k hlt
      have hargs := arg_eq (Crc.more (Crc.ones - s) (l.take k)) l[k] hm
      have HA := hide hargs
      have HU := hide (upd_eq (Crc.more (Crc.ones - s) (l.take k)) l[k] hm)
      clear hargs
      have hc := u8_lt l[k]
      have hq : (Crc.more (Crc.ones - s) (l.take k) ^^^ l[k].toNat) % 256 < 4294967296 := Nat.lt_of_lt_of_le (Nat.mod_lt _ (by omega)) (by omega)
      go_wp2_with fail
      rw [HA.out]
      refine (halve_any _ _ hq).mono ?_
      rintro e w' ⟨rfl, rfl⟩
      go_wp2
      go_round
      case rel => exact ⟨k + 1, by omega, by go_num, by rw [HU.out, take_succ' l k hlt, Crc.more_append]; rfl⟩
      case measure => simp [intOf]; omega
    · obtain rfl : k = l.length := by omega
      rw [List.take_length] at hm
      have HN' := hide (not_eq (Crc.more (Crc.ones - s) l) hm)
      go_wp2
      go_ret
      exact ⟨ret_int (by rw [HN'.out]), rfl⟩
set_option maxHeartbeats 400000 in
theorem sum_any (A : Option Addr) (ls : List (List UInt8)) (n c : Nat) (hn : ls.length = n) (w : World) (hl : n ≤ 9223372036854775807) (hb : Parts w A ls) (hm : ∀ l ∈ ls, l.length ≤ 9223372036854775807) :
    Calls Try.prog 144 #[.slice A n c] w fun e w' => e = .returned (.int .u32 (Crc.sum ls.flatten : Nat)) ∧ w = w' := by
  subst hn
  go_enter Try.func144, Try.ntmps144
  go_wp2
  go_loop [3, 8] (fun v i => ∃ k : Nat, k ≤ ls.length ∧ i = .int .i64 k ∧ v = .int .u32 (Crc.sum (ls.take k).flatten : Nat)) (fun _ i => ls.length - (intOf i).toNat)
  case atStart => exact ⟨0, by omega, rfl, by rw [List.take_zero, List.flatten_nil, Crc.sum_nil]; rfl⟩
  case round =>
    obtain ⟨k, hk, rfl, rfl⟩ := hrel
    by_cases hlt : k < ls.length
    · obtain ⟨b, o, Aj, cj, rfl, hcell, hcj, hbj⟩ := hb.at_ k hlt
      have hmk := hm ls[k] (List.getElem_mem hlt)
      have HE := hide (Crc.more_of_sum (ls.take k).flatten ls[k])
      have hs := Crc.sum_lt' (ls.take k).flatten
      clear hb hm
      go_wp2_with fail
      refine (more_any _ Aj ls[k] cj _ hs hmk hbj).mono ?_
      rintro e w' ⟨rfl, rfl⟩
      go_wp2
      go_round
      case rel => exact ⟨k + 1, by omega, by go_num, by rw [HE.out, List.take_succ_eq_append_getElem hlt, List.flatten_append]; simp⟩
      case measure => simp [intOf]; omega
    · obtain rfl : k = ls.length := by omega
      go_wp2
      go_ret
      exact ⟨rfl, rfl⟩
theorem rstep_ne (s b : Nat) (hs : s < 4294967296) (h : s % 2 ≠ b) : bits .xor .u32 ((s : Int) / 2) 3988292384 = ((Crc.rstep s b : Nat) : Int) := by
  have := u32_xor_nat (s / 2) 3988292384 (by omega) (by omega)
  unfold Crc.rstep Crc.poly
  rw [if_pos h]
  exact this
theorem rstep_eq (s b : Nat) (h : s % 2 = b) : (s : Int) / 2 = ((Crc.rstep s b : Nat) : Int) := by
  unfold Crc.rstep
  rw [if_neg (by omega)]
  rfl
set_option maxHeartbeats 400000 in
theorem rstep_any (s b : Nat) (w : World) (hs : s < 4294967296) :
    Calls Try.prog 157 #[.int .u32 s, .int .u32 b] w fun e w' => e = .returned (.int .u32 (Crc.rstep s b : Nat)) ∧ w = w' := by
  by_cases h : s % 2 = b
  · have HE := hide (rstep_eq s b h)
    have HB := hide h
    have hd : ((s : Int) % 2 != (b : Int)) = false := by rw [bne_eq_false_iff_eq]; omega
    clear h
    go_enter Try.func157, Try.ntmps157
    go_wp2
    go_ret
    exact ⟨ret_int HE.out, rfl⟩
  · have HE := hide (rstep_ne s b hs h)
    have hd : ((s : Int) % 2 != (b : Int)) = true := by rw [bne_iff_ne]; omega
    go_enter Try.func157, Try.ntmps157
    go_wp2
    go_ret
    exact ⟨ret_int HE.out, rfl⟩
set_option maxHeartbeats 400000 in
theorem refmore_any (s : Nat) (A : Option Addr) (l : List UInt8) (c : Nat) (w : World) (hs : s < 4294967296) (hl : l.length ≤ 9223372036854775807) (hb : Bytes w A l) :
    Calls Try.prog 152 #[.int .u32 s, .slice A l.length c] w fun e w' => e = .returned (.int .u32 (Crc.more s l : Nat)) ∧ w = w' := by
  go_enter Try.func152, Try.ntmps152
  go_wp2
  go_loop [0, 5] (fun v i => ∃ k : Nat, k ≤ l.length ∧ i = .int .i64 k ∧ v = .int .u32 (Crc.more s (l.take k) : Nat)) (fun _ i => l.length - (intOf i).toNat)
  case atStart => exact ⟨0, by omega, rfl, rfl⟩
  case round =>
    obtain ⟨k, hk, rfl, rfl⟩ := hrel
    have hm := Crc.more_lt' (l.take k) s hs
    by_cases hlt : k < l.length
    · obtain ⟨b, o, rfl, hcell⟩ := hb.at_ k hlt
      have hc := u8_lt l[k]
      have HT := hide (take_succ' l k hlt)
      have HM := hide (Crc.more_snoc s (l.take k) l[k])
      clear hb
      generalize Crc.more s (l.take k) = S at *
      generalize l[k] = ch at *
      go_wp2
      go_loop [0, 6, 7] (fun v x j => ∃ q : Nat, q ≤ 8 ∧ j = .int .i64 q ∧ v = .int .u32 (Crc.feed q S ch.toNat : Nat) ∧ x = .int .u32 (ch.toNat / 2 ^ q : Nat)) (fun _ _ j => 8 - (intOf j).toNat)
      case atStart => exact ⟨0, by omega, rfl, rfl, by simp⟩
      case round =>
        obtain ⟨q, hq, rfl, rfl, rfl⟩ := hrel
        have hf := Crc.feed_bound q S ch.toNat hm
        have hx : ch.toNat / 2 ^ q < 4294967296 := Nat.lt_of_le_of_lt (Nat.div_le_self _ _) (by omega)
        have HF := hide (Crc.feed_snoc q S ch.toNat)
        have HD := hide (Crc.div_pow_succ ch.toNat q)
        by_cases hq8 : q < 8
        · generalize Crc.feed q S ch.toNat = F at *
          generalize ch.toNat / 2 ^ q = X at *
          go_wp2_with fail
          refine (rstep_any F (X % 2) _ hf).mono ?_
          rintro e w' ⟨rfl, rfl⟩
          go_wp2
          go_round
          case rel => exact ⟨q + 1, by omega, by go_num, by rw [HF.out], by rw [HD.out]; rfl⟩
          case measure => simp [intOf]; omega
        · obtain rfl : q = 8 := by omega
          go_wp2
          go_round
          case rel => exact ⟨k + 1, by omega, by go_num, by rw [HT.out, HM.out]⟩
          case measure => simp [intOf]; omega
    · obtain rfl : k = l.length := by omega
      go_wp2
      go_ret
      exact ⟨rfl, rfl⟩
set_option maxHeartbeats 400000 in
theorem refsum_any (A : Option Addr) (l : List UInt8) (c : Nat) (w : World) (hl : l.length ≤ 9223372036854775807) (hb : Bytes w A l) :
    Calls Try.prog 135 #[.slice A l.length c] w fun e w' => e = .returned (.int .u32 (Crc.sum l : Nat)) ∧ w = w' := by
  go_enter Try.func135, Try.ntmps135
  go_wp2_with fail
  refine (refmore_any 4294967295 A l c _ (by omega) hl hb).mono ?_
  rintro e w' ⟨rfl, rfl⟩
  have hm := Crc.more_lt' l 4294967295 (by omega)
  go_wp2
  go_ret
  exact ⟨ret_int (by unfold Crc.sum Crc.ones; omega), rfl⟩
theorem rel_sealed {l' l0 l : List UInt8} {s k : Nat} (hk : k < 4) (h0 : l0 = l ++ (Crc.le4 s).take k) (h : l' = l0 ++ [UInt8.ofNat ((s / 256 ^ k : Nat) % 256 : Int).toNat]) : l' = l ++ (Crc.le4 s).take (k + 1) := by
  rw [h, h0, Crc.le4_take s k hk, List.append_assoc]
  congr 3
  rw [show (((s / 256 ^ k : Nat) : Int) % 256).toNat = (s / 256 ^ k) % 256 by omega, Crc.ofNat_mod]
set_option maxHeartbeats 1000000 in
theorem seal_any (A : Option Addr) (l : List UInt8) (c : Nat) (w : World) (hl : l.length ≤ 1000000) (hc : l.length ≤ c) (hb : Bytes w A l) :
    Calls Try.prog 123 #[.slice A l.length c] w fun e w' => ∃ A' c', e = .returned (.slice A' (Crc.seal_ l).length c') ∧ Own w' w.heap.size A' c' (Crc.seal_ l) ∧ Below w.heap.size w w' := by
  have HF := hide (show [l].flatten = l by simp)
  go_enter Try.func123, Try.ntmps123
  go_wp2_with (at_make; refine wpList_make_bytes byteT rfl _ _ rfl (l.length + 4) rfl rfl ?_ ?_ w.heap.size (Nat.le_refl _) ?_)
  · omega
  · omega
  · intro w1 hown1 hg1
    have hbel1 : Below w.heap.size w w1 := (Below.refl _ _).grown hg1 (Nat.le_refl _) (by simp)
    have hb1 := hb.below hbel1
    go_wp2_with (at_builtin; refine wpList_append_bytes byteT rfl (.tmp 8) (.tmp 9) rfl hown1 hb1 rfl rfl ?_ ?_ ?_)
    · simp; omega
    · exact hbel1.size
    · intro A2 c2 l2 w2 HL2 hown2 hg2 _
      have hbel2 : Below w.heap.size w w2 := hbel1.grown hg2 hbel1.size (by simp [blk])
      have hb2 := hb.below hbel2
      go_wp2_with fail
      refine (sum_any _ [l] 1 1 rfl _ (by omega) (by exact Parts.one hb2 rfl hc rfl) (by simp; omega)).mono ?_
      rintro e w' ⟨rfl, rfl⟩
      rw [HF.out]
      have hown3 := hown2.alloc (.cells #[.slice A l.length c] 25)
      have hbel3 := hbel2.alloc hbel2.size (.cells #[.slice A l.length c] 25)
      generalize (w2.alloc (.cells #[.slice A l.length c] 25)) = w3 at *
      have hs := Crc.sum_lt' l
      have HS := hide (show Crc.seal_ l = l ++ Crc.le4 (Crc.sum l) from rfl)
      generalize Crc.sum l = S at *
      go_wp2
      go_loopw [3, 4, 14] (fun v s i wr => ∃ (k : Nat) (A4 : Option Addr) (c4 : Nat) (l4 : List UInt8), k ≤ 4 ∧ i = .int .i64 k ∧ s = .int .u32 (S / 256 ^ k : Nat) ∧ v = .slice A4 l4.length c4 ∧ Own wr w.heap.size A4 c4 l4 ∧ Hid (l4 = l ++ (Crc.le4 S).take k) ∧ Below w.heap.size w wr)
        (fun _ _ i _ => 4 - (intOf i).toNat)
      case atStart => exact ⟨0, A2, c2, l2, by omega, rfl, by simp, rfl, hown3, hide (by rw [HL2.out]; simp), hbel3⟩
      case round =>
        obtain ⟨k, A4, c4, l4, hk, rfl, rfl, rfl, hown4, HL4, hbel4⟩ := hrel
        have hx : S / 256 ^ k < 4294967296 := Nat.lt_of_le_of_lt (Nat.div_le_self _ _) hs
        have hlen : l4.length ≤ l.length + 4 := by rw [HL4.out, List.length_append, List.length_take]; omega
        have HD := hide (Crc.div_256_succ S k)
        clear hown3 hbel3 hown2 hbel2 hb2 hown1 hg1 hg2 hbel1 hb1
        by_cases hlt : k < 4
        · have h1 := Bytes.one wr (((S / 256 ^ k : Nat) : Int) % 256) (by omega) (by omega) (t := 5) rfl
          have hbel5 := hbel4.alloc hbel4.size (.cells #[.int .u8 (((S / 256 ^ k : Nat) : Int) % 256)] 5)
          go_wp2_with (at_builtin; refine wpList_append_bytes byteT rfl (.tmp 16) (.tmp 19) rfl (hown4.alloc _) h1 rfl rfl ?_ ?_ ?_)
          · simp; omega
          · exact hbel5.size
          · intro A5 c5 l5 w5 HL5 hown5 hg5 hat5
            have hbel6 : Below w.heap.size w w5 := hbel5.grown hg5 hbel5.size (fun q hq => hown4.base hq)
            go_wp2
            go_roundw
            case rel => exact ⟨k + 1, A5, c5, l5, by omega, by go_num, by rw [HD.out]; rfl, rfl, hown5, hide (rel_sealed hlt HL4.out HL5.out), hbel6⟩
            case measure => simp [intOf]; omega
        · obtain rfl : k = 4 := by omega
          have e : l4 = Crc.seal_ l := by rw [HS.out, HL4.out]; rfl
          subst e
          go_wp2
          go_ret
          exact ⟨A4, c4, rfl, hown4, hbel4⟩

set_option maxHeartbeats 1000000 in
theorem refseal_any (A : Option Addr) (l : List UInt8) (c : Nat) (w : World) (hl : l.length ≤ 1000000) (hb : Bytes w A l) :
    Calls Try.prog 84 #[.slice A l.length c] w fun e w' => ∃ A' c', e = .returned (.slice A' (Crc.seal_ l).length c') ∧ Own w' w.heap.size A' c' (Crc.seal_ l) ∧ Below w.heap.size w w' := by
  go_enter Try.func84, Try.ntmps84
  go_wp2_with fail
  refine (refsum_any A l c _ (by omega) hb).mono ?_
  rintro e w' ⟨rfl, rfl⟩
  have hs := Crc.sum_lt' l
  have HS := hide (show Crc.seal_ l = l ++ Crc.le4 (Crc.sum l) from rfl)
  generalize Crc.sum l = S at *
  go_wp2_with (at_builtin; refine wpList_append_bytes byteT rfl (.tmp 8) (.tmp 9) rfl (Own.made w (base := w.heap.size) #[] 0 (Nat.le_refl _) (by decide) rfl) (hb.alloc _) rfl rfl ?_ ?_ ?_)
  · simp; omega
  · simp
  · intro A2 c2 l2 w2 HL2 hown2 hg2 _
    have hbel2 : Below w.heap.size w w2 := ((Below.refl _ _).alloc (Nat.le_refl _) _).grown hg2 (by simp) (by simp [blk])
    go_wp2
    go_loopw [3, 4, 5] (fun s v i wr => ∃ (k X : Nat) (A4 : Option Addr) (c4 : Nat) (l4 : List UInt8), k ≤ 4 ∧ i = .int .i64 k ∧ s = .int .u32 (X : Nat) ∧ Hid (X = S / 256 ^ k) ∧ v = .slice A4 l4.length c4 ∧ Own wr w.heap.size A4 c4 l4 ∧ Hid (l4 = l ++ (Crc.le4 S).take k) ∧ Below w.heap.size w wr)
      (fun _ _ i _ => 4 - (intOf i).toNat)
    case atStart => exact ⟨0, S, A2, c2, l2, by omega, rfl, rfl, hide (by simp), rfl, hown2, hide (by rw [HL2.out]; simp), hbel2⟩
    case round =>
      obtain ⟨k, X, A4, c4, l4, hk, rfl, rfl, HX, rfl, hown4, HL4, hbel4⟩ := hrel
      have hx : X < 4294967296 := by rw [HX.out]; exact Nat.lt_of_le_of_lt (Nat.div_le_self _ _) hs
      have hlen : l4.length ≤ l.length + 4 := by rw [HL4.out, List.length_append, List.length_take]; omega
      have HD := hide (Crc.div_256_succ S k)
      clear hown2 hbel2 hg2
      by_cases hlt : k < 4
      · have h1 := Bytes.one wr ((X : Int) % 256) (by omega) (by omega) (t := 5) rfl
        have hbel5 := hbel4.alloc hbel4.size (.cells #[.int .u8 ((X : Int) % 256)] 5)
        go_wp2_with (at_builtin; refine wpList_append_bytes byteT rfl (.tmp 15) (.tmp 19) rfl (hown4.alloc _) h1 rfl rfl ?_ ?_ ?_)
        · simp; omega
        · exact hbel5.size
        · intro A5 c5 l5 w5 HL5 hown5 hg5 hat5
          have hbel6 : Below w.heap.size w w5 := hbel5.grown hg5 hbel5.size (fun q hq => hown4.base hq)
          go_wp2
          go_roundw
          case rel => exact ⟨k + 1, X / 256, A5, c5, l5, by omega, by go_num, rfl, hide (by rw [HX.out, HD.out]), rfl, hown5, hide (rel_sealed hlt HL4.out (by rw [← HX.out]; exact HL5.out)), hbel6⟩
          case measure => simp [intOf]; omega
      · obtain rfl : k = 4 := by omega
        have e : l4 = Crc.seal_ l := by rw [HS.out, HL4.out]; rfl
        subst e
        go_wp2
        go_ret
        exact ⟨A4, c4, rfl, hown4, hbel4⟩
theorem good_short (l : List UInt8) (h : l.length < 4) : Crc.good l = false := by simp [Crc.good]; omega
set_option maxHeartbeats 1000000 in
theorem refgood_any (A : Option Addr) (l : List UInt8) (c : Nat) (w : World) (hl : l.length ≤ 1000000) (hc : l.length ≤ c) (hb : Bytes w A l) :
    Calls Try.prog 131 #[.slice A l.length c] w fun e w' => e = .returned (.bool (Crc.good l)) ∧ Below w.heap.size w w' := by
  by_cases h4 : l.length < 4
  · have HG := hide (good_short l h4)
    go_enter Try.func131, Try.ntmps131
    go_wp2
    go_ret
    exact ⟨by rw [HG.out]; rfl, Below.refl _ _⟩
  · obtain ⟨u, HU, hb', hln⟩ : ∃ u, Hid (u = l.take (l.length - 4)) ∧ Bytes w A u ∧ u.length + 4 = l.length := ⟨_, rfl, hb.take (l.length - 4), by rw [List.length_take]; omega⟩
    have hu : u.length ≤ 1000000 := by omega
    have hcv := fun (W : World) (hW : Grow w.drew W) => conv_any c (hb.drew.grow hW)
    have HG := hide (show Crc.good l = (Crc.seal_ u == l) by rw [HU.out]; exact Crc.good_eq l (by omega))
    have e0 : (0 : Int) ≤ (l.length : Int) - 4 := by omega
    have e2 : (l.length : Int) - 4 ≤ (c : Int) := by omega
    have e3 : ((l.length : Int) - 4).toNat = u.length := by omega
    have e1 : IntKind.i64.wrap ((l.length : Int) - 4) = (l.length : Int) - 4 := IntWalk.i64_in _ (by omega)
    clear hln
    go_enter Try.func131, Try.ntmps131
    go_wp2_with fail
    refine wpG_region (by kernel_rfl) ?_
    refine wpG_take 0 rfl (by kernel_rfl) (fun _ _ _ h => h) rfl (v := ?_) ?_ ?_
    rotate_left
    · (intro w' hG; go_simp; try with_reducible rfl)
    try simp only [Act.put, List.setIfInBounds_toArray, List.set_cons_zero, List.set_cons_succ]
    refine wpG_take 1 rfl (by kernel_rfl) (fun _ _ _ h => h) rfl (v := ?_) ?_ ?_
    rotate_left
    · (intro w' hG; go_simp; try with_reducible rfl)
    try simp only [Act.put, List.setIfInBounds_toArray, List.set_cons_zero, List.set_cons_succ]
    refine wpG_take 2 rfl (by kernel_rfl) (fun _ _ _ h => h) rfl (v := ?_) ?_ ?_
    rotate_left
    · (intro w' hG; go_simp; try with_reducible rfl)
    try simp only [Act.put, List.setIfInBounds_toArray, List.set_cons_zero, List.set_cons_succ]
    refine wpG_take 3 rfl (by kernel_rfl) (fun _ _ _ h => h) rfl (v := ?_) ?_ ?_
    rotate_left
    · (intro w' hG; go_simp; try with_reducible rfl)
    try simp only [Act.put, List.setIfInBounds_toArray, List.set_cons_zero, List.set_cons_succ]
    refine wpG_take 4 rfl (by kernel_rfl) (fun _ _ _ h => h) rfl (v := ?_) ?_ ?_
    rotate_left
    · (intro w' hG; go_simp; try with_reducible rfl)
    try simp only [Act.put, List.setIfInBounds_toArray, List.set_cons_zero, List.set_cons_succ]
    refine wpG_take 7 rfl (by kernel_rfl) (fun _ _ _ h => h) rfl (v := ?_) ?_ ?_
    rotate_left
    · (intro w' hG; go_simp; try with_reducible rfl)
    try simp only [Act.put, List.setIfInBounds_toArray, List.set_cons_zero, List.set_cons_succ]
    refine wpG_take 8 rfl (by kernel_rfl) (fun _ _ _ h => h) rfl (v := ?_) ?_ ?_
    rotate_left
    · (intro w' hG; go_simp; try with_reducible rfl)
    try simp only [Act.put, List.setIfInBounds_toArray, List.set_cons_zero, List.set_cons_succ]
    refine wpG_call 5 rfl (by kernel_rfl) rfl fun K hK => ?_
    go_simp
    refine (refseal_any A u c _ hu (by exact hb'.drew)).mono ?_
    rintro e w2 ⟨A2, c2, rfl, hown2, hbel2⟩
    refine hK.out _ _ (hbel2) ?_
    clear hK
    try simp only [Act.put, List.setIfInBounds_toArray, List.set_cons_zero, List.set_cons_succ]
    have hcv2 := fun (W : World) (hW : Grow w2 W) => conv_any c2 (hown2.bytes.grow hW)
    refine wpG_take 6 rfl (by kernel_rfl) (fun _ _ _ h => h) rfl (v := ?_) ?_ ?_
    rotate_left
    · (intro w' hG; go_simp; try with_reducible rfl)
    try simp only [Act.put, List.setIfInBounds_toArray, List.set_cons_zero, List.set_cons_succ]
    refine wpG_take 9 rfl (by kernel_rfl) (fun _ _ _ h => h) rfl (v := ?_) ?_ ?_
    rotate_left
    · (intro w' hG; go_simp; try with_reducible rfl)
    try simp only [Act.put, List.setIfInBounds_toArray, List.set_cons_zero, List.set_cons_succ]
    refine wpG_take 10 rfl (by kernel_rfl) (fun _ _ _ h => h) rfl (v := ?_) ?_ ?_
    rotate_left
    · (intro w' hG; go_simp; try with_reducible rfl)
    try simp only [Act.put, List.setIfInBounds_toArray, List.set_cons_zero, List.set_cons_succ]
    refine wpG_done (by kernel_rfl) ?_ _
    rw [← HG.out]
    go_wp2
    go_ret
    exact ⟨rfl, Grow.of_drew hbel2⟩
set_option maxHeartbeats 1000000 in
theorem good_any (A : Option Addr) (l : List UInt8) (c : Nat) (w : World) (hl : l.length ≤ 1000000) (hc : l.length ≤ c) (hb : Bytes w A l) :
    Calls Try.prog 126 #[.slice A l.length c] w fun e w' => e = .returned (.bool (Crc.good l)) ∧ Below w.heap.size w w' := by
  by_cases h4 : l.length < 4
  · have HG := hide (good_short l h4)
    go_enter Try.func126, Try.ntmps126
    go_wp2
    go_ret
    exact ⟨by rw [HG.out]; rfl, Below.refl _ _⟩
  · obtain ⟨m, hm⟩ : ∃ m, l.length = m + 4 := ⟨l.length - 4, by omega⟩
    have HM := hide hm
    obtain ⟨b, o, hA0, hc0⟩ := hb.at_ 0 (by omega)
    subst hA0
    clear hc0
    obtain ⟨u, HU, hbu, hum⟩ : ∃ u, Hid (u = l.take m) ∧ Bytes w (some ⟨b, o, none⟩) u ∧ u.length = m := ⟨_, rfl, hb.take m, by rw [List.length_take]; omega⟩
    have HF := hide (show [u].flatten = u by simp)
    have hs := Crc.sum_lt' u
    obtain ⟨d, hd⟩ : ∃ d : Nat → UInt8, ∀ k, d k = l.getD (m + k) 0 := ⟨_, fun _ => rfl⟩
    have HN := hide (show ∀ k, k < 4 → (d k).toNat ≠ Crc.sum u / 256 ^ k % 256 → Crc.good l = false from fun k hk h => Crc.good_no' l d m k hm hd hk (by rw [← HU.out]; exact h))
    have HY := hide (show (∀ k, k < 4 → (d k).toNat = Crc.sum u / 256 ^ k % 256) → Crc.good l = true from fun h => Crc.good_yes' l d m hm hd (by rw [← HU.out]; exact h))
    have hcell : ∀ k, k < 4 → (w.alloc (.cells #[.slice (some ⟨b, o, none⟩) u.length c] 25)).cell? ⟨b, o + m + k, none⟩ = some (.int .u8 ((d k).toNat : Int)) := by
      intro k hk
      obtain ⟨b', o', hA, hc'⟩ := (hb.alloc (.cells #[.slice (some ⟨b, o, none⟩) u.length c] 25)).at_ (m + k) (by omega)
      injection hA with hA
      injection hA with h1 h2
      subst h1 h2
      rw [Nat.add_assoc, hc', hd k, List.getD_eq_getElem?_getD, List.getElem?_eq_getElem (by omega)]
      rfl
    have HC := hide hcell
    rw [hm] at hl hc ⊢
    subst hum
    clear hcell hb HM hd hm h4 HU
    go_enter Try.func126, Try.ntmps126
    go_wp2_with fail
    refine (sum_any _ [u] 1 1 rfl _ (by omega) (by exact Parts.one hbu rfl (by omega) rfl) (by simp; omega)).mono ?_
    rintro e w' ⟨rfl, rfl⟩
    rw [HF.out]
    have hn0 : decide ((u.length : Int) < 0) = false := by simp
    go_wp2
    generalize Crc.sum u = S at *
    go_loop [4, 21] (fun s i => ∃ k X : Nat, k ≤ 4 ∧ i = .int .i64 k ∧ s = .int .u32 (X : Nat) ∧ Hid (X = S / 256 ^ k) ∧ Hid (∀ j, j < k → (d j).toNat = S / 256 ^ j % 256)) (fun _ i => 4 - (intOf i).toNat)
    case atStart => exact ⟨0, S, by omega, rfl, rfl, hide (by simp), hide (fun j hj => absurd hj (by omega))⟩
    case round =>
      obtain ⟨k, X, hk, rfl, rfl, HX, HA⟩ := hrel
      have hx : X < 4294967296 := by rw [HX.out]; exact Nat.lt_of_le_of_lt (Nat.div_le_self _ _) hs
      by_cases hlt : k < 4
      · have hcell := HC.out k hlt
        have hd8 := u8_lt (d k)
        by_cases heq : (d k).toNat = X % 256
        · have ht : (((d k).toNat : Int) != (X : Int) % 256) = false := by rw [bne_eq_false_iff_eq]; omega
          have HE := hide heq
          clear heq
          go_wp2
          go_round
          case rel => exact ⟨k + 1, X / 256, by omega, by go_num, rfl, hide (by rw [HX.out, Crc.div_256_succ]), hide (fun j hj => by
              rcases Nat.lt_or_ge j k with h | h
              · exact HA.out j h
              · obtain rfl : j = k := by omega
                rw [HE.out, HX.out])⟩
          case measure => simp [intOf]; omega
        · have ht : (((d k).toNat : Int) != (X : Int) % 256) = true := by rw [bne_iff_ne]; omega
          have HB := hide (HN.out k hlt (by rw [← HX.out]; exact heq))
          clear heq
          go_wp2
          go_ret
          exact ⟨by rw [HB.out]; rfl, (Below.refl _ _).alloc (Nat.le_refl _) _⟩
      · obtain rfl : k = 4 := by omega
        have HB := hide (HY.out HA.out)
        go_wp2
        go_ret
        exact ⟨by rw [HB.out]; rfl, (Below.refl _ _).alloc (Nat.le_refl _) _⟩
end Go.Proofs.Ytpobjcdcimcdnaa

namespace Go.Proofs.Ytpobjcdcimcdnaa
open Go.RowKit Go.ChangeShapes Go.WideShapes Go.ChangeAt
end Go.Proofs.Ytpobjcdcimcdnaa

namespace Go.Proofs.Ytpobjcdcimcdnaa
open Go.RowKit Go.ChangeShapes Go.WideShapes Go.ChangeAt
theorem seal_len (l : List UInt8) : (Crc.seal_ l).length = l.length + 4 := by simp [Crc.seal_, Crc.le4]
theorem turn_val (x : UInt8) (m : Nat) (hm : m < 8) : bits .xor .u8 (x.toNat : Int) (2 ^ m % 256) = ((UInt8.ofNat (x.toNat ^^^ 2 ^ m)).toNat : Int) := by
  have h1 : 2 ^ m < 256 := Nat.lt_of_lt_of_le (Nat.pow_lt_pow_right (by omega) hm) (by omega)
  have h2 : ((2 : Int) ^ m % 256) = ((2 ^ m : Nat) : Int) := (show ∀ m : Fin 8, ((2 : Int) ^ m.val % 256) = ((2 ^ m.val : Nat) : Int) by decide) ⟨m, hm⟩
  rw [h2, u8_xor_nat _ _ (u8_lt x) h1, UInt8.toNat_ofNat', Nat.mod_eq_of_lt (Nat.xor_lt_two_pow (n := 8) (u8_lt x) h1)]
theorem turn_yes {l l4 : List UInt8} {x : UInt8} {pos bits k : Nat} (_hk : k < 32) (hin : (pos + k) / 8 < l.length) (h4 : l4 = Crc.turn l pos bits k) {hh : (pos + k) / 8 < l4.length} (hx : x = l4[(pos + k) / 8]) (hb : bits / 2 ^ k % 2 = 1) :
    l4.set ((pos + k) / 8) (UInt8.ofNat (x.toNat ^^^ 2 ^ ((pos + k) % 8))) = Crc.turn l pos bits (k + 1) := by
  subst h4
  rw [Crc.turn, if_pos ⟨hb, hin⟩, Crc.flip, hx, List.getD_eq_getElem?_getD, List.getElem?_eq_getElem hh]
  rfl
set_option maxHeartbeats 1000000 in
theorem turn_any (A : Option Addr) (l : List UInt8) (c : Nat) (pos bits : Nat) (w : World) (hl : l.length ≤ 1000000) (hb : Bytes w A l) (hp : pos ≤ 100000000) (_hbits : bits < 4294967296) :
    Calls Try.prog 85 #[.slice A l.length c, .int .i64 pos, .int .u32 bits] w fun e w' => ∃ A' c', e = .returned (.slice A' (Crc.turn l pos bits 32).length c') ∧ Own w' w.heap.size A' c' (Crc.turn l pos bits 32) ∧ Below w.heap.size w w' := by
  go_enter Try.func85, Try.ntmps85
  go_wp2_with (at_builtin; refine wpList_append_bytes byteT rfl (.tmp 10) (.tmp 11) rfl (Own.made w (base := w.heap.size) #[] 0 (Nat.le_refl _) (by decide) rfl) (hb.alloc _) rfl rfl ?_ ?_ ?_)
  · simp; omega
  · simp
  · intro A2 c2 l2 w2 HL2 hown2 hg2 _
    have hbel2 : Below w.heap.size w w2 := ((Below.refl _ _).alloc (Nat.le_refl _) _).grown hg2 (by simp) (by simp [blk])
    obtain rfl : l2 = l := by simpa using HL2.out
    clear HL2 hg2 hb
    go_wp2
    go_loopw [8] (fun i wr => ∃ (k : Nat) (l4 : List UInt8), k ≤ 32 ∧ i = .int .i64 k ∧ Own wr w.heap.size A2 c2 l4 ∧ Hid (l4 = Crc.turn l2 pos bits k) ∧ Below w.heap.size w wr)
      (fun i _ => 32 - (intOf i).toNat)
    case atStart => exact ⟨0, l2, by omega, rfl, hown2, hide rfl, hbel2⟩
    case round =>
      obtain ⟨k, l4, hk, rfl, hown4, HL4, hbel4⟩ := hrel
      have HN := hide (show l4.length = l2.length by rw [HL4.out, Crc.turn_length])
      clear hown2 hbel2
      by_cases hlt : k < 32
      · by_cases hbit : bits / 2 ^ k % 2 = 1
        · have ht : ((bits : Int) / 2 ^ k).tmod 2 = 1 := by
            have : ((bits : Int) / 2 ^ k) = ((bits / 2 ^ k : Nat) : Int) := by simp
            rw [this, Int.tmod_eq_emod_of_nonneg (Int.natCast_nonneg _)]
            omega
          have HB := hide hbit
          clear hbit
          by_cases hin : (pos + k) / 8 < l2.length
          · obtain ⟨g, rfl⟩ : ∃ g, A2 = some ⟨g, 0, none⟩ := by
              rcases hown4.form with ⟨_, h0, _⟩ | ⟨g, hA, _⟩
              · have := HN.out; rw [h0] at this; simp at this; omega
              · exact ⟨g, hA⟩
            have hcell := hown4.cell ((pos + k) / 8) (by have := HN.out; omega)
            have hfr := hown4.frozen ((pos + k) / 8)
            obtain ⟨x, HX⟩ : ∃ x : UInt8, Hid (x = l4[(pos + k) / 8]'(by have := HN.out; omega)) := ⟨_, hide rfl⟩
            rw [← HX.out] at hcell
            have hx8 := u8_lt x
            go_wp2
            rw [turn_val x ((pos + k) % 8) (Nat.mod_lt _ (by omega))]
            go_roundw
            case rel => exact ⟨k + 1, l4.set ((pos + k) / 8) (UInt8.ofNat (x.toNat ^^^ 2 ^ ((pos + k) % 8))), by omega, by go_num, hown4.set _ _, hide (turn_yes hlt hin HL4.out HX.out HB.out), hbel4.setCell (p := ⟨g, (pos + k) / 8, none⟩) (hown4.base rfl) _⟩
            case measure => simp [intOf]; omega
          · go_wp2
            go_roundw
            case rel => exact ⟨k + 1, l4, by omega, by go_num, hown4, hide (by rw [HL4.out, Crc.turn, if_neg (fun h => hin h.2)]), hbel4⟩
            case measure => simp [intOf]; omega
        · have ht : ((bits : Int) / 2 ^ k).tmod 2 = 0 := by
            have : ((bits : Int) / 2 ^ k) = ((bits / 2 ^ k : Nat) : Int) := by simp
            rw [this, Int.tmod_eq_emod_of_nonneg (Int.natCast_nonneg _)]
            omega
          have HB := hide hbit
          clear hbit
          go_wp2
          go_roundw
          case rel => exact ⟨k + 1, l4, by omega, by go_num, hown4, hide (by rw [HL4.out, Crc.turn, if_neg (fun h => HB.out h.1)]), hbel4⟩
          case measure => simp [intOf]; omega
      · obtain rfl : k = 32 := by omega
        have e : l4 = Crc.turn l2 pos bits 32 := HL4.out
        have hl4 := HN.out
        rw [← hl4]
        subst e
        go_wp2
        go_ret
        exact ⟨A2, c2, rfl, hown4, hbel4⟩
end Go.Proofs.Ytpobjcdcimcdnaa
