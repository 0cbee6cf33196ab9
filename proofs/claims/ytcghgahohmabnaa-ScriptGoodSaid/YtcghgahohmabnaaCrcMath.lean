/- The plain law of the sums of chapter 04: no Go in sight. -/
namespace Crc
def poly : Nat := 3988292384
/-- one step: a sum is halved -/
def st (x : Nat) : Nat := if x % 2 = 1 then (x / 2) ^^^ poly else x / 2
/-- k steps -/
def sts : Nat → Nat → Nat
  | 0, x => x
  | k + 1, x => sts k (st x)
/-- the documents step -/
def rstep (s b : Nat) : Nat := if s % 2 ≠ b then (s / 2) ^^^ poly else s / 2
/-- k bits of c fed -/
def feed : Nat → Nat → Nat → Nat
  | 0, s, _ => s
  | k + 1, s, c => feed k (rstep s (c % 2)) (c / 2)
theorem xor_mod_two (a b : Nat) : (a ^^^ b) % 2 = (a + b) % 2 := by
  have h := Nat.testBit_xor a b 0
  rw [Nat.testBit_zero, Nat.testBit_zero, Nat.testBit_zero] at h
  have hx := Nat.mod_two_eq_zero_or_one (a ^^^ b)
  rcases Nat.mod_two_eq_zero_or_one a with ha | ha <;> rcases Nat.mod_two_eq_zero_or_one b with hb | hb <;> rcases hx with hx | hx <;> simp [ha, hb, hx] at h <;> omega
theorem xor_div_two (a b : Nat) : (a ^^^ b) / 2 = a / 2 ^^^ b / 2 := by
  have := Nat.xor_div_two_pow (a := a) (b := b) (n := 1)
  simpa using this
theorem xor_cancel (a b : Nat) : a ^^^ b ^^^ b = a := by rw [Nat.xor_assoc, Nat.xor_self, Nat.xor_zero]
theorem st_xor (a b : Nat) : st (a ^^^ b) = st a ^^^ st b := by
  unfold st
  rw [xor_mod_two, xor_div_two]
  rcases Nat.mod_two_eq_zero_or_one a with ha | ha <;> rcases Nat.mod_two_eq_zero_or_one b with hb | hb
  · rw [if_neg (by omega), if_neg (by omega), if_neg (by omega)]
  · rw [if_pos (by omega), if_neg (by omega), if_pos (by omega), Nat.xor_assoc]
  · rw [if_pos (by omega), if_pos (by omega), if_neg (by omega), Nat.xor_assoc, Nat.xor_assoc, Nat.xor_comm poly]
  · rw [if_neg (by omega), if_pos (by omega), if_pos (by omega)]
    rw [show a / 2 ^^^ poly ^^^ (b / 2 ^^^ poly) = a / 2 ^^^ b / 2 ^^^ (poly ^^^ poly) by ac_rfl, Nat.xor_self, Nat.xor_zero]
theorem sts_xor (k : Nat) : ∀ a b, sts k (a ^^^ b) = sts k a ^^^ sts k b := by
  induction k with
  | zero => intro a b; rfl
  | succ k ih => intro a b; simp only [sts]; rw [st_xor, ih]
theorem st_double (y : Nat) : st (2 * y) = y := by unfold st; rw [if_neg (by omega)]; omega
theorem st_zero : st 0 = 0 := rfl
theorem sts_zero (k : Nat) : sts k 0 = 0 := by induction k with
  | zero => rfl
  | succ k ih => simp only [sts, st_zero, ih]
theorem sts_add (j : Nat) : ∀ k x, sts (j + k) x = sts k (sts j x) := by
  induction j with
  | zero => intro k x; simp [sts]
  | succ j ih => intro k x; rw [show j + 1 + k = (j + k) + 1 by omega]; simp only [sts]; rw [ih]
theorem sts_shift (k y : Nat) : sts k (2 ^ k * y) = y := by
  induction k generalizing y with
  | zero => simp [sts]
  | succ k ih => simp only [sts]; rw [show 2 ^ (k + 1) * y = 2 * (2 ^ k * y) by rw [Nat.pow_succ]; ac_rfl, st_double, ih]
theorem split_bit (c : Nat) : c = c % 2 ^^^ 2 * (c / 2) := by
  apply Nat.eq_of_testBit_eq
  intro i
  rw [Nat.testBit_xor]
  cases i with
  | zero => simp [Nat.testBit_zero]
  | succ i =>
    rw [Nat.testBit_succ, Nat.testBit_succ, Nat.testBit_succ]
    rw [show c % 2 / 2 = 0 by omega, show 2 * (c / 2) / 2 = c / 2 by omega]
    simp
theorem rstep_st (s b : Nat) (hb : b < 2) : rstep s b = st (s ^^^ b) := by
  unfold rstep st
  rw [xor_mod_two, xor_div_two, show b / 2 = 0 by omega, Nat.xor_zero]
  by_cases h : s % 2 = b
  · rw [if_neg (by omega), if_neg (by omega)]
  · rw [if_pos h, if_pos (by omega)]
theorem feed_sts (k : Nat) : ∀ s c, feed k s c = sts k (s ^^^ c) ^^^ c / 2 ^ k := by
  induction k with
  | zero => intro s c; simp [feed, sts, xor_cancel]
  | succ k ih =>
    intro s c
    simp only [feed, sts]
    rw [ih, rstep_st _ _ (by omega)]
    have h1 : st (s ^^^ c % 2) ^^^ c / 2 = st (s ^^^ c) := by
      conv => rhs; rw [split_bit c, ← Nat.xor_assoc, st_xor, st_double]
    rw [h1, Nat.div_div_eq_div_mul, Nat.pow_succ, Nat.mul_comm 2]
theorem feed_lt (k s c : Nat) (h : c < 2 ^ k) : feed k s c = sts k (s ^^^ c) := by
  rw [feed_sts, Nat.div_eq_of_lt h, Nat.xor_zero]
theorem st_lt (x : Nat) (h : x < 2 ^ 32) : st x < 2 ^ 32 := by
  unfold st
  split
  · exact Nat.xor_lt_two_pow (by omega) (by decide)
  · omega
theorem sts_lt (k : Nat) : ∀ x, x < 2 ^ 32 → sts k x < 2 ^ 32 := by
  induction k with
  | zero => intro x h; exact h
  | succ k ih => intro x h; exact ih _ (st_lt x h)
theorem st_ne (x : Nat) (h : x < 2 ^ 32) (h0 : x ≠ 0) : st x ≠ 0 := by
  unfold st
  split
  · intro e
    have : x / 2 = poly := by
      have := congrArg (· ^^^ poly) e
      simpa [xor_cancel] using this
    unfold poly at this
    omega
  · omega
theorem sts_ne (k : Nat) : ∀ x, x < 2 ^ 32 → x ≠ 0 → sts k x ≠ 0 := by
  induction k with
  | zero => intro x _ h; exact h
  | succ k ih => intro x h h0; exact ih _ (st_lt x h) (st_ne x h h0)
/-- the programs byte -/
theorem byte_step (s c : Nat) (hc : c < 256) : feed 8 s c = s / 256 ^^^ sts 8 ((s ^^^ c) % 256) := by
  rw [feed_lt 8 s c hc]
  have h : s ^^^ c = 2 ^ 8 * (s / 256) ^^^ (s ^^^ c) % 256 := by
    apply Nat.eq_of_testBit_eq
    intro i
    rw [show (256 : Nat) = 2 ^ 8 by rfl, Nat.testBit_xor, Nat.testBit_xor, Nat.testBit_mod_two_pow, Nat.testBit_xor, Nat.mul_comm, ← Nat.shiftLeft_eq, Nat.testBit_shiftLeft, ← Nat.shiftRight_eq_div_pow, Nat.testBit_shiftRight]
    by_cases hi : i < 8
    · simp [hi, show ¬ (8 ≤ i) by omega]
    · have hcb : c.testBit i = false := by
        apply Nat.testBit_lt_two_pow
        exact Nat.lt_of_lt_of_le hc (show 2 ^ 8 ≤ 2 ^ i from Nat.pow_le_pow_right (by omega) (by omega))
      simp [hi, show 8 ≤ i by omega, hcb]
  conv => lhs; rw [h, sts_xor, sts_shift]

/-- a message's bits as one number, the first bit the lowest -/
def num : List UInt8 → Nat
  | [] => 0
  | c :: l => c.toNat ^^^ 2 ^ 8 * num l
/-- the documents more -/
def more (s : Nat) (l : List UInt8) : Nat := l.foldl (fun s c => feed 8 s c.toNat) s
theorem more_nil (s : Nat) : more s [] = s := rfl
theorem more_append (s : Nat) (a b : List UInt8) : more s (a ++ b) = more (more s a) b := by simp [more, List.foldl_append]
theorem more_num (l : List UInt8) : ∀ s, more s l = sts (8 * l.length) (s ^^^ num l) := by
  induction l with
  | nil => intro s; simp [more, num, sts]
  | cons c l ih =>
    intro s
    show more (feed 8 s c.toNat) l = _
    rw [ih, feed_lt 8 s c.toNat (show c.toNat < 256 from c.toNat_lt), List.length_cons, show 8 * (l.length + 1) = 8 + 8 * l.length by omega, sts_add]
    congr 1
    simp only [num]
    rw [← Nat.xor_assoc, sts_xor 8 _ (2 ^ 8 * num l), sts_shift]
theorem more_lt (l : List UInt8) : ∀ s, s < 2 ^ 32 → more s l < 2 ^ 32 := by
  induction l with
  | nil => intro s h; exact h
  | cons c l ih =>
    intro s h
    refine ih _ ?_
    show feed 8 s c.toNat < 2 ^ 32
    rw [feed_lt 8 s c.toNat (show c.toNat < 256 from c.toNat_lt)]
    exact sts_lt _ _ (Nat.xor_lt_two_pow h (Nat.lt_trans (show c.toNat < 256 from c.toNat_lt) (by decide)))
def ones : Nat := 4294967295
/-- the sum of bytes -/
def sum (l : List UInt8) : Nat := ones - more ones l
theorem ones_sub (x : Nat) (h : x < 2 ^ 32) : ones - x = x ^^^ ones := by
  unfold ones
  apply Nat.eq_of_testBit_eq
  intro i
  rw [Nat.testBit_xor]
  have h1 := Nat.testBit_two_pow_sub_succ (x := x) (n := 32) h i
  have h2 : (4294967295 : Nat).testBit i = decide (i < 32) := Nat.testBit_two_pow_sub_one 32 i
  rw [show 4294967295 - x = 2 ^ 32 - (x + 1) by omega, h1, h2]
  by_cases hi : i < 32
  · simp [hi]
  · have hx : x.testBit i = false := Nat.testBit_lt_two_pow (Nat.lt_of_lt_of_le h (Nat.pow_le_pow_right (by omega) (by omega)))
    simp [hi, hx]
theorem ones_lt : ones < 2 ^ 32 := by decide
theorem sum_lt (l : List UInt8) : sum l < 2 ^ 32 := by unfold sum; have := ones_lt; omega
theorem sum_xor (l : List UInt8) : sum l = more ones l ^^^ ones := ones_sub _ (more_lt _ _ ones_lt)
/-- what comes behind a sum: n bytes of noughts -/
theorem more_split (s : Nat) (l : List UInt8) : more s l = sts (8 * l.length) s ^^^ more 0 l := by
  rw [more_num, more_num, Nat.zero_xor, sts_xor]
/-- P4.2: Join -/
theorem sum_append (a b : List UInt8) : sum (a ++ b) = sts (8 * b.length) (sum a) ^^^ sum b := by
  rw [sum_xor, more_append, more_split, show more ones a = sum a ^^^ ones by rw [sum_xor, xor_cancel], sts_xor, sum_xor b, more_split ones b]
  ac_rfl
theorem xor_eq_zero {a b : Nat} (h : a ^^^ b = 0) : a = b := by
  have := congrArg (· ^^^ b) h
  simpa [xor_cancel] using this
theorem sts_inj (k a b : Nat) (ha : a < 2 ^ 32) (hb : b < 2 ^ 32) (h : sts k a = sts k b) : a = b := by
  apply xor_eq_zero
  apply Decidable.byContradiction
  intro hne
  refine sts_ne k _ (Nat.xor_lt_two_pow ha hb) hne ?_
  rw [sts_xor, h, Nat.xor_self]
theorem num_lt (l : List UInt8) : num l < 2 ^ (8 * l.length) := by
  induction l with
  | nil => simp [num]
  | cons c l ih =>
    simp only [num, List.length_cons]
    have hc : c.toNat < 2 ^ (8 * (l.length + 1)) := Nat.lt_of_lt_of_le (show c.toNat < 2 ^ 8 from c.toNat_lt) (Nat.pow_le_pow_right (by omega) (by omega))
    refine Nat.xor_lt_two_pow hc ?_
    rw [show 8 * (l.length + 1) = 8 + 8 * l.length by omega, Nat.pow_add]
    exact Nat.mul_lt_mul_of_pos_left ih (by decide)
theorem xor_add (c x : Nat) (hc : c < 256) : c ^^^ 2 ^ 8 * x = c + 256 * x := by
  have h := Nat.two_pow_add_eq_or_of_lt (b := c) (i := 8) hc x
  rw [Nat.add_comm, show 256 = 2 ^ 8 by rfl, h]
  apply Nat.eq_of_testBit_eq
  intro i
  rw [Nat.testBit_xor, Nat.testBit_or, Nat.mul_comm, ← Nat.shiftLeft_eq, Nat.testBit_shiftLeft]
  by_cases hi : i < 8
  · simp [show ¬ (8 ≤ i) by omega]
  · have hcb : c.testBit i = false := by
      apply Nat.testBit_lt_two_pow
      exact Nat.lt_of_lt_of_le hc (show 2 ^ 8 ≤ 2 ^ i from Nat.pow_le_pow_right (by omega) (by omega))
    simp [hcb]
theorem num_inj : ∀ (a b : List UInt8), a.length = b.length → num a = num b → a = b
  | [], [], _, _ => rfl
  | x :: a, y :: b, hl, h => by
    simp only [num] at h
    rw [xor_add _ _ x.toNat_lt, xor_add _ _ y.toNat_lt] at h
    have hx := x.toNat_lt
    have hy := y.toNat_lt
    have e1 : x.toNat = y.toNat := by omega
    have e2 : num a = num b := by omega
    rw [UInt8.toNat_inj.1 e1, num_inj a b (by simpa using hl) e2]
/-- a number as four bytes, the lowest first -/
def le4 (s : Nat) : List UInt8 := [UInt8.ofNat s, UInt8.ofNat (s / 256), UInt8.ofNat (s / 65536), UInt8.ofNat (s / 16777216)]
theorem num_le4 (s : Nat) (h : s < 2 ^ 32) : num (le4 s) = s := by
  have e : ∀ x : Nat, (UInt8.ofNat x).toNat = x % 256 := fun x => by simp
  simp only [num, le4]
  rw [xor_add _ _ (UInt8.toNat_lt _), xor_add _ _ (UInt8.toNat_lt _), xor_add _ _ (UInt8.toNat_lt _), xor_add _ _ (UInt8.toNat_lt _), e, e, e, e]
  omega
def seal_ (l : List UInt8) : List UInt8 := l ++ le4 (sum l)
def good (l : List UInt8) : Bool := decide (4 ≤ l.length) && (l.drop (l.length - 4) == le4 (sum (l.take (l.length - 4))))
theorem good_seal (l : List UInt8) : good (seal_ l) = true := by
  simp [good, seal_, le4]
theorem good_iff (l : List UInt8) (h : 4 ≤ l.length) : good l = true ↔ more ones l = sts 32 ones := by
  have hsplit := (List.take_append_drop (l.length - 4) l).symm
  have hv : (l.drop (l.length - 4)).length = 4 := by rw [List.length_drop]; omega
  have hg : good l = true ↔ l.drop (l.length - 4) = le4 (sum (l.take (l.length - 4))) := by simp [good, h]
  rw [hg]
  have hu := more_lt (l.take (l.length - 4)) ones ones_lt
  have hm : more ones l = sts 32 (more ones (l.take (l.length - 4)) ^^^ num (l.drop (l.length - 4))) := by
    conv => lhs; rw [hsplit, more_append, more_num (l.drop _), hv]
  rw [hm]
  constructor
  · intro e
    rw [e, num_le4 _ (sum_lt _), sum_xor, ← Nat.xor_assoc, Nat.xor_self, Nat.zero_xor]
  · intro e
    have hvl : num (l.drop (l.length - 4)) < 2 ^ 32 := by have := num_lt (l.drop (l.length - 4)); rw [hv] at this; exact this
    have h1 := sts_inj 32 _ _ (Nat.xor_lt_two_pow hu hvl) ones_lt e
    apply num_inj
    · rw [hv]; rfl
    rw [num_le4 _ (sum_lt _), sum_xor]
    have h2 := congrArg (more ones (l.take (l.length - 4)) ^^^ ·) h1
    simp only [← Nat.xor_assoc, Nat.xor_self, Nat.zero_xor] at h2
    exact h2
/-- bit i of bytes is turned -/
def flip (l : List UInt8) (i : Nat) : List UInt8 := l.set (i / 8) (UInt8.ofNat ((l.getD (i / 8) 0).toNat ^^^ 2 ^ (i % 8)))
theorem flip_length (l : List UInt8) (i : Nat) : (flip l i).length = l.length := by simp [flip]
theorem num_flip (l : List UInt8) : ∀ i, i / 8 < l.length → num (flip l i) = num l ^^^ 2 ^ i := by
  induction l with
  | nil => intro i h; simp at h
  | cons c l ih =>
    intro i h
    by_cases h0 : i / 8 = 0
    · have hi : i % 8 = i := by omega
      have hx : c.toNat ^^^ 2 ^ i < 256 := Nat.xor_lt_two_pow (n := 8) c.toNat_lt (Nat.pow_lt_pow_right (by omega) (by omega))
      simp only [flip, h0, List.set_cons_zero, List.getD_cons_zero, hi, num]
      rw [show (UInt8.ofNat (c.toNat ^^^ 2 ^ i)).toNat = c.toNat ^^^ 2 ^ i by rw [UInt8.toNat_ofNat']; exact Nat.mod_eq_of_lt hx]
      ac_rfl
    · have h1 : i / 8 = (i - 8) / 8 + 1 := by omega
      have h2 : (i - 8) % 8 = i % 8 := by omega
      have h3 := ih (i - 8) (by simp only [List.length_cons] at h; omega)
      unfold flip at h3
      rw [h2] at h3
      simp only [flip, h1, List.set_cons_succ, List.getD_cons_succ, num]
      rw [h3, show 2 ^ i = 2 ^ 8 * 2 ^ (i - 8) by rw [← Nat.pow_add]; congr 1; omega]
      have hd : ∀ a b : Nat, 2 ^ 8 * (a ^^^ b) = 2 ^ 8 * a ^^^ 2 ^ 8 * b := by
        intro a b
        rw [Nat.mul_comm, Nat.mul_comm (2 ^ 8) a, Nat.mul_comm (2 ^ 8) b, ← Nat.shiftLeft_eq, ← Nat.shiftLeft_eq, ← Nat.shiftLeft_eq, Nat.shiftLeft_xor_distrib]
      rw [hd, Nat.xor_assoc]
/-- the k first of 32 bits turned -/
def turn (l : List UInt8) (pos bits : Nat) : Nat → List UInt8
  | 0 => l
  | k + 1 => if bits / 2 ^ k % 2 = 1 ∧ (pos + k) / 8 < l.length then flip (turn l pos bits k) (pos + k) else turn l pos bits k
theorem turn_length (l : List UInt8) (pos bits : Nat) : ∀ k, (turn l pos bits k).length = l.length
  | 0 => rfl
  | k + 1 => by
    unfold turn
    split
    · rw [flip_length, turn_length l pos bits k]
    · exact turn_length l pos bits k
theorem turn_num (l : List UInt8) (pos bits : Nat) : ∀ k, ∃ p, p < 2 ^ k ∧ num (turn l pos bits k) = num l ^^^ 2 ^ pos * p ∧ (p ≠ 0 → pos < 8 * l.length)
  | 0 => ⟨0, by decide, by simp [turn], fun h => absurd rfl h⟩
  | k + 1 => by
    obtain ⟨p, hp, hn, hl⟩ := turn_num l pos bits k
    have hlt : 2 ^ k < 2 ^ (k + 1) := Nat.pow_lt_pow_right (by omega) (by omega)
    unfold turn
    split
    · next h =>
      refine ⟨p ^^^ 2 ^ k, Nat.xor_lt_two_pow (by omega) hlt, ?_, fun _ => by omega⟩
      rw [num_flip _ _ (by rw [turn_length]; exact h.2), hn, Nat.pow_add, Nat.xor_assoc]
      congr 1
      rw [Nat.mul_comm (2 ^ pos) (p ^^^ 2 ^ k), Nat.mul_comm (2 ^ pos) p, Nat.mul_comm (2 ^ pos) (2 ^ k), ← Nat.shiftLeft_eq, ← Nat.shiftLeft_eq, ← Nat.shiftLeft_eq, Nat.shiftLeft_xor_distrib]
    · exact ⟨p, by omega, hn, hl⟩
/-- P4.4: a burst is found -/
theorem burst (l : List UInt8) (h : 4 ≤ l.length) (hg : good l = true) (pos bits : Nat) : good (turn l pos bits 32) = decide (turn l pos bits 32 = l) := by
  obtain ⟨p, hp, hn, hl⟩ := turn_num l pos bits 32
  have hlen := turn_length l pos bits 32
  by_cases hp0 : p = 0
  · have e : turn l pos bits 32 = l := num_inj _ _ hlen (by rw [hn, hp0, Nat.mul_zero, Nat.xor_zero])
    rw [e, hg]; simp
  · have hpos := hl hp0
    have hne : turn l pos bits 32 ≠ l := by
      intro e
      rw [e] at hn
      have h0 := congrArg (num l ^^^ ·) hn
      simp only [Nat.xor_self, ← Nat.xor_assoc, Nat.zero_xor] at h0
      have : 0 < 2 ^ pos * p := Nat.mul_pos (Nat.two_pow_pos _) (by omega)
      omega
    rw [decide_eq_false hne]
    apply Bool.eq_false_iff.2
    intro ht
    rw [good_iff _ (by omega)] at ht
    rw [good_iff _ h] at hg
    rw [more_num, hlen, hn, ← Nat.xor_assoc, sts_xor, ← more_num, hg] at ht
    have h0 := congrArg (sts 32 ones ^^^ ·) ht
    simp only [Nat.xor_self, ← Nat.xor_assoc, Nat.zero_xor] at h0
    rw [show 8 * l.length = pos + (8 * l.length - pos) by omega, sts_add, sts_shift] at h0
    exact sts_ne _ p hp hp0 h0
theorem more_of_sum (a b : List UInt8) : ones - more (ones - sum a) b = sum (a ++ b) := by
  have h := more_lt a ones ones_lt
  unfold sum
  rw [more_append, show ones - (ones - more ones a) = more ones a by have := ones_lt; unfold ones at *; omega]
theorem feed_snoc (k : Nat) : ∀ s c, feed (k + 1) s c = rstep (feed k s c) (c / 2 ^ k % 2) := by
  induction k with
  | zero => intro s c; simp [feed]
  | succ k ih =>
    intro s c
    show feed (k + 1) (rstep s (c % 2)) (c / 2) = _
    rw [ih, Nat.div_div_eq_div_mul, Nat.pow_succ, Nat.mul_comm 2]
    rfl
theorem rstep_lt (s b : Nat) (h : s < 4294967296) : rstep s b < 4294967296 := by
  unfold rstep
  split
  · exact Nat.xor_lt_two_pow (n := 32) (by omega) (by decide)
  · omega
theorem feed_bound (k : Nat) : ∀ s c, s < 4294967296 → feed k s c < 4294967296 := by
  induction k with
  | zero => intro s c h; exact h
  | succ k ih => intro s c h; exact ih _ _ (rstep_lt _ _ h)
theorem div_pow_succ (c k : Nat) : c / 2 ^ (k + 1) = c / 2 ^ k / 2 := by rw [Nat.div_div_eq_div_mul, Nat.pow_succ]
theorem more_snoc (s : Nat) (l : List UInt8) (c : UInt8) : more s (l ++ [c]) = feed 8 (more s l) c.toNat := by rw [more_append]; rfl
theorem example_ : sum [49, 50, 51, 52, 53, 54, 55, 56, 57] = 3421780262 := by decide +kernel
theorem le4_take (s k : Nat) (h : k < 4) : (le4 s).take (k + 1) = (le4 s).take k ++ [UInt8.ofNat (s / 256 ^ k)] := by
  match k, h with
  | 0, _ => simp [le4]
  | 1, _ => simp [le4]
  | 2, _ => simp [le4]
  | 3, _ => simp [le4]
theorem le4_len (s : Nat) : (le4 s).length = 4 := rfl
theorem div_256_succ (s k : Nat) : s / 256 ^ (k + 1) = s / 256 ^ k / 256 := by rw [Nat.div_div_eq_div_mul, Nat.pow_succ]
theorem ofNat_mod (x : Nat) : UInt8.ofNat (x % 256) = UInt8.ofNat x := by
  apply UInt8.toNat_inj.1
  simp
theorem good_eq (l : List UInt8) (h : 4 ≤ l.length) : good l = (seal_ (l.take (l.length - 4)) == l) := by
  unfold good seal_
  rw [decide_eq_true h, Bool.true_and, Bool.eq_iff_iff, beq_iff_eq, beq_iff_eq]
  constructor
  · intro e
    rw [← e, List.take_append_drop]
  · intro e
    have := congrArg (List.drop (l.length - 4)) e
    rw [List.drop_left' (by rw [List.length_take]; omega)] at this
    exact this.symm
theorem le4_get (s k : Nat) (h : k < 4) : (le4 s)[k]'(by rw [le4_len]; exact h) = UInt8.ofNat (s / 256 ^ k) := by
  match k, h with
  | 0, _ => simp [le4]
  | 1, _ => simp [le4]
  | 2, _ => simp [le4]
  | 3, _ => simp [le4]
/-- the last four bytes are compared one by one -/
theorem good_no (l : List UInt8) (m k : Nat) (hm : l.length = m + 4) (hk : k < 4) (h : (l[m + k]'(by omega)).toNat ≠ sum (l.take m) / 256 ^ k % 256) : good l = false := by
  unfold good
  rw [show l.length - 4 = m by omega]
  apply Bool.eq_false_iff.2
  intro e
  rw [Bool.and_eq_true, beq_iff_eq] at e
  apply h
  have e2 := congrArg (·[k]?) e.2
  simp only [List.getElem?_drop] at e2
  rw [List.getElem?_eq_getElem (by omega), List.getElem?_eq_getElem (by rw [le4_len]; exact hk), le4_get _ _ hk] at e2
  injection e2 with e2
  rw [e2, UInt8.toNat_ofNat']
theorem good_yes (l : List UInt8) (m : Nat) (hm : l.length = m + 4) (h : ∀ k (hk : k < 4), (l[m + k]'(by omega)).toNat = sum (l.take m) / 256 ^ k % 256) : good l = true := by
  unfold good
  rw [show l.length - 4 = m by omega, decide_eq_true (by omega), Bool.true_and, beq_iff_eq]
  apply List.ext_getElem
  · rw [List.length_drop, le4_len]; omega
  · intro k h1 h2
    rw [le4_len] at h2
    rw [List.getElem_drop, le4_get _ _ h2]
    apply UInt8.toNat_inj.1
    rw [h k h2, UInt8.toNat_ofNat']
theorem good_no' (l : List UInt8) (d : Nat → UInt8) (m k : Nat) (hm : l.length = m + 4) (hd : ∀ k, d k = l.getD (m + k) 0) (hk : k < 4) (h : (d k).toNat ≠ sum (l.take m) / 256 ^ k % 256) : good l = false := by
  refine good_no l m k hm hk ?_
  rw [hd k, List.getD_eq_getElem?_getD, List.getElem?_eq_getElem (by omega)] at h
  exact h
theorem good_yes' (l : List UInt8) (d : Nat → UInt8) (m : Nat) (hm : l.length = m + 4) (hd : ∀ k, d k = l.getD (m + k) 0) (h : ∀ k, k < 4 → (d k).toNat = sum (l.take m) / 256 ^ k % 256) : good l = true := by
  refine good_yes l m hm fun k hk => ?_
  have := h k hk
  rw [hd k, List.getD_eq_getElem?_getD, List.getElem?_eq_getElem (by omega)] at this
  exact this
theorem byte_zero (s : Nat) : s / 256 ^^^ sts 8 (s % 256) = sts 8 s := by
  have h := byte_step s 0 (by omega)
  rw [feed_lt 8 s 0 (by decide), Nat.xor_zero] at h
  exact h.symm
theorem mod_bit1 (s i : Nat) (h : s / 2 ^ i % 2 = 1) : s % 2 ^ (i + 1) = s % 2 ^ i ^^^ 2 ^ i := by
  apply Nat.eq_of_testBit_eq
  intro j
  rw [Nat.testBit_xor, Nat.testBit_mod_two_pow, Nat.testBit_mod_two_pow, Nat.testBit_two_pow]
  have hb : s.testBit i = true := by rw [Nat.testBit_eq_decide_div_mod_eq, h]; rfl
  by_cases e : i = j
  · subst e; simp [hb]
  · by_cases h1 : j < i
    · simp [h1, e, show j < i + 1 by omega]
    · simp [h1, e, show ¬ j < i + 1 by omega]
theorem mod_bit0 (s i : Nat) (h : s / 2 ^ i % 2 ≠ 1) : s % 2 ^ (i + 1) = s % 2 ^ i := by
  apply Nat.eq_of_testBit_eq
  intro j
  rw [Nat.testBit_mod_two_pow, Nat.testBit_mod_two_pow]
  have hb : s.testBit i = false := by rw [Nat.testBit_eq_decide_div_mod_eq]; simp; omega
  by_cases e : i = j
  · subst e; simp [hb]
  · by_cases h1 : j < i
    · simp [h1, show j < i + 1 by omega]
    · simp [h1, show ¬ j < i + 1 by omega]
theorem div_zero_lt (s i : Nat) (h : s / 2 ^ i = 0) : s % 2 ^ i = s := Nat.mod_eq_of_lt ((Nat.div_eq_zero_iff_lt (Nat.two_pow_pos i)).1 h)
theorem bits_32 (s i : Nat) (hs : s < 4294967296) (h : s / 2 ^ i ≠ 0) : i < 32 := by
  apply Decidable.byContradiction
  intro hi
  apply h
  apply Nat.div_eq_of_lt
  exact Nat.lt_of_lt_of_le hs (show 2 ^ 32 ≤ 2 ^ i from Nat.pow_le_pow_right (by omega) (by omega))
theorem div_pow_half (s i : Nat) : s / 2 ^ i / 2 = s / 2 ^ (i + 1) := by rw [Nat.div_div_eq_div_mul, Nat.pow_succ]
theorem sts_mul (x j m : Nat) : sts (8 * 2 ^ j) (sts (8 * (m % 2 ^ j)) x) = sts (8 * (m % 2 ^ j + 2 ^ j)) x := by rw [← sts_add, Nat.mul_add]
theorem add_bit1 (m j : Nat) (h : m / 2 ^ j % 2 = 1) : m % 2 ^ (j + 1) = m % 2 ^ j + 2 ^ j := by
  rw [Nat.mod_pow_succ, h, Nat.mul_one]
theorem sts_twice (n x : Nat) : sts n (sts n x) = sts (n * 2) x := by rw [← sts_add, Nat.mul_two]
theorem sum_nil : sum [] = 0 := by unfold sum; rw [more_nil, Nat.sub_self]
theorem sum_lt' (l : List UInt8) : sum l < 4294967296 := by have := sum_lt l; omega
theorem more_lt' (l : List UInt8) (s : Nat) (h : s < 4294967296) : more s l < 4294967296 := by have := more_lt l s (by omega); omega
theorem sts_lt' (k x : Nat) (h : x < 4294967296) : sts k x < 4294967296 := by have := sts_lt k x (by omega); omega
end Crc
