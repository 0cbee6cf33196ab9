/- A burst, byte by byte and bit by bit. -/
import Derived.Test.YtcghgahohmabnaaFtV
import Derived.Test.YtcghgahohmabnaaCrcMath
import Derived.Test.YtcghgahohmabnaaRdr
namespace Crc
/- bytes turned by a number: byte by byte -/
theorem two_xor (n a b : Nat) : 2 ^ n * (a ^^^ b) = 2 ^ n * a ^^^ 2 ^ n * b := by
  rw [Nat.mul_comm, Nat.mul_comm (2 ^ n) a, Nat.mul_comm (2 ^ n) b, ← Nat.shiftLeft_eq, ← Nat.shiftLeft_eq, ← Nat.shiftLeft_eq, Nat.shiftLeft_xor_distrib]
theorem num_set (l : List UInt8) : ∀ j c, j < l.length → c < 256 → num (l.set j (UInt8.ofNat ((l.getD j 0).toNat ^^^ c))) = num l ^^^ 2 ^ (8 * j) * c := by
  induction l with
  | nil => intro i c h; simp at h
  | cons a l ih =>
    intro j c h hc
    cases j with
    | zero =>
      have hx : a.toNat ^^^ c < 256 := Nat.xor_lt_two_pow (n := 8) a.toNat_lt hc
      simp only [List.set_cons_zero, List.getD_cons_zero, num]
      rw [show (UInt8.ofNat (a.toNat ^^^ c)).toNat = a.toNat ^^^ c by rw [UInt8.toNat_ofNat']; exact Nat.mod_eq_of_lt hx, Nat.mul_zero, Nat.pow_zero, Nat.one_mul]
      ac_rfl
    | succ j =>
      have h3 := ih j c (by simpa using h) hc
      simp only [List.set_cons_succ, List.getD_cons_succ, num]
      rw [h3, two_xor 8, Nat.xor_assoc, ← Nat.mul_assoc, ← Nat.pow_add, show 8 + 8 * j = 8 * (j + 1) by omega]
/-- the first k bytes of x turned into l from s on -/
def turnB (l : List UInt8) (s x : Nat) : Nat → List UInt8
  | 0 => l
  | k + 1 => (turnB l s x k).set (s + k) (UInt8.ofNat (((turnB l s x k).getD (s + k) 0).toNat ^^^ x / 256 ^ k % 256))
theorem turnB_length (l : List UInt8) (s x : Nat) : ∀ k, (turnB l s x k).length = l.length
  | 0 => rfl
  | k + 1 => by unfold turnB; rw [List.length_set, turnB_length l s x k]
theorem mod_step (x k : Nat) : x % 256 ^ (k + 1) = x % 256 ^ k ^^^ 256 ^ k * (x / 256 ^ k % 256) := by
  have e : (256 : Nat) = 2 ^ 8 := rfl
  rw [e, ← Nat.pow_mul, ← Nat.pow_mul]
  have h := Nat.mod_mul (x := x) (a := 2 ^ (8 * k)) (b := 2 ^ 8)
  rw [← Nat.pow_add] at h
  rw [show 8 * (k + 1) = 8 * k + 8 by omega, h]
  have hlt : x % 2 ^ (8 * k) < 2 ^ (8 * k) := Nat.mod_lt _ (Nat.two_pow_pos _)
  rw [Nat.add_comm, Nat.two_pow_add_eq_or_of_lt hlt]
  apply Nat.eq_of_testBit_eq
  intro i
  rw [Nat.testBit_or, Nat.testBit_xor]
  by_cases hi : i < 8 * k
  · rw [Nat.testBit_two_pow_mul]
    simp [show ¬ (8 * k ≤ i) by omega]
  · rw [show (x % 2 ^ (8 * k)).testBit i = false from Nat.testBit_lt_two_pow (Nat.lt_of_lt_of_le hlt (Nat.pow_le_pow_right (by omega) (by omega)))]
    simp
theorem turnB_num (l : List UInt8) (s x : Nat) : ∀ k, s + k ≤ l.length → num (turnB l s x k) = num l ^^^ 2 ^ (8 * s) * (x % 256 ^ k)
  | 0, _ => by simp [turnB, Nat.mod_one]
  | k + 1, h => by
    unfold turnB
    rw [num_set _ _ _ (by rw [turnB_length]; omega) (Nat.mod_lt _ (by omega)), turnB_num l s x k (by omega), mod_step, two_xor, Nat.xor_assoc]
    congr 2
    have e : (256 : Nat) ^ k = 2 ^ (8 * k) := by rw [Nat.pow_mul]
    rw [e, ← Nat.mul_assoc, ← Nat.pow_add]
    congr 2
    omega
theorem turn_exact (l : List UInt8) (pos bits : Nat) : ∀ k, num (turn l pos bits k) = num l ^^^ (2 ^ pos * (bits % 2 ^ k)) % 2 ^ (8 * l.length)
  | 0 => by simp [turn, Nat.mod_one]
  | k + 1 => by
    have ih := turn_exact l pos bits k
    unfold turn
    by_cases hb : bits / 2 ^ k % 2 = 1
    · rw [mod_bit1 _ _ hb, two_xor, Nat.xor_mod_two_pow, ← Nat.xor_assoc, ← Nat.pow_add]
      split
      · next h =>
        rw [num_flip _ _ (by rw [turn_length]; exact h.2), ih]
        congr 1
        rw [Nat.mod_eq_of_lt (Nat.pow_lt_pow_right (by omega) (by omega))]
      · next h =>
        rw [ih]
        have hz : 2 ^ (pos + k) % 2 ^ (8 * l.length) = 0 := by
          apply Nat.mod_eq_zero_of_dvd
          apply Nat.pow_dvd_pow
          have : ¬ (pos + k) / 8 < l.length := fun h2 => h ⟨hb, h2⟩
          omega
        rw [hz, Nat.xor_zero]
    · rw [mod_bit0 _ _ hb, if_neg (fun h => hb h.1), ih]
/-- bit by bit and byte by byte -/
theorem turn_turnB (l : List UInt8) (pos bits k : Nat) (hb : bits < 4294967296) (hk : pos / 8 + k ≤ l.length) (he : pos / 8 + k = l.length ∨ bits * 2 ^ (pos % 8) / 256 ^ k = 0) : turnB l (pos / 8) (bits * 2 ^ (pos % 8)) k = turn l pos bits 32 := by
  apply num_inj _ _ (by rw [turnB_length, turn_length])
  rw [turnB_num _ _ _ _ hk, turn_exact, Nat.mod_eq_of_lt (show bits < 2 ^ 32 from hb)]
  congr 1
  have e : 2 ^ pos * bits = 2 ^ (8 * (pos / 8)) * (bits * 2 ^ (pos % 8)) := by
    conv => lhs; rw [show pos = 8 * (pos / 8) + pos % 8 by omega, Nat.pow_add]
    rw [Nat.mul_assoc, Nat.mul_comm (2 ^ (pos % 8)) bits]
  rw [e]
  generalize bits * 2 ^ (pos % 8) = x at *
  have e2 : (256 : Nat) ^ k = 2 ^ (8 * k) := by rw [Nat.pow_mul]
  rw [e2] at he ⊢
  rw [show 2 ^ (8 * l.length) = 2 ^ (8 * (pos / 8)) * 2 ^ (8 * l.length - 8 * (pos / 8)) by rw [← Nat.pow_add]; congr 1; omega, Nat.mul_mod_mul_left]
  congr 1
  rcases he with he | he
  · congr 2; omega
  · have hx : x < 2 ^ (8 * k) := (Nat.div_eq_zero_iff_lt (Nat.two_pow_pos _)).1 he
    rw [Nat.mod_eq_of_lt hx, Nat.mod_eq_of_lt (Nat.lt_of_lt_of_le hx (Nat.pow_le_pow_right (by omega) (by omega)))]
/-- what a burst makes of bytes -/
def burstOf (l : List UInt8) (pos bits : Nat) : List UInt8 := if l = [] then [] else turn l (pos % (8 * l.length)) bits 32
theorem burstOf_len (l : List UInt8) (pos bits : Nat) : (burstOf l pos bits).length = l.length := by
  unfold burstOf
  split
  · rename_i h; rw [h]
  · exact turn_length _ _ _ _
end Crc
namespace Go.Proofs.Ytcghgahohmabnaa
open Go.RowKit
theorem turn_val (x : UInt8) (m : Nat) (hm : m < 8) : bits .xor .u8 (x.toNat : Int) (2 ^ m % 256) = ((UInt8.ofNat (x.toNat ^^^ 2 ^ m)).toNat : Int) := by
  have h1 : 2 ^ m < 256 := Nat.lt_of_lt_of_le (Nat.pow_lt_pow_right (by omega) hm) (by omega)
  have h2 : ((2 : Int) ^ m % 256) = ((2 ^ m : Nat) : Int) := (show ∀ m : Fin 8, ((2 : Int) ^ m.val % 256) = ((2 ^ m.val : Nat) : Int) by decide) ⟨m, hm⟩
  rw [h2, u8_xor_nat _ _ (u8_lt x) h1, UInt8.toNat_ofNat', Nat.mod_eq_of_lt (Nat.xor_lt_two_pow (n := 8) (u8_lt x) h1)]
theorem turn_yes {l l4 : List UInt8} {x : UInt8} {pos bits k : Nat} (_hk : k < 32) (hin : (pos + k) / 8 < l.length) (h4 : l4 = Crc.turn l pos bits k) {hh : (pos + k) / 8 < l4.length} (hx : x = l4[(pos + k) / 8]) (hb : bits / 2 ^ k % 2 = 1) :
    l4.set ((pos + k) / 8) (UInt8.ofNat (x.toNat ^^^ 2 ^ ((pos + k) % 8))) = Crc.turn l pos bits (k + 1) := by
  subst h4
  rw [Crc.turn, if_pos ⟨hb, hin⟩, Crc.flip, hx, List.getD_eq_getElem?_getD, List.getElem?_eq_getElem hh]
  rfl
set_option maxHeartbeats 1000000 in
theorem turn_any (A : Option Addr) (l : List UInt8) (c : Nat) (pos bits : Nat) (w : World) (hl : l.length ≤ 1000000) (hb : Bytes w A l) (hp : pos ≤ 100000000) (_hbits : bits < 4294967296) :
    Calls Try.prog 135 #[.slice A l.length c, .int .i64 pos, .int .u32 bits] w fun e w' => ∃ A' c', e = .returned (.slice A' (Crc.turn l pos bits 32).length c') ∧ Own w' w.heap.size A' c' (Crc.turn l pos bits 32) ∧ Below w.heap.size w w' := by
  go_enter Try.func135, Try.ntmps135
  go_wp2_with (at_builtin; refine wpList_append_bytes byteT rfl (.tmp 10) (.tmp 11) rfl (Own.made w (base := w.heap.size) #[] 0 (Nat.le_refl _) (by decide) rfl) (hb.alloc _) rfl rfl ?_ ?_ ?_)
  · simp; omega
  · simp
  · intro A2 c2 l2 w2 HL2 hown2 hg2 _
    have hbel2 : Below w.heap.size w w2 := ((Below.refl _ _).alloc (Nat.le_refl _) _).grown hg2 (by simp) (by simp [blk])
    obtain rfl : l2 = l := by simpa using HL2.out
    clear HL2 hg2 hb
    go_wp2
    go_loopw [8] (fun i wr => ∃ (k : Nat) (l4 : List UInt8), k ≤ 32 ∧ i = .int .i64 k ∧ Own wr w.heap.size A2 c2 l4 ∧ Hid (l4 = Crc.turn l2 pos bits k) ∧ Below w.heap.size w wr)
      (fun i _ => 32 - (intOf i).toNat)
    case atStart => exact ⟨0, l2, by omega, rfl, hown2, hide rfl, hbel2⟩
    case round =>
      obtain ⟨k, l4, hk, rfl, hown4, HL4, hbel4⟩ := hrel
      have HN := hide (show l4.length = l2.length by rw [HL4.out, Crc.turn_length])
      clear hown2 hbel2
      by_cases hlt : k < 32
      · by_cases hbit : bits / 2 ^ k % 2 = 1
        · have ht : ((bits : Int) / 2 ^ k).tmod 2 = 1 := by
            have : ((bits : Int) / 2 ^ k) = ((bits / 2 ^ k : Nat) : Int) := by simp
            rw [this, Int.tmod_eq_emod_of_nonneg (Int.natCast_nonneg _)]
            omega
          have HB := hide hbit
          clear hbit
          by_cases hin : (pos + k) / 8 < l2.length
          · obtain ⟨g, rfl⟩ : ∃ g, A2 = some ⟨g, 0, none⟩ := by
              rcases hown4.form with ⟨_, h0, _⟩ | ⟨g, hA, _⟩
              · have := HN.out; rw [h0] at this; simp at this; omega
              · exact ⟨g, hA⟩
            have hcell := hown4.cell ((pos + k) / 8) (by have := HN.out; omega)
            have hfr := hown4.frozen ((pos + k) / 8)
            obtain ⟨x, HX⟩ : ∃ x : UInt8, Hid (x = l4[(pos + k) / 8]'(by have := HN.out; omega)) := ⟨_, hide rfl⟩
            rw [← HX.out] at hcell
            have hx8 := u8_lt x
            go_wp2
            rw [turn_val x ((pos + k) % 8) (Nat.mod_lt _ (by omega))]
            go_roundw
            case rel => exact ⟨k + 1, l4.set ((pos + k) / 8) (UInt8.ofNat (x.toNat ^^^ 2 ^ ((pos + k) % 8))), by omega, by go_num, hown4.set _ _, hide (turn_yes hlt hin HL4.out HX.out HB.out), hbel4.setCell (p := ⟨g, (pos + k) / 8, none⟩) (hown4.base rfl) _⟩
            case measure => simp [intOf]; omega
          · go_wp2
            go_roundw
            case rel => exact ⟨k + 1, l4, by omega, by go_num, hown4, hide (by rw [HL4.out, Crc.turn, if_neg (fun h => hin h.2)]), hbel4⟩
            case measure => simp [intOf]; omega
        · have ht : ((bits : Int) / 2 ^ k).tmod 2 = 0 := by
            have : ((bits : Int) / 2 ^ k) = ((bits / 2 ^ k : Nat) : Int) := by simp
            rw [this, Int.tmod_eq_emod_of_nonneg (Int.natCast_nonneg _)]
            omega
          have HB := hide hbit
          clear hbit
          go_wp2
          go_roundw
          case rel => exact ⟨k + 1, l4, by omega, by go_num, hown4, hide (by rw [HL4.out, Crc.turn, if_neg (fun h => HB.out h.1)]), hbel4⟩
          case measure => simp [intOf]; omega
      · obtain rfl : k = 32 := by omega
        have e : l4 = Crc.turn l2 pos bits 32 := HL4.out
        have hl4 := HN.out
        rw [← hl4]
        subst e
        go_wp2
        go_ret
        exact ⟨A2, c2, rfl, hown4, hbel4⟩
theorem xor_byte (a y : Nat) (ha : a < 256) : bits .xor .u8 (a : Int) ((y : Int) % 256) = ((UInt8.ofNat (a ^^^ y % 256)).toNat : Int) := by
  rw [show ((y : Int) % 256) = ((y % 256 : Nat) : Int) by omega, u8_xor_nat _ _ ha (by omega), UInt8.toNat_ofNat', Nat.mod_eq_of_lt (Nat.xor_lt_two_pow (n := 8) ha (by omega))]
theorem shl_val (bits m : Nat) (hb : bits < 4294967296) (hm : m < 8) : bits * 2 ^ m < 549755813888 := by
  have h1 : 2 ^ m ≤ 2 ^ 7 := Nat.pow_le_pow_right (by omega) (by omega)
  have h2 : bits * 2 ^ m ≤ bits * 2 ^ 7 := Nat.mul_le_mul_left _ h1
  omega
set_option maxRecDepth 100000 in
set_option maxHeartbeats 2000000 in
theorem burst_any (A : Option Addr) (l : List UInt8) (c : Nat) (pos bits : Nat) (w : World) (hl : l.length ≤ 1000000) (hb : Bytes w A l) (hp : pos < 4294967296) (hbits : bits < 4294967296) :
    Calls Try.prog 101 #[.slice A l.length c, .int .u32 pos, .int .u32 bits] w fun e w' => ∃ A' c', e = .returned (.slice A' (Crc.burstOf l pos bits).length c') ∧ Own w' w.heap.size A' c' (Crc.burstOf l pos bits) ∧ Grow w w' := by
  by_cases h0 : l = []
  · subst h0
    go_enter Try.func101, Try.ntmps101
    go_wp2
    go_ret
    exact ⟨none, 0, rfl, Own.nil_ _ _, Grow.refl w⟩
  · have hlp : 0 < l.length := List.length_pos_iff.2 h0
    have HB := hide (show Crc.burstOf l pos bits = Crc.turn l (pos % (8 * l.length)) bits 32 from if_neg h0)
    have hat : pos % (8 * l.length) < 8 * l.length := Nat.mod_lt _ (by omega)
    have hatc : ((pos : Int) % (8 * (l.length : Int))) = ((pos % (8 * l.length) : Nat) : Int) := by simp
    have hsh := shl_val bits (pos % (8 * l.length) % 8) hbits (Nat.mod_lt _ (by omega))
    generalize pos % (8 * l.length) = at_ at *
    clear h0
    go_enter Try.func101, Try.ntmps101
    go_wp2_with (at_builtin; refine wpList_append_bytes byteT rfl (.tmp 14) (.tmp 15) rfl (Own.made w (base := w.heap.size) #[] 0 (Nat.le_refl _) (by decide) rfl) (hb.alloc _) rfl rfl ?_ ?_ ?_)
    · simp; omega
    · simp
    · intro A2 c2 l2 w2 HL2 hown2 hg2 _
      have hbel2 : Below w.heap.size w w2 := ((Below.refl _ _).alloc (Nat.le_refl _) _).grown hg2 (by simp) (by simp [blk])
      obtain rfl : l2 = l := by simpa using HL2.out
      clear HL2 hg2 hb
      go_wp2
      rw [hatc]
      go_wp2
      have hx0 : IntKind.u64.wrap ((bits : Int) * 2 ^ (at_ % 8)) = ((bits * 2 ^ (at_ % 8) : Nat) : Int) := by
        rw [IntKind.wrap_u64, show ((bits : Int) * 2 ^ (at_ % 8)) = ((bits * 2 ^ (at_ % 8) : Nat) : Int) by simp]
        omega
      have hs : at_ / 8 < l2.length := by omega
      have hs8 : ((at_ : Int) / 8) = ((at_ / 8 : Nat) : Int) := by omega
      have HE := hide (fun k h1 h2 => Crc.turn_turnB l2 at_ bits k hbits h1 h2)
      rw [hx0, hs8]
      generalize bits * 2 ^ (at_ % 8) = x0 at *
      generalize at_ / 8 = s0 at *
      clear hx0 hs8 hatc hat
      go_loopw [9, 10] (fun x i wr => ∃ (k : Nat) (l4 : List UInt8), s0 + k ≤ l2.length ∧ x = .int .u64 (x0 / 256 ^ k : Nat) ∧ i = .int .i64 (s0 + k : Nat) ∧ Own wr w.heap.size A2 c2 l4 ∧ Hid (l4 = Crc.turnB l2 s0 x0 k) ∧ Below w.heap.size w wr)
        (fun _ i _ => l2.length - (intOf i).toNat)
      case atStart => exact ⟨0, l2, by omega, by simp, by simp, hown2, hide rfl, hbel2⟩
      case round =>
        obtain ⟨k, l4, hk, rfl, rfl, hown4, HL4, hbel4⟩ := hrel
        have HN := hide (show l4.length = l2.length by rw [HL4.out, Crc.turnB_length])
        have hxk : x0 / 256 ^ k < 549755813888 := Nat.lt_of_le_of_lt (Nat.div_le_self _ _) hsh
        have hx1 : x0 / 256 ^ (k + 1) = x0 / 256 ^ k / 256 := by rw [Nat.pow_succ, Nat.div_div_eq_div_mul]
        clear hown2 hbel2
        by_cases hlt : s0 + k < l2.length
        · by_cases hz : x0 / 256 ^ k = 0
          · have e := hide (show Crc.burstOf l2 pos bits = l4 from HB.out.trans (HL4.out.trans (HE.out k hk (.inr hz))).symm)
            rw [hz]
            clear hz hx1 hxk hk
            go_wp2
            go_ret
            exact ⟨A2, c2, by rw [e.out, HN.out]; rfl, by rw [e.out]; exact hown4, hbel4⟩
          · obtain ⟨g, rfl⟩ : ∃ g, A2 = some ⟨g, 0, none⟩ := by
              rcases hown4.form with ⟨_, h0, _⟩ | ⟨g, hA, _⟩
              · have := HN.out; rw [h0] at this; simp at this; omega
              · exact ⟨g, hA⟩
            have hcell := hown4.cell (s0 + k) (by have := HN.out; omega)
            have hfr := hown4.frozen (s0 + k)
            obtain ⟨x, HX⟩ : ∃ x : UInt8, Hid (x = l4[s0 + k]'(by have := HN.out; omega)) := ⟨_, hide rfl⟩
            rw [← HX.out] at hcell
            have hx8 := u8_lt x
            have hn4 := HN.out
            have HX1 := hide hx1
            clear hx1
            generalize hy : x0 / 256 ^ k = y at *
            have HY := hide hy
            clear hy
            go_wp2
            rw [xor_byte _ _ hx8]
            go_roundw
            case rel => exact ⟨k + 1, l4.set (s0 + k) (UInt8.ofNat (x.toNat ^^^ y % 256)), by omega, by rw [HX1.out]; simp, by go_num, hown4.set _ _, hide (by
              have h1 := HL4.out
              rw [Crc.turnB, ← h1, HY.out, HX.out, List.getD_eq_getElem?_getD, List.getElem?_eq_getElem (by omega)]
              rfl), hbel4.setCell (p := ⟨g, s0 + k, none⟩) (hown4.base rfl) _⟩
            case measure => simp [intOf]; omega
        · have e := hide (show Crc.burstOf l2 pos bits = l4 from HB.out.trans (HL4.out.trans (HE.out k hk (.inl (by omega)))).symm)
          clear hx1 hxk
          go_wp2
          go_ret
          exact ⟨A2, c2, by rw [e.out, HN.out]; rfl, by rw [e.out]; exact hown4, hbel4⟩
set_option maxRecDepth 100000 in
set_option maxHeartbeats 2000000 in
theorem refburst_any (A : Option Addr) (l : List UInt8) (c : Nat) (pos bits : Nat) (w : World) (hl : l.length ≤ 1000000) (hb : Bytes w A l) (hp : pos < 4294967296) (hbits : bits < 4294967296) :
    Calls Try.prog 100 #[.slice A l.length c, .int .u32 pos, .int .u32 bits] w fun e w' => ∃ A' c', e = .returned (.slice A' (Crc.burstOf l pos bits).length c') ∧ Own w' w.heap.size A' c' (Crc.burstOf l pos bits) ∧ Grow w w' := by
  by_cases h0 : l = []
  · subst h0
    go_enter Try.func100, Try.ntmps100
    go_wp2
    go_ret
    exact ⟨none, 0, rfl, Own.nil_ _ _, Grow.refl w⟩
  · have hlp : 0 < l.length := List.length_pos_iff.2 h0
    have HB := hide (show Crc.burstOf l pos bits = Crc.turn l (pos % (8 * l.length)) bits 32 from if_neg h0)
    have hat : pos % (8 * l.length) < 8 * l.length := Nat.mod_lt _ (by omega)
    have hatc : ((pos : Int) % (8 * (l.length : Int))) = ((pos % (8 * l.length) : Nat) : Int) := by simp
    generalize pos % (8 * l.length) = at_ at *
    clear h0
    have HT := hide (fun W h => turn_any A l c at_ bits W hl h (by omega) hbits)
    rw [← HB.out] at HT
    go_enter Try.func100, Try.ntmps100
    go_wp2_with fail
    refine (HT.out _ hb).mono ?_
    rintro r w1 ⟨A1, c1, rfl, hown, hb1⟩
    go_wp2
    go_ret
    exact ⟨A1, c1, rfl, hown, hb1⟩
/-- the address in v leads to these arrivals, all from block N on -/
def Arrs (w : World) (N : Nat) (v : Value) (L : List (Int × List UInt8)) : Prop :=
  ∃ A c, v = .slice A L.length c ∧ (L ≠ [] → ∃ g, A = some ⟨g, 0, none⟩ ∧ N ≤ g ∧ ∀ k (h : k < L.length), ∃ Ak ck, w.cell? ⟨g, k * 2, none⟩ = some (.int .i64 L[k].1) ∧ w.cell? ⟨g, k * 2 + 1, none⟩ = some (.slice Ak L[k].2.length ck) ∧ Bytes w Ak L[k].2 ∧ ∀ q, blk Ak = some q → N ≤ q)
theorem Arrs.nil (w : World) (N : Nat) (c : Nat) (A : Option Addr) : Arrs w N (.slice A 0 c) [] := ⟨A, c, rfl, fun h => absurd rfl h⟩
theorem Arrs.one {w : World} {N g : Nat} {d : Int} {A : Option Addr} {c : Nat} {l : List UInt8} (hN : N ≤ g) (hb : Box w g #[.int .i64 d, .slice A l.length c]) (hl : Bytes w A l) (hA : ∀ q, blk A = some q → N ≤ q) (C : Nat) : Arrs w N (.slice (some ⟨g, 0, none⟩) 1 C) [(d, l)] := by
  refine ⟨_, C, rfl, fun _ => ⟨g, rfl, hN, fun k hk => ?_⟩⟩
  have e : k = 0 := by simp at hk; omega
  subst e
  exact ⟨A, c, hb.cell 0, hb.cell 1, hl, hA⟩
theorem Arrs.two {w : World} {N g : Nat} {d d2 : Int} {A A2 : Option Addr} {c c2 : Nat} {l l2 : List UInt8} (hN : N ≤ g) (hb : Box w g #[.int .i64 d, .slice A l.length c, .int .i64 d2, .slice A2 l2.length c2]) (hl : Bytes w A l) (hA : ∀ q, blk A = some q → N ≤ q) (hl2 : Bytes w A2 l2) (hA2 : ∀ q, blk A2 = some q → N ≤ q) (C : Nat) : Arrs w N (.slice (some ⟨g, 0, none⟩) 2 C) [(d, l), (d2, l2)] := by
  refine ⟨_, C, rfl, fun _ => ⟨g, rfl, hN, fun k hk => ?_⟩⟩
  have e : k = 0 ∨ k = 1 := by simp at hk; omega
  rcases e with rfl | rfl
  · exact ⟨A, c, hb.cell 0, hb.cell 1, hl, hA⟩
  · exact ⟨A2, c2, hb.cell 2, hb.cell 3, hl2, hA2⟩
theorem Arrs.kept {w w' : World} {N : Nat} {v : Value} {L : List (Int × List UInt8)} {S : List Nat} (h : Arrs w N v L) (hk : Kept w.heap.size S w w') (hS : ∀ q, q ∈ S → q < N) : Arrs w' N v L := by
  obtain ⟨A, c, rfl, h⟩ := h
  refine ⟨A, c, rfl, fun hL => ?_⟩
  obtain ⟨g, rfl, hg, hc⟩ := h hL
  refine ⟨g, rfl, hg, fun k hkl => ?_⟩
  obtain ⟨Ak, ck, h1, h2, h3, h4⟩ := hc k hkl
  have hlt := World.block_lt_of_cell? w _ h1
  have hb := hk.block g hlt (fun hm => by have := hS g hm; omega)
  refine ⟨Ak, ck, (World.cell?_of_block (w := w) hb).trans h1, (World.cell?_of_block (w := w) hb).trans h2, Bytes.kept h3 hk (fun q hq hm => by have := hS q hm; have := h4 q hq; omega), h4⟩
theorem Arrs.grow {w w' : World} {N : Nat} {v : Value} {L : List (Int × List UInt8)} (h : Arrs w N v L) (hg : Grow w w') : Arrs w' N v L := h.kept (Kept.of_below hg []) (by simp)
theorem Arrs.mono {w : World} {N M : Nat} {v : Value} {L : List (Int × List UInt8)} (h : Arrs w N v L) (hM : M ≤ N) : Arrs w M v L := by
  obtain ⟨A, c, rfl, h⟩ := h
  refine ⟨A, c, rfl, fun hL => ?_⟩
  obtain ⟨g, rfl, hg, hc⟩ := h hL
  refine ⟨g, rfl, by omega, fun k hkl => ?_⟩
  obtain ⟨Ak, ck, h1, h2, h3, h4⟩ := hc k hkl
  exact ⟨Ak, ck, h1, h2, h3, fun q hq => by have := h4 q hq; omega⟩
/-- what comes of a frame by a fate -/
def arrOf (f : Fate) (l : List UInt8) : List (Int × List UInt8) :=
  if fateB f = false ∨ f.kind = 1 then [] else if f.kind = 3 then [(f.delay, Crc.burstOf l f.pos.toNat f.bits.toNat)] else if f.kind = 2 then [(f.delay, l), (f.again, l)] else [(f.delay, l)]
set_option maxRecDepth 100000 in
set_option maxHeartbeats 2000000 in
theorem arr3_any (f : Fate) (A : Option Addr) (l : List UInt8) (c : Nat) (w : World) (hl : Bytes w A l) (hn : l.length ≤ 1000000) (hg : fateB f = true) (hk : f.kind = 3) (hp0 : 0 ≤ f.pos) (hp1 : f.pos < 4294967296) (hb0 : 0 ≤ f.bits) (hb1 : f.bits < 4294967296) :
    Calls Try.prog 47 #[fv f, .slice A l.length c] w fun e w' => (∃ v, e = .returned v ∧ Arrs w' w.heap.size v [(f.delay, Crc.burstOf l f.pos.toNat f.bits.toNat)]) ∧ Grow w w' := by
  have HG := hide (fun W => fgood_any f W)
  rw [hg] at HG
  obtain ⟨kind, delay, again, pos, bits⟩ := f
  dsimp only at *
  subst hk
  clear hg
  obtain ⟨p, rfl⟩ := Int.eq_ofNat_of_zero_le hp0
  obtain ⟨b, rfl⟩ := Int.eq_ofNat_of_zero_le hb0
  have HC := hide (fun W h => burst_any A l c p b W hn h (by omega) (by omega))
  rw [show ((p : Int)).toNat = p from rfl, show ((b : Int)).toNat = b from rfl]
  generalize Crc.burstOf l p b = m at *
  have hp3 := hp1
  have hb3 := hb1
  clear hp0 hp1 hb0 hb1
  go_enter Try.func47, Try.ntmps47
  go_wp2_with fail
  refine (HG.out _).mono ?_
  rintro r w1 ⟨rfl, hb1⟩
  obtain ⟨p0, hg1⟩ := peel1 hb1
  have p0_ := hide p0
  clear p0
  have p0 := p0_
  clear p0_
  have hl := hl.grow hg1
  have HG1 := hide (show Grow w w1 from hg1)
  have hsz1 : w.heap.size ≤ w1.heap.size := HG1.out.size
  have hq1 : w.heap.size ≤ w1.heap.size := hg1.size
  have HS1 := hide hg1
  clear hb1 hg1
  obtain ⟨cp0, fp0, lp0⟩ := (show Box w1 _ _ from p0.out).rules
  go_wp2_with fail
  have Rp0 := fun (W : World) (h : Grow w1.drew W) => ((show Box w1 _ _ from p0.out).grow (Grow.of_drew h)).cell
  have Fp0 := fun (W : World) (h : Grow w1.drew W) => ((show Box w1 _ _ from p0.out).grow (Grow.of_drew h)).fz
  refine wpR_region (Grow) [] (by kernel_rfl) ?_
  refine wpR_take grow_rf grow_tr 0 rfl (by kernel_rfl) (fun _ _ _ h => h) rfl (v := ?_) ?_ ?_
  rotate_left
  · (intro w' hG; go_simp; try with_reducible rfl)
  try simp only [Act.put, List.setIfInBounds_toArray, List.set_cons_zero, List.set_cons_succ]
  refine wpR_take grow_rf grow_tr 1 rfl (by kernel_rfl) (fun _ _ _ h => h) rfl (v := ?_) ?_ ?_
  rotate_left
  · (intro w' hG; go_simp; try with_reducible rfl)
  try simp only [Act.put, List.setIfInBounds_toArray, List.set_cons_zero, List.set_cons_succ]
  refine wpR_take grow_rf grow_tr 2 rfl (by kernel_rfl) (fun _ _ _ h => h) rfl (v := ?_) ?_ ?_
  rotate_left
  · (intro w' hG; go_simp; try with_reducible rfl)
  try simp only [Act.put, List.setIfInBounds_toArray, List.set_cons_zero, List.set_cons_succ]
  refine wpR_take grow_rf grow_tr 3 rfl (by kernel_rfl) (fun _ _ _ h => h) rfl (v := ?_) ?_ ?_
  rotate_left
  · (intro w' hG; go_simp; try with_reducible rfl)
  try simp only [Act.put, List.setIfInBounds_toArray, List.set_cons_zero, List.set_cons_succ]
  refine wpR_take grow_rf grow_tr 4 rfl (by kernel_rfl) (fun _ _ _ h => h) rfl (v := ?_) ?_ ?_
  rotate_left
  · (intro w' hG; go_simp; try with_reducible rfl)
  try simp only [Act.put, List.setIfInBounds_toArray, List.set_cons_zero, List.set_cons_succ]
  refine wpR_take grow_rf grow_tr 5 rfl (by kernel_rfl) (fun _ _ _ h => h) rfl (v := ?_) ?_ ?_
  rotate_left
  · (intro w' hG; go_simp; try with_reducible rfl)
  try simp only [Act.put, List.setIfInBounds_toArray, List.set_cons_zero, List.set_cons_succ]
  refine wpR_take grow_rf grow_tr 6 rfl (by kernel_rfl) (fun _ _ _ h => h) rfl (v := ?_) ?_ ?_
  rotate_left
  · (intro w' hG; go_simp; try with_reducible rfl)
  try simp only [Act.put, List.setIfInBounds_toArray, List.set_cons_zero, List.set_cons_succ]
  refine wpR_call 7 rfl (by kernel_rfl) rfl fun K hK => ?_
  go_simp
  refine (HC.out _ hl.drew).mono ?_
  rintro r w2 ⟨A1, c1, rfl, hown1, hb2⟩
  have ho1 := hide hown1
  clear hown1
  refine hK.out _ _ (.inr (hb2)) ?_
  clear hK
  try simp only [Act.put, List.setIfInBounds_toArray, List.set_cons_zero, List.set_cons_succ]
  clear Rp0 Fp0
  have hb2 := Grow.of_drew hb2
  clear cp0 fp0 lp0
  have hg2 := hb2
  have p0_ := hide ((show Box w1 _ _ from p0.out).grow hg2)
  clear p0
  have p0 := p0_
  clear p0_
  have hl := hl.grow hg2
  have HG2 := hide (Grow.trans (show Grow w w1 from HG1.out) hg2)
  clear HG1
  have hsz2 : w.heap.size ≤ w2.heap.size := HG2.out.size
  have hq2 : w1.heap.size ≤ w2.heap.size := hg2.size
  have HS2 := hide hg2
  clear hb2 hg2
  obtain ⟨cp0, fp0, lp0⟩ := (show Box w2 _ _ from p0.out).rules
  have Rp0 := fun (W : World) (h : Grow w2 W) => ((show Box w2 _ _ from p0.out).grow h).cell
  have Fp0 := fun (W : World) (h : Grow w2 W) => ((show Box w2 _ _ from p0.out).grow h).fz
  refine wpR_take grow_rf grow_tr 8 rfl (by kernel_rfl) (fun _ _ _ h => h) rfl (v := ?_) ?_ ?_
  rotate_left
  · (intro w' hG; go_simp; try with_reducible rfl)
  try simp only [Act.put, List.setIfInBounds_toArray, List.set_cons_zero, List.set_cons_succ]
  refine wpR_call 9 rfl (by kernel_rfl) rfl fun K hK => ?_
  go_simp
  skip
  refine hK.out _ _ (.inr ((Grow.refl w2).alloc _)) ?_
  clear hK
  try simp only [Act.put, List.setIfInBounds_toArray, List.set_cons_zero, List.set_cons_succ]
  refine wpR_take grow_rf grow_tr 10 rfl (by kernel_rfl) (fun _ _ _ h => h) rfl (v := ?_) ?_ ?_
  rotate_left
  · (intro w' hG; go_simp; try with_reducible rfl)
  try simp only [Act.put, List.setIfInBounds_toArray, List.set_cons_zero, List.set_cons_succ]
  refine wpR_done (by kernel_rfl) ?_ _
  clear Rp0 Fp0
  clear cp0 fp0 lp0
  have hb4 := (Grow.refl w2).alloc (.cells #[.int .i64 delay, .slice A1 m.length c1] 84)
  have nb := Box.new w2 #[.int .i64 delay, .slice A1 m.length c1] 84 rfl
  go_wp2
  go_ret
  refine ⟨⟨_, rfl, Arrs.one (HG2.out.size) nb (ho1.out.below hb4).bytes (fun q hq => by have := ho1.out.base hq; have e : w1.drew.heap.size = w1.heap.size := rfl; omega) 1⟩, Grow.trans HG2.out hb4⟩
set_option maxRecDepth 100000 in
set_option maxHeartbeats 2000000 in
theorem arrno_any (f : Fate) (A : Option Addr) (n c : Nat) (w : World) (hg : fateB f = false ∨ f.kind = 1) :
    Calls Try.prog 47 #[fv f, .slice A n c] w fun e w' => e = .returned (.slice none 0 0) ∧ Grow w w' := by
  have HG := hide (fun W => fgood_any f W)
  generalize fateB f = bb at *
  obtain ⟨kind, delay, again, pos, bits⟩ := f
  dsimp only at *
  have hg' := hide hg
  clear hg
  go_enter Try.func47, Try.ntmps47
  go_wp2_with fail
  refine (HG.out _).mono ?_
  rintro r w1 ⟨rfl, hb1⟩
  obtain ⟨p0, hg1⟩ := peel1 hb1
  have p0_ := hide p0
  clear p0
  have p0 := p0_
  clear p0_
  have HG1 := hide (show Grow w w1 from hg1)
  have hsz1 : w.heap.size ≤ w1.heap.size := HG1.out.size
  have hq1 : w.heap.size ≤ w1.heap.size := hg1.size
  have HS1 := hide hg1
  clear hb1 hg1
  obtain ⟨cp0, fp0, lp0⟩ := (show Box w1 _ _ from p0.out).rules
  cases bb with
  | false =>
    go_wp2
    go_ret
    exact ⟨rfl, HG1.out⟩
  | true =>
    have hk : kind = 1 := by rcases hg'.out with h | h; exact absurd h (by decide); exact h
    subst hk
    go_wp2
    go_ret
    exact ⟨rfl, HG1.out⟩
theorem farr_any (f : Fate) (A : Option Addr) (l : List UInt8) (c : Nat) (w : World) (hl : Bytes w A l) (hn : l.length ≤ 1000000) (hp0 : 0 ≤ f.pos) (hp1 : f.pos < 4294967296) (hb0 : 0 ≤ f.bits) (hb1 : f.bits < 4294967296) :
    Calls Try.prog 47 #[fv f, .slice A l.length c] w fun e w' => (∃ v, e = .returned v ∧ Arrs w' w.heap.size v (arrOf f l)) ∧ Grow w w' := by
  unfold arrOf
  by_cases h : fateB f = false ∨ f.kind = 1
  · rw [if_pos h]
    refine (arrno_any f A l.length c w h).mono ?_
    rintro e w' ⟨rfl, hg⟩
    exact ⟨⟨_, rfl, Arrs.nil _ _ _ _⟩, hg⟩
  · rw [if_neg h]
    have hg : fateB f = true := by cases hh : fateB f <;> simp_all
    have h1 : f.kind ≠ 1 := fun e => h (.inr e)
    by_cases h3 : f.kind = 3
    · rw [if_pos h3]
      exact arr3_any f A l c w hl hn hg h3 hp0 hp1 hb0 hb1
    · rw [if_neg h3]
      by_cases h2 : f.kind = 2
      · rw [if_pos h2]
        refine (arr2_any f A l c w hl (by omega) hg h2).mono ?_
        rintro e w' ⟨⟨g, A1, c1, A2, c2, rfl, hge, hbx, ho1, ho2⟩, hgr⟩
        exact ⟨⟨_, rfl, Arrs.two hge hbx ho1.bytes (fun q hq => ho1.base hq) ho2.bytes (fun q hq => ho2.base hq) _⟩, hgr⟩
      · rw [if_neg h2]
        have h0 : f.kind = 0 := by
          unfold fateB at hg
          rw [if_neg h1, if_neg h2] at hg
          by_cases h0 : f.kind = 0
          · exact h0
          · rw [if_neg h0, if_neg h3] at hg; cases hg
        refine (arr0_any f A l c w hl (by omega) hg h0).mono ?_
        rintro e w' ⟨⟨g, A1, c1, rfl, hge, hbx, ho1⟩, hgr⟩
        exact ⟨⟨_, rfl, Arrs.one hge hbx ho1.bytes (fun q hq => ho1.base hq) _⟩, hgr⟩
set_option maxRecDepth 100000 in
set_option maxHeartbeats 2000000 in
theorem refarr_any (f : Fate) (A : Option Addr) (l : List UInt8) (c : Nat) (w : World) (N : Nat) (hN : N ≤ w.heap.size) (hl : Bytes w A l) (hA : ∀ q, blk A = some q → N ≤ q) (hn : l.length ≤ 1000000) (hp0 : 0 ≤ f.pos) (hp1 : f.pos < 4294967296) (hb0 : 0 ≤ f.bits) (hb1 : f.bits < 4294967296) :
    Calls Try.prog 46 #[fv f, .slice A l.length c] w fun e w' => (∃ v, e = .returned v ∧ Arrs w' N v (arrOf f l)) ∧ Grow w w' := by
  have HG := hide (fun W => reffgood_any f W)
  have HL := hide (show arrOf f l = if fateB f = false ∨ f.kind = 1 then [] else if f.kind = 3 then [(f.delay, Crc.burstOf l f.pos.toNat f.bits.toNat)] else if f.kind = 2 then [(f.delay, l), (f.again, l)] else [(f.delay, l)] from rfl)
  generalize arrOf f l = L at *
  generalize fateB f = bb at *
  obtain ⟨kind, delay, again, pos, bits⟩ := f
  dsimp only at *
  obtain ⟨p, rfl⟩ := Int.eq_ofNat_of_zero_le hp0
  obtain ⟨b, rfl⟩ := Int.eq_ofNat_of_zero_le hb0
  rw [show ((p : Int)).toNat = p from rfl, show ((b : Int)).toNat = b from rfl] at HL
  have HC := hide (fun W h => refburst_any A l c p b W hn h (by omega) (by omega))
  generalize Crc.burstOf l p b = m at *
  have hp3 := hp1
  have hb3 := hb1
  clear hp0 hp1 hb0 hb1
  go_enter Try.func46, Try.ntmps46
  go_wp2_with fail
  refine (HG.out _).mono ?_
  rintro r w1 ⟨rfl, hb1⟩
  obtain ⟨p0, hg1⟩ := peel1 hb1
  have p0_ := hide p0
  clear p0
  have p0 := p0_
  clear p0_
  have hl := hl.grow hg1
  have HG1 := hide (show Grow w w1 from hg1)
  have hsz1 : w.heap.size ≤ w1.heap.size := HG1.out.size
  have hq1 : w.heap.size ≤ w1.heap.size := hg1.size
  have HS1 := hide hg1
  clear hb1 hg1
  obtain ⟨cp0, fp0, lp0⟩ := (show Box w1 _ _ from p0.out).rules
  cases bb with
  | false =>
    have hL := hide (HL.out.trans (if_pos (.inl rfl)))
    go_wp2
    go_ret
    exact ⟨⟨_, rfl, by rw [hL.out]; exact Arrs.nil _ _ _ _⟩, HG1.out⟩
  | true =>
    by_cases h1 : kind = 1
    · have hL := hide (HL.out.trans (if_pos (.inr h1)))
      subst h1
      go_wp2
      go_ret
      exact ⟨⟨_, rfl, by rw [hL.out]; exact Arrs.nil _ _ _ _⟩, HG1.out⟩
    have HL2 := hide (HL.out.trans (if_neg (by rintro (h | h); exact absurd h (by decide); exact h1 h)))
    clear HL
    by_cases h3 : kind = 3
    · have hL := hide (HL2.out.trans (if_pos h3))
      subst h3
      clear HL2 h1
      go_wp2_with fail
      have Rp0 := fun (W : World) (h : Grow w1.drew W) => ((show Box w1 _ _ from p0.out).grow (Grow.of_drew h)).cell
      have Fp0 := fun (W : World) (h : Grow w1.drew W) => ((show Box w1 _ _ from p0.out).grow (Grow.of_drew h)).fz
      refine wpR_region (Grow) [] (by kernel_rfl) ?_
      refine wpR_take grow_rf grow_tr 0 rfl (by kernel_rfl) (fun _ _ _ h => h) rfl (v := ?_) ?_ ?_
      rotate_left
      · (intro w' hG; go_simp; try with_reducible rfl)
      try simp only [Act.put, List.setIfInBounds_toArray, List.set_cons_zero, List.set_cons_succ]
      refine wpR_take grow_rf grow_tr 1 rfl (by kernel_rfl) (fun _ _ _ h => h) rfl (v := ?_) ?_ ?_
      rotate_left
      · (intro w' hG; go_simp; try with_reducible rfl)
      try simp only [Act.put, List.setIfInBounds_toArray, List.set_cons_zero, List.set_cons_succ]
      refine wpR_take grow_rf grow_tr 2 rfl (by kernel_rfl) (fun _ _ _ h => h) rfl (v := ?_) ?_ ?_
      rotate_left
      · (intro w' hG; go_simp; try with_reducible rfl)
      try simp only [Act.put, List.setIfInBounds_toArray, List.set_cons_zero, List.set_cons_succ]
      refine wpR_take grow_rf grow_tr 3 rfl (by kernel_rfl) (fun _ _ _ h => h) rfl (v := ?_) ?_ ?_
      rotate_left
      · (intro w' hG; go_simp; try with_reducible rfl)
      try simp only [Act.put, List.setIfInBounds_toArray, List.set_cons_zero, List.set_cons_succ]
      refine wpR_take grow_rf grow_tr 4 rfl (by kernel_rfl) (fun _ _ _ h => h) rfl (v := ?_) ?_ ?_
      rotate_left
      · (intro w' hG; go_simp; try with_reducible rfl)
      try simp only [Act.put, List.setIfInBounds_toArray, List.set_cons_zero, List.set_cons_succ]
      refine wpR_take grow_rf grow_tr 5 rfl (by kernel_rfl) (fun _ _ _ h => h) rfl (v := ?_) ?_ ?_
      rotate_left
      · (intro w' hG; go_simp; try with_reducible rfl)
      try simp only [Act.put, List.setIfInBounds_toArray, List.set_cons_zero, List.set_cons_succ]
      refine wpR_take grow_rf grow_tr 6 rfl (by kernel_rfl) (fun _ _ _ h => h) rfl (v := ?_) ?_ ?_
      rotate_left
      · (intro w' hG; go_simp; try with_reducible rfl)
      try simp only [Act.put, List.setIfInBounds_toArray, List.set_cons_zero, List.set_cons_succ]
      refine wpR_call 7 rfl (by kernel_rfl) rfl fun K hK => ?_
      go_simp
      refine (HC.out _ hl.drew).mono ?_
      rintro r w2 ⟨A1, c1, rfl, hown1, hb2⟩
      have ho1 := hide hown1
      clear hown1
      refine hK.out _ _ (.inr (hb2)) ?_
      clear hK
      try simp only [Act.put, List.setIfInBounds_toArray, List.set_cons_zero, List.set_cons_succ]
      clear Rp0 Fp0
      have hb2 := Grow.of_drew hb2
      clear cp0 fp0 lp0
      have hg2 := hb2
      have p0_ := hide ((show Box w1 _ _ from p0.out).grow hg2)
      clear p0
      have p0 := p0_
      clear p0_
      have hl := hl.grow hg2
      have HG2 := hide (Grow.trans (show Grow w w1 from HG1.out) hg2)
      clear HG1
      have hsz2 : w.heap.size ≤ w2.heap.size := HG2.out.size
      have hq2 : w1.heap.size ≤ w2.heap.size := hg2.size
      have HS2 := hide hg2
      clear hb2 hg2
      obtain ⟨cp0, fp0, lp0⟩ := (show Box w2 _ _ from p0.out).rules
      have Rp0 := fun (W : World) (h : Grow w2 W) => ((show Box w2 _ _ from p0.out).grow h).cell
      have Fp0 := fun (W : World) (h : Grow w2 W) => ((show Box w2 _ _ from p0.out).grow h).fz
      refine wpR_take grow_rf grow_tr 8 rfl (by kernel_rfl) (fun _ _ _ h => h) rfl (v := ?_) ?_ ?_
      rotate_left
      · (intro w' hG; go_simp; try with_reducible rfl)
      try simp only [Act.put, List.setIfInBounds_toArray, List.set_cons_zero, List.set_cons_succ]
      refine wpR_call 9 rfl (by kernel_rfl) rfl fun K hK => ?_
      go_simp
      skip
      refine hK.out _ _ (.inr ((Grow.refl w2).alloc _)) ?_
      clear hK
      try simp only [Act.put, List.setIfInBounds_toArray, List.set_cons_zero, List.set_cons_succ]
      refine wpR_take grow_rf grow_tr 10 rfl (by kernel_rfl) (fun _ _ _ h => h) rfl (v := ?_) ?_ ?_
      rotate_left
      · (intro w' hG; go_simp; try with_reducible rfl)
      try simp only [Act.put, List.setIfInBounds_toArray, List.set_cons_zero, List.set_cons_succ]
      refine wpR_done (by kernel_rfl) ?_ _
      clear Rp0 Fp0
      clear cp0 fp0 lp0
      have hb4 := (Grow.refl w2).alloc (.cells #[.int .i64 delay, .slice A1 m.length c1] 85)
      have nb := Box.new w2 #[.int .i64 delay, .slice A1 m.length c1] 85 rfl
      go_wp2
      go_ret
      refine ⟨⟨_, rfl, by rw [hL.out]; exact Arrs.one (by have := HG2.out.size; omega) nb (ho1.out.below hb4).bytes (fun q hq => by have := ho1.out.base hq; have e : w1.drew.heap.size = w1.heap.size := rfl; omega) 1⟩, Grow.trans HG2.out hb4⟩
    have HL3 := hide (HL2.out.trans (if_neg h3))
    clear HL2
    by_cases h2 : kind = 2
    · have hL := hide (HL3.out.trans (if_pos h2))
      subst h2
      clear HL3 h1 h3
      have hb4 := (Grow.refl w1).alloc (.cells #[.int .i64 delay, .slice A l.length c, .int .i64 again, .slice A l.length c] 85)
      have nb := Box.new w1 #[.int .i64 delay, .slice A l.length c, .int .i64 again, .slice A l.length c] 85 rfl
      have hN1 : N ≤ w1.heap.size := by omega
      go_wp2
      go_ret
      exact ⟨⟨_, rfl, by rw [hL.out]; exact Arrs.two hN1 nb (hl.grow hb4) hA (hl.grow hb4) hA 2⟩, Grow.trans HG1.out hb4⟩
    · have hL := hide (HL3.out.trans (if_neg h2))
      have k1 : (kind == 1) = false := by simpa using h1
      have k2 : (kind == 2) = false := by simpa using h2
      have k3 : (kind == 3) = false := by simpa using h3
      clear HL3 h1 h2 h3
      have hb4 := (Grow.refl w1).alloc (.cells #[.int .i64 delay, .slice A l.length c] 85)
      have nb := Box.new w1 #[.int .i64 delay, .slice A l.length c] 85 rfl
      have hN1 : N ≤ w1.heap.size := by omega
      go_wp2
      go_ret
      exact ⟨⟨_, rfl, by rw [hL.out]; exact Arrs.one hN1 nb (hl.grow hb4) hA 1⟩, Grow.trans HG1.out hb4⟩
end Go.Proofs.Ytcghgahohmabnaa
