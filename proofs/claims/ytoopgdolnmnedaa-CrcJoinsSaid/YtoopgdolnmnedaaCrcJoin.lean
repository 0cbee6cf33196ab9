/- The walks of the matrices of package crc. -/
import Derived.Test.YtoopgdolnmnedaaCrcLaw
namespace Go.Proofs.Ytoopgdolnmnedaa
open Go.RowKit
/-- block g is a matrix of the numbers f -/
def Mat (w : World) (g : Nat) (f : Nat → Nat) : Prop := ∃ (cs : Array Value) (t : TypeId), w.heap[g]? = some (.cells cs t (0, 0)) ∧ cs.size = 32 ∧ ∀ i, i < 32 → cs[i]? = some (.int .u32 (f i : Nat))
theorem Mat.cell {w : World} {g : Nat} {f : Nat → Nat} (h : Mat w g f) (i : Nat) (hi : i < 32) : w.cell? ⟨g, i, none⟩ = some (.int .u32 (f i : Nat)) := by
  obtain ⟨cs, t, hb, _, hc⟩ := h
  rw [cell_of_row w g i cs t (0, 0) hb]
  exact hc i hi
theorem Mat.lt {w : World} {g : Nat} {f : Nat → Nat} (h : Mat w g f) : g < w.heap.size := by
  obtain ⟨cs, t, hb, _, hc⟩ := h
  exact (Array.getElem?_eq_some_iff.1 hb).1
theorem Mat.below {w w' : World} {g : Nat} {f : Nat → Nat} (h : Mat w g f) (hb : Below w.heap.size w w') : Mat w' g f := by
  have hlt := h.lt
  obtain ⟨cs, t, h1, h2, hc⟩ := h
  exact ⟨cs, t, by rw [hb.block g hlt]; exact h1, h2, hc⟩
/-- the first k numbers stand -/
def MatTo (w : World) (g k : Nat) (f : Nat → Nat) : Prop := ∃ (cs : Array Value) (t : TypeId), w.heap[g]? = some (.cells cs t (0, 0)) ∧ cs.size = 32 ∧ ∀ i, i < k → cs[i]? = some (.int .u32 (f i : Nat))
theorem MatTo.cell {w : World} {g k : Nat} {f : Nat → Nat} (h : MatTo w g k f) (hk : k < 32) : ∃ v, w.cell? ⟨g, k, none⟩ = some v := by
  obtain ⟨cs, t, hb, hs, _⟩ := h
  rw [cell_of_row w g k cs t (0, 0) hb]
  exact ⟨cs[k], by simp [hs, hk]⟩
theorem MatTo.frozen {w : World} {g k : Nat} {f : Nat → Nat} (h : MatTo w g k f) : w.frozen? ⟨g, k, none⟩ = false := by
  obtain ⟨cs, t, hb, _⟩ := h
  exact frozen_of_row w g k cs t hb
theorem MatTo.set {w : World} {g k : Nat} {f : Nat → Nat} (h : MatTo w g k f) (hk : k < 32) : MatTo (w.setCell ⟨g, k, none⟩ (.int .u32 (f k : Nat))) g (k + 1) f := by
  obtain ⟨cs, t, hb, hs, hc⟩ := h
  refine ⟨cs.setIfInBounds k _, t, heap_setCell_same w g k cs t _ hb, by simpa using hs, fun i hi => ?_⟩
  rw [Array.getElem?_setIfInBounds]
  by_cases e : k = i
  · subst e; simp [hs, hk]
  · rw [if_neg e]; exact hc i (by omega)
theorem MatTo.keep {w w' : World} {g k : Nat} {f : Nat → Nat} (h : MatTo w g k f) (hb : w'.heap[g]? = w.heap[g]?) : MatTo w' g k f := by
  obtain ⟨cs, t, h1, h2, hc⟩ := h
  exact ⟨cs, t, by rw [hb]; exact h1, h2, hc⟩
set_option maxHeartbeats 1000000 in
theorem zero_any (w : World) : Calls Try.prog 23 #[] w fun e w' => ∃ g, e = .returned (.pointer (some ⟨g, 0, none⟩)) ∧ w.heap.size ≤ g ∧ Mat w' g (fun i => Crc.sts 8 (2 ^ i)) ∧ Below w.heap.size w w' := by
  go_enter Try.func23, Try.ntmps23
  have h0 : MatTo (w.alloc (.cells #[.int .u32 0, .int .u32 0, .int .u32 0, .int .u32 0, .int .u32 0, .int .u32 0, .int .u32 0, .int .u32 0, .int .u32 0, .int .u32 0, .int .u32 0, .int .u32 0, .int .u32 0, .int .u32 0, .int .u32 0, .int .u32 0, .int .u32 0, .int .u32 0, .int .u32 0, .int .u32 0, .int .u32 0, .int .u32 0, .int .u32 0, .int .u32 0, .int .u32 0, .int .u32 0, .int .u32 0, .int .u32 0, .int .u32 0, .int .u32 0, .int .u32 0, .int .u32 0] 44)) w.heap.size 0 (fun i => Crc.sts 8 (2 ^ i)) :=
    ⟨_, _, heap_alloc_new w _, rfl, fun i hi => absurd hi (by omega)⟩
  have hbel0 := (Below.refl w.heap.size w).alloc (Nat.le_refl _) (.cells #[.int .u32 0, .int .u32 0, .int .u32 0, .int .u32 0, .int .u32 0, .int .u32 0, .int .u32 0, .int .u32 0, .int .u32 0, .int .u32 0, .int .u32 0, .int .u32 0, .int .u32 0, .int .u32 0, .int .u32 0, .int .u32 0, .int .u32 0, .int .u32 0, .int .u32 0, .int .u32 0, .int .u32 0, .int .u32 0, .int .u32 0, .int .u32 0, .int .u32 0, .int .u32 0, .int .u32 0, .int .u32 0, .int .u32 0, .int .u32 0, .int .u32 0, .int .u32 0] 44)
  go_wp2
  go_loopw [4] (fun i wr => ∃ k : Nat, k ≤ 32 ∧ i = .int .i64 k ∧ MatTo wr w.heap.size k (fun i => Crc.sts 8 (2 ^ i)) ∧ Below w.heap.size w wr) (fun i _ => 32 - (intOf i).toNat)
  case atStart => exact ⟨0, by omega, rfl, h0, hbel0⟩
  case round =>
    obtain ⟨k, hk, rfl, hm, hbel⟩ := hrel
    clear h0 hbel0
    by_cases hlt : k < 32
    · obtain ⟨v0, hc0⟩ := hm.cell hlt
      have hf0 := hm.frozen
      have hP : 2 ^ k < 4294967296 := Nat.lt_of_lt_of_le (Nat.pow_lt_pow_right (by omega) hlt) (by omega)
      have E1 := hide (show ((2 : Int) ^ k % 4294967296) = ((2 ^ k : Nat) : Int) from (show ∀ m : Fin 32, ((2 : Int) ^ m.val % 4294967296) = ((2 ^ m.val : Nat) : Int) by decide) ⟨k, hlt⟩)
      obtain ⟨P, HP⟩ : ∃ P : Nat, Hid (P = 2 ^ k) := ⟨_, hide rfl⟩
      rw [← HP.out] at hP E1
      have EA := hide (show bits .and .u32 (P : Int) 255 = ((P % 256 : Nat) : Int) by have := u32_and_nat P 255 hP (by omega); rw [nat_mask8] at this; exact this)
      have EX := hide (show bits .xor .u32 ((P : Int) / 256) ((Crc.sts 8 (P % 256) : Nat) : Int) = ((Crc.sts 8 (2 ^ k) : Nat) : Int) by
        have := u32_xor_nat (P / 256) (Crc.sts 8 (P % 256)) (by omega) (Crc.sts_lt' 8 _ (by omega))
        rw [Crc.byte_zero, HP.out] at this
        rw [HP.out]
        exact this)
      have hq : P % 256 < 4294967296 := by omega
      go_wp2_with fail
      rw [E1.out]
      rw [EA.out]
      refine (halve_any (P % 256) _ hq).mono ?_
      rintro e w' ⟨rfl, rfl⟩
      go_wp2_with fail
      rw [EX.out]
      go_roundw
      case rel => exact ⟨k + 1, by omega, by go_num, hm.set hlt, hbel.setCell (p := ⟨w.heap.size, k, none⟩) (Nat.le_refl _) _⟩
      case measure => simp [intOf]; omega
    · obtain rfl : k = 32 := by omega
      go_wp2
      go_ret
      exact ⟨w.heap.size, rfl, Nat.le_refl _, hm, hbel⟩
set_option maxHeartbeats 1000000 in
theorem times_any (g n s : Nat) (w : World) (hs : s < 4294967296) (hm : Mat w g (fun i => Crc.sts n (2 ^ i))) :
    Calls Try.prog 24 #[.pointer (some ⟨g, 0, none⟩), .int .u32 s] w fun e w' => e = .returned (.int .u32 (Crc.sts n s : Nat)) ∧ w = w' := by
  go_enter Try.func24, Try.ntmps24
  go_wp2
  go_loop [1, 5, 6] (fun v o i => ∃ k X O : Nat, k ≤ 32 ∧ i = .int .i64 k ∧ v = .int .u32 (X : Nat) ∧ o = .int .u32 (O : Nat) ∧ Hid (X = s / 2 ^ k) ∧ Hid (O = Crc.sts n (s % 2 ^ k))) (fun _ _ i => 33 - (intOf i).toNat)
  case atStart => exact ⟨0, s, 0, by omega, rfl, rfl, rfl, hide (by simp), hide (by rw [Nat.pow_zero, Nat.mod_one, Crc.sts_zero])⟩
  case round =>
    obtain ⟨k, X, O, hk, rfl, rfl, rfl, HX, HO⟩ := hrel
    have hX : X < 4294967296 := by rw [HX.out]; exact Nat.lt_of_le_of_lt (Nat.div_le_self _ _) hs
    have hO : O < 4294967296 := by rw [HO.out]; exact Crc.sts_lt' _ _ (Nat.lt_of_le_of_lt (Nat.mod_le _ _) hs)
    have HH := hide (Crc.div_pow_half s k)
    by_cases h0 : X = 0
    · have HZ := hide (show O = Crc.sts n s by rw [HO.out, Crc.div_zero_lt s k (by rw [← HX.out]; exact h0)])
      subst h0
      go_wp2
      go_ret
      exact ⟨by rw [HZ.out]; rfl, rfl⟩
    · have hk32 : k < 32 := Crc.bits_32 s k hs (by rw [← HX.out]; exact h0)
      have ht : ((X : Int) != 0) = true := by rw [bne_iff_ne]; omega
      have hcell := hm.cell k hk32
      have hcl : Crc.sts n (2 ^ k) < 4294967296 := Crc.sts_lt' _ _ (Nat.lt_of_lt_of_le (Nat.pow_lt_pow_right (by omega) hk32) (by omega))
      obtain ⟨M, HM⟩ : ∃ M, Hid (M = Crc.sts n (2 ^ k)) := ⟨_, hide rfl⟩
      simp only [← HM.out] at hcell
      rw [← HM.out] at hcl
      clear hm
      have HA := u32_and1 X hX
      by_cases hb : X % 2 = 1
      · have ht2 : (bits .and .u32 (X : Int) 1 == 1) = true := by rw [HA, beq_iff_eq]; omega
        have EX := hide (u32_xor_nat O M hO hcl)
        have HB := hide hb
        have HS := hide (show O ^^^ M = Crc.sts n (s % 2 ^ (k + 1)) by rw [Crc.mod_bit1 s k (by rw [← HX.out]; exact hb), Crc.sts_xor, HO.out, HM.out])
        clear hb HA h0
        go_wp2
        rw [EX.out]
        go_round
        case rel => exact ⟨k + 1, X / 2, O ^^^ M, by omega, by go_num, rfl, rfl, hide (by rw [HX.out, HH.out]), HS⟩
        case measure => simp [intOf]; omega
      · have ht2 : (bits .and .u32 (X : Int) 1 == 1) = false := by rw [HA, beq_eq_false_iff_ne]; omega
        have HS := hide (show O = Crc.sts n (s % 2 ^ (k + 1)) by rw [Crc.mod_bit0 s k (by rw [← HX.out]; exact hb), HO.out])
        clear hb HA h0
        go_wp2
        go_round
        case rel => exact ⟨k + 1, X / 2, O, by omega, by go_num, rfl, rfl, hide (by rw [HX.out, HH.out]), HS⟩
        case measure => simp [intOf]; omega
theorem Mat.congr {w : World} {g : Nat} {f f' : Nat → Nat} (h : Mat w g f) (e : ∀ i, i < 32 → f i = f' i) : Mat w g f' := by
  obtain ⟨cs, t, h1, h2, hc⟩ := h
  exact ⟨cs, t, h1, h2, fun i hi => by rw [← e i hi]; exact hc i hi⟩
set_option maxHeartbeats 1000000 in
theorem square_any (g n : Nat) (w : World) (hm : Mat w g (fun i => Crc.sts n (2 ^ i))) :
    Calls Try.prog 25 #[.pointer (some ⟨g, 0, none⟩)] w fun e w' => ∃ g', e = .returned (.pointer (some ⟨g', 0, none⟩)) ∧ w.heap.size ≤ g' ∧ Mat w' g' (fun i => Crc.sts (n * 2) (2 ^ i)) ∧ Below w.heap.size w w' := by
  have hglt := hm.lt
  go_enter Try.func25, Try.ntmps25
  have h0 : MatTo (w.alloc (.cells #[.int .u32 0, .int .u32 0, .int .u32 0, .int .u32 0, .int .u32 0, .int .u32 0, .int .u32 0, .int .u32 0, .int .u32 0, .int .u32 0, .int .u32 0, .int .u32 0, .int .u32 0, .int .u32 0, .int .u32 0, .int .u32 0, .int .u32 0, .int .u32 0, .int .u32 0, .int .u32 0, .int .u32 0, .int .u32 0, .int .u32 0, .int .u32 0, .int .u32 0, .int .u32 0, .int .u32 0, .int .u32 0, .int .u32 0, .int .u32 0, .int .u32 0, .int .u32 0] 44)) w.heap.size 0 (fun i => Crc.sts (n * 2) (2 ^ i)) :=
    ⟨_, _, heap_alloc_new w _, rfl, fun i hi => absurd hi (by omega)⟩
  have hbel0 := (Below.refl w.heap.size w).alloc (Nat.le_refl _) (.cells #[.int .u32 0, .int .u32 0, .int .u32 0, .int .u32 0, .int .u32 0, .int .u32 0, .int .u32 0, .int .u32 0, .int .u32 0, .int .u32 0, .int .u32 0, .int .u32 0, .int .u32 0, .int .u32 0, .int .u32 0, .int .u32 0, .int .u32 0, .int .u32 0, .int .u32 0, .int .u32 0, .int .u32 0, .int .u32 0, .int .u32 0, .int .u32 0, .int .u32 0, .int .u32 0, .int .u32 0, .int .u32 0, .int .u32 0, .int .u32 0, .int .u32 0, .int .u32 0] 44)
  go_wp2
  go_loopw [5] (fun i wr => ∃ k : Nat, k ≤ 32 ∧ i = .int .i64 k ∧ MatTo wr w.heap.size k (fun i => Crc.sts (n * 2) (2 ^ i)) ∧ Below w.heap.size w wr) (fun i _ => 32 - (intOf i).toNat)
  case atStart => exact ⟨0, by omega, rfl, h0, hbel0⟩
  case round =>
    obtain ⟨k, hk, rfl, hmt, hbel⟩ := hrel
    clear h0 hbel0
    have hmr := hm.below hbel
    by_cases hlt : k < 32
    · obtain ⟨v0, hc0⟩ := hmt.cell hlt
      have hf0 := hmt.frozen
      have hcell := hmr.cell k hlt
      have hcl : Crc.sts n (2 ^ k) < 4294967296 := Crc.sts_lt' _ _ (Nat.lt_of_lt_of_le (Nat.pow_lt_pow_right (by omega) hlt) (by omega))
      have ES := hide (Crc.sts_twice n (2 ^ k))
      obtain ⟨M, HM⟩ : ∃ M, Hid (M = Crc.sts n (2 ^ k)) := ⟨_, hide rfl⟩
      simp only [← HM.out] at hcell
      rw [← HM.out] at hcl
      go_wp2_with fail
      refine (times_any g n M _ hcl hmr).mono ?_
      rintro e w' ⟨rfl, rfl⟩
      rw [HM.out, ES.out]
      go_wp2_with fail
      go_roundw
      case rel => exact ⟨k + 1, by omega, by go_num, hmt.set hlt, hbel.setCell (p := ⟨w.heap.size, k, none⟩) (Nat.le_refl _) _⟩
      case measure => simp [intOf]; omega
    · obtain rfl : k = 32 := by omega
      go_wp2
      go_ret
      exact ⟨w.heap.size, rfl, Nat.le_refl _, hmt, hbel⟩
theorem i64_and1 (n : Nat) (h : n < 9223372036854775808) : bits .and .i64 (n : Int) 1 = ((n % 2 : Nat) : Int) := by
  have hx : n &&& 1 < 2 ^ 63 := Nat.and_lt_two_pow _ (by omega)
  have e : ∀ a : Nat, a < 9223372036854775808 → (BitVec.ofInt 64 (a : Int)).toNat = a := fun a ha => by
    rw [BitVec.ofInt_natCast, BitVec.toNat_ofNat]; exact Nat.mod_eq_of_lt (by omega)
  show IntKind.i64.wrap ((BitVec.ofInt 64 (n : Int) &&& BitVec.ofInt 64 ((1 : Nat) : Int)).toNat : Int) = _
  rw [BitVec.toNat_and, e n h, e 1 (by omega), IntKind.wrap_i64, nat_mask1]
  omega
set_option maxHeartbeats 1000000 in
theorem join_any (a b : Nat) (n : Int) (w : World) (ha : a < 4294967296) (hb : b < 4294967296) (hn1 : -9223372036854775808 ≤ n) (hn2 : n ≤ 9223372036854775807) :
    Calls Try.prog 20 #[.int .u32 a, .int .u32 b, .int .i64 n] w fun e w' => e = .returned (.int .u32 (Crc.sts (8 * n.toNat) a ^^^ b : Nat)) ∧ Below w.heap.size w w' := by
  go_enter Try.func20, Try.ntmps20
  go_wp2_with fail
  refine (zero_any _).mono ?_
  rintro e w1 ⟨g, rfl, hg, hm, hbel⟩
  have hm0 : Mat w1 g (fun i => Crc.sts (8 * 2 ^ 0) (2 ^ i)) := hm
  by_cases hpos : 0 < n
  · obtain ⟨m, rfl⟩ := Int.eq_ofNat_of_zero_le (show 0 ≤ n by omega)
    have hm2 : m < 9223372036854775808 := by omega
    clear hn1 hn2 hm
    go_wp2
    go_loopw [0, 2, 7] (fun v x p wr => ∃ k X O g : Nat, Hid (0 ≤ k) ∧ x = .int .i64 (X : Nat) ∧ v = .int .u32 (O : Nat) ∧ p = .pointer (some ⟨g, 0, none⟩) ∧ Hid (X = m / 2 ^ k) ∧ Hid (O = Crc.sts (8 * (m % 2 ^ k)) a) ∧ Mat wr g (fun i => Crc.sts (8 * 2 ^ k) (2 ^ i)) ∧ Below w.heap.size w wr)
      (fun _ x _ _ => (intOf x).toNat)
    case atStart => exact ⟨0, m, a, g, hide (by omega), rfl, rfl, rfl, hide (by simp), hide (by rw [Nat.pow_zero, Nat.mod_one]; rfl), hm0, hbel⟩
    case round =>
      obtain ⟨k, X, O, g, _, rfl, rfl, rfl, HX, HO, hmr, hbelr⟩ := hrel
      clear hm0 hbel
      have hX : X < 9223372036854775808 := by rw [HX.out]; exact Nat.lt_of_le_of_lt (Nat.div_le_self _ _) hm2
      have hO : O < 4294967296 := by rw [HO.out]; exact Crc.sts_lt' _ _ ha
      have HH := hide (Crc.div_pow_half m k)
      by_cases h0 : X = 0
      · have HZ := hide (show O = Crc.sts (8 * m) a by rw [HO.out, Crc.div_zero_lt m k (by rw [← HX.out]; exact h0)])
        have EX := hide (u32_xor_nat O b hO hb)
        subst h0
        go_wp2
        go_ret
        exact ⟨by rw [Int.toNat_natCast, ← HZ.out, ← EX.out]; rfl, hbelr⟩
      · have hxp : 0 < X := by omega
        have HA := i64_and1 X hX
        have hmulr : 8 * 2 ^ k * 2 = 8 * 2 ^ (k + 1) := by rw [Nat.pow_succ]; ac_rfl
        have HMUL := hide hmulr
        clear hmulr
        by_cases hb1 : X % 2 = 1
        · have ht2 : (bits .and .i64 (X : Int) 1 == 1) = true := by rw [HA, beq_iff_eq]; omega
          have HB := hide hb1
          have HS := hide (show Crc.sts (8 * 2 ^ k) O = Crc.sts (8 * (m % 2 ^ (k + 1))) a by rw [HO.out, Crc.sts_mul, Crc.add_bit1 m k (by rw [← HX.out]; exact hb1)])
          clear hb1 HA h0
          go_wp2_with fail
          refine (times_any g (8 * 2 ^ k) O _ hO hmr).mono ?_
          rintro e w' ⟨rfl, rfl⟩
          go_wp2_with fail
          refine (square_any g (8 * 2 ^ k) _ hmr).mono ?_
          rintro e w2 ⟨g2, rfl, hg2, hm2', hbel2⟩
          rw [HMUL.out] at hm2'
          go_wp2
          go_roundw
          case rel => exact ⟨k + 1, X / 2, _, g2, hide (by omega), rfl, rfl, rfl, hide (by rw [HX.out, HH.out]), HS, hm2', hbelr.trans (hbel2.mono hbelr.size)⟩
          case measure => simp [intOf]; omega
        · have ht2 : (bits .and .i64 (X : Int) 1 == 1) = false := by rw [HA, beq_eq_false_iff_ne]; omega
          have HS := hide (show O = Crc.sts (8 * (m % 2 ^ (k + 1))) a by rw [Crc.mod_bit0 m k (by rw [← HX.out]; exact hb1), HO.out])
          clear hb1 HA h0
          go_wp2_with fail
          refine (square_any g (8 * 2 ^ k) _ hmr).mono ?_
          rintro e w2 ⟨g2, rfl, hg2, hm2', hbel2⟩
          rw [HMUL.out] at hm2'
          go_wp2
          go_roundw
          case rel => exact ⟨k + 1, X / 2, _, g2, hide (by omega), rfl, rfl, rfl, hide (by rw [HX.out, HH.out]), HS, hm2', hbelr.trans (hbel2.mono hbelr.size)⟩
          case measure => simp [intOf]; omega
  · have E0 := hide (show n.toNat = 0 by omega)
    have EX := hide (u32_xor_nat a b ha hb)
    have hn0 : n ≤ 0 := by omega
    go_wp2_with fail
    refine wp_loop_rounds 1 ?_
    rw [rounds_succ]
    go_wp2
    go_ret
    exact ⟨by rw [E0.out, Nat.mul_zero]; exact ret_int EX.out, hbel⟩
theorem join_none (a : Nat) (n : Int) (w : World) (ha : a < 4294967296) (hn1 : -9223372036854775808 ≤ n) (hn2 : n ≤ 0) :
    Calls Try.prog 20 #[.int .u32 a, .int .u32 0, .int .i64 n] w fun e w' => e = .returned (.int .u32 (a : Nat)) ∧ Below w.heap.size w w' := by
  have := join_any a 0 n w ha (by omega) hn1 (by omega)
  rw [show n.toNat = 0 by omega, Nat.mul_zero, Nat.xor_zero] at this
  exact this
theorem join_app (k k2 : List UInt8) (w : World) (h : k2.length ≤ 300) :
    Calls Try.prog 20 #[.int .u32 (Crc.sum k : Nat), .int .u32 (Crc.sum k2 : Nat), .int .i64 k2.length] w fun e w' => e = .returned (.int .u32 (Crc.sum (k ++ k2) : Nat)) ∧ Below w.heap.size w w' := by
  have := join_any (Crc.sum k) (Crc.sum k2) k2.length w (Crc.sum_lt' k) (Crc.sum_lt' k2) (by omega) (by omega)
  rw [Int.toNat_natCast, ← Crc.sum_append] at this
  exact this
set_option maxHeartbeats 2000000 in
theorem crcJoins_walk (A : Option Addr) (l : List UInt8) (c : Nat) (A2 : Option Addr) (l2 : List UInt8) (c2 : Nat) (n : Int) (w : World) (hl : l.length ≤ c) (hc : c ≤ 9223372036854775807) (hb : Bytes w A l) (hl2 : l2.length ≤ c2) (hc2 : c2 ≤ 9223372036854775807) (hb2 : Bytes w A2 l2) (hn : (Lit.int .i64 n).wf = true) :
    Calls Try.prog 8 #[.slice A l.length c, .slice A2 l2.length c2, .int .i64 n] w fun e w' => e = .returned (.bool true) ∧ Below w.heap.size w w' := by
  have hw := bounds_i64 hn
  clear hn
  have hk := cut_len l
  have hk2 := cut_len l2
  by_cases hpos : 0 < n
  all_goals
    go_enter Try.func8, Try.ntmps8
    go_wp2_with fail
    refine (cut_any A l c _ hl hc hb).mono ?_
    rintro e w1 ⟨A1, c1, rfl, hown, hbel⟩
    generalize l.take 300 = k at *
    go_wp2_with fail
    refine (cut_any A2 l2 c2 _ hl2 hc2 (hb2.below hbel)).mono ?_
    rintro e w2 ⟨A3, c3, rfl, hown2, hbel2⟩
    generalize l2.take 300 = k2 at *
    have hown1 := hown.below hbel2
    have hbelb : Below w.heap.size w w2 := hbel.trans (hbel2.mono hbel.size)
    clear hown hbel2 hb hb2 hbel
    go_wp2_with fail
    refine (refsum_any A1 k c1 _ (by omega) hown1.bytes).mono ?_
    rintro e w' ⟨rfl, rfl⟩
    go_wp2_with fail
    refine (refsum_any A3 k2 c3 _ (by omega) hown2.bytes).mono ?_
    rintro e w' ⟨rfl, rfl⟩
    go_wp2_with fail
    refine (join_app k k2 _ hk2).mono ?_
    rintro e w3 ⟨rfl, hbel3⟩
    have hown1 := hown1.below hbel3
    have hown2 := hown2.below hbel3
    have hbelb : Below w.heap.size w w3 := hbelb.trans (hbel3.mono hbelb.size)
    clear hbel3
    obtain ⟨k5, HK5⟩ : ∃ k5, Hid (k ++ k2 = k5) := ⟨_, hide rfl⟩
    rw [HK5.out]
    go_wp2_with fail
    refine (cut_id A1 k c1 _ hk hown1.le.1 hown1.le.2 hown1.bytes).mono ?_
    rintro e w4 ⟨A4, c4, rfl, hown4, hbel4⟩
    have hd1 : ∀ q, blk A1 = some q → blk A4 ≠ some q := fun q hq h4 => by have := hown1.lt hq; have := hown4.base h4; omega
    have hd2 : ∀ q, blk A3 = some q → blk A4 ≠ some q := fun q hq h4 => by have := hown2.lt hq; have := hown4.base h4; omega
    have hown1 := hown1.below hbel4
    have hown2 := hown2.below hbel4
    have hown4' := hown4.mono hbelb.size
    have hbelb : Below w.heap.size w w4 := hbelb.trans (hbel4.mono hbelb.size)
    clear hbel4 hown4
    go_wp2_with (at_builtin; refine wpList_append_bytes byteT rfl (.tmp 25) (.tmp 26) rfl hown4' hown2.bytes rfl rfl ?_ ?_ ?_)
    · omega
    · exact hbelb.size
    intro A5 c5 k6 w5 HL5 hown5 hg5 hat5
    obtain rfl : k6 = k5 := HL5.out.trans HK5.out
    have hown1 := hown1.grown hg5 hd1
    have hbelb : Below w.heap.size w w5 := hbelb.grown hg5 hbelb.size (fun q hq => hown4'.base hq)
    have hk6 : k6.length ≤ 600 := by rw [HL5.out, List.length_append]; omega
    have hs := Crc.sum_lt' k
    clear hg5 hat5 hd1 hd2 hown4' hown2 HK5
    go_wp2_with fail
    refine (refsum_any A5 k6 c5 _ (by omega) hown5.bytes).mono ?_
    rintro e w' ⟨rfl, rfl⟩
    go_wp2_with fail
    refine (refsum_any A1 k c1 _ (by omega) hown1.bytes).mono ?_
    rintro e w' ⟨rfl, rfl⟩
    go_wp2_with fail
    refine (join_none _ _ _ hs (by omega) (by omega)).mono ?_
    rintro e w6 ⟨rfl, hbel6⟩
    have hown1 := hown1.below hbel6
    have hbelb : Below w.heap.size w w6 := hbelb.trans (hbel6.mono hbelb.size)
    clear hbel6
    go_wp2_with fail
    refine (refsum_any A1 k c1 _ (by omega) hown1.bytes).mono ?_
    rintro e w' ⟨rfl, rfl⟩
    go_wp2_with fail
    refine (works_any _).mono ?_
    rintro e w9 ⟨rfl, hbel9⟩
    go_wp2
    go_ret
    exact ⟨rfl, hbelb.trans (hbel9.mono hbelb.size)⟩
end Go.Proofs.Ytoopgdolnmnedaa
