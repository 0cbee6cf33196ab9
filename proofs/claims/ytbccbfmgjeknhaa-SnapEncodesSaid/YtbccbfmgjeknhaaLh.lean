/- States (chapter 41): nodes.All, snap.many, snap.sums, the document's Total. -/
import Derived.Test.YtbccbfmgjeknhaaLg
namespace Go.Proofs.Ytbccbfmgjeknhaa
open Go.RowKit
theorem andnot_zero (a n : Nat) (ha : a < 18446744073709551616) (hn : n ≤ 64) : (a &&& (18446744073709551615 - (2 ^ n - 1)) = 0) ↔ a < 2 ^ n := by
  have hp : 0 < 2 ^ n := Nat.two_pow_pos n
  have e : 18446744073709551615 - (2 ^ n - 1) = (2 ^ (64 - n) - 1) * 2 ^ n := by
    rw [Nat.sub_mul, ← Nat.pow_add, show 64 - n + n = 64 by omega, Nat.one_mul]
    omega
  rw [e, ← Nat.shiftLeft_eq]
  constructor
  · intro h
    apply Nat.lt_pow_two_of_testBit
    intro i hi
    by_cases h64 : i < 64
    · have := congrArg (fun x => x.testBit i) h
      simp only [Nat.testBit_and, Nat.testBit_shiftLeft, Nat.testBit_two_pow_sub_one, Nat.zero_testBit] at this
      have h1 : decide (n ≤ i) = true := by simpa using hi
      have h2 : decide (i - n < 64 - n) = true := by simp; omega
      have h1' : decide (i ≥ n) = true := by simpa using hi
      rw [h1', h2] at this
      simpa using this
    · exact Nat.testBit_lt_two_pow (Nat.lt_of_lt_of_le ha (by
        have : (2 : Nat) ^ 64 ≤ 2 ^ i := Nat.pow_le_pow_right (by omega) (by omega)
        omega))
  · intro h
    apply Nat.eq_of_testBit_eq
    intro i
    rw [Nat.testBit_and, Nat.testBit_shiftLeft, Nat.zero_testBit]
    by_cases hi : n ≤ i
    · rw [Nat.testBit_lt_two_pow (Nat.lt_of_lt_of_le h (Nat.pow_le_pow_right (by omega) hi)), Bool.false_and]
    · have : decide (i ≥ n) = false := by simp; omega
      rw [this]
      simp
theorem bit_any (i : Nat) (w : World) (hi : i < 64) : Calls Try.prog 78 #[.int .i64 i] w fun r w' => r = .returned (.int .u64 ((2 ^ i : Nat) : Int)) ∧ w = w' := by
  have h0 : ¬ ((i : Int) < 0) := by omega
  have h1 : ¬ ((64 : Int) ≤ (i : Int)) := by omega
  have hp : (2 : Nat) ^ i < 18446744073709551616 := Nat.pow_lt_pow_right (a := 2) (by omega) hi
  have e : IntKind.u64.wrap ((2 : Int) ^ i) = ((2 ^ i : Nat) : Int) := by
    have e : (2 : Int) ^ i = ((2 ^ i : Nat) : Int) := by simp
    rw [e, IntKind.wrap_u64]
    exact Int.emod_eq_of_lt (Int.natCast_nonneg _) (Int.ofNat_lt.2 hp)
  go_enter Try.func78, Try.ntmps78
  go_wp2
  go_ret
  exact ⟨by simp, rfl⟩
theorem all_any (n : Nat) (w : World) (h1 : 1 ≤ n) (hn : n ≤ 64) : Calls Try.prog 61 #[.int .i64 n] w fun r w' => r = .returned (.int .u64 ((2 ^ n - 1 : Nat) : Int)) ∧ w = w' := by
  by_cases h : n = 64
  · subst h
    go_enter Try.func61, Try.ntmps61
    go_wp2
    go_ret
    exact ⟨rfl, rfl⟩
  · have h64 : n < 64 := by omega
    have hi1 : ¬ ((64 : Int) ≤ (n : Int)) := by omega
    have hi2 : ¬ ((n : Int) < 1) := by omega
    have hp : (2 : Nat) ^ n < 18446744073709551616 := Nat.pow_lt_pow_right (a := 2) (by omega) h64
    have hp0 : 0 < 2 ^ n := Nat.two_pow_pos n
    have HB := hide (bit_any n w h64)
    have e : ((2 ^ n - 1 : Nat) : Int) = ((2 ^ n : Nat) : Int) - 1 := by omega
    rw [e]
    generalize (2 : Nat) ^ n = P at *
    clear h e
    go_enter Try.func61, Try.ntmps61
    go_wp2_with fail
    refine HB.out.mono ?_
    rintro r w1 ⟨rfl, rfl⟩
    go_wp2
    go_ret
    exact ⟨rfl, rfl⟩
def manyB (n : Int) : Bool := decide (1 ≤ n) && decide (n ≤ 64)
theorem many_any (n : Int) (w : World) : Calls Try.prog 46 #[.int .i64 n] w fun r w' => r = .returned (.bool (manyB n)) ∧ w = w' := by
  unfold manyB
  by_cases h1 : 1 ≤ n
  · by_cases h2 : n ≤ 64
    · go_enter Try.func46, Try.ntmps46
      go_wp2
      go_ret
      exact ⟨by simp [h1, h2], rfl⟩
    · go_enter Try.func46, Try.ntmps46
      go_wp2
      go_ret
      exact ⟨by simp [h1, h2], rfl⟩
  · go_enter Try.func46, Try.ntmps46
    go_wp2
    go_ret
    exact ⟨by simp; omega, rfl⟩
theorem lcs_at (l : Lg) (k : Nat) (hk : k < l.of.length) : (lcs l).toArray[2 + k]? = some (u32v l.of[k]) := by
  rw [List.getElem?_toArray]
  unfold lcs
  rw [show 2 + k = k + 1 + 1 by omega, List.getElem?_cons_succ, List.getElem?_cons_succ, List.getElem?_map, List.getElem?_eq_getElem hk]
  rfl
set_option maxRecDepth 100000 in
set_option maxHeartbeats 1000000 in
theorem refltotal_any (l : Lg) (w : World) (h : l.Ok) : Calls Try.prog 45 #[.agg (lcs l).toArray] w fun r w' => r = .returned (.int .i64 (l.of.sum : Nat)) ∧ Grow w w' := by
  have hbx := Box.new w (lcs l).toArray 34 rfl
  have hcells := hide (fun k (hk : k < l.of.length) => (hbx.cell (2 + k)).trans (lcs_at l k hk))
  have hg := (Grow.refl w).alloc (.cells (lcs l).toArray 34)
  clear hbx
  generalize (lcs l).toArray = C at *
  have hlen := h.len
  have hlt := hide h.lt
  clear h
  generalize l.of = L at *
  generalize hW : w.alloc (.cells C 34) = w1 at *
  go_enter Try.func45, Try.ntmps45
  go_wp2
  clear hW
  go_loopw [3, 4] (fun s i wr => ∃ k S : Nat, k ≤ 64 ∧ i = .int .i64 k ∧ s = .int .i64 S ∧ Hid (S = (L.take k).sum) ∧ S ≤ 4294967296 * k ∧ wr = w1) (fun _ i _ => 64 - (intOf i).toNat)
  case atStart => exact ⟨0, 0, by omega, rfl, rfl, hide rfl, by omega, rfl⟩
  case round =>
    obtain ⟨k, S, hk, rfl, rfl, hS, hSl, rfl⟩ := hrel
    by_cases hltk : k < 64
    · have hki : (k : Int) < 64 := by omega
      have hkL : k < L.length := by omega
      have hsn : Hid ((L.take (k + 1)).sum = (L.take k).sum + L[k]) := hide (by rw [List.take_succ_eq_append_getElem hkL, List.sum_append]; simp)
      have hx := hlt.out _ (List.getElem_mem hkL)
      have hcell := hcells.out k hkL
      generalize L[k] = x at *
      clear hlen
      have hS2 : Hid (S + x = (L.take (k + 1)).sum) := hide (by rw [hsn.out, ← hS.out])
      go_wp2
      go_roundw
      case rel => exact ⟨k + 1, S + x, by omega, by go_num, by go_num, hS2, by omega, by simp⟩
      case measure => simp [intOf]; omega
    · obtain rfl : k = 64 := by omega
      have hS2 := hS.out
      rw [List.take_of_length_le (by omega)] at hS2
      subst hS2
      go_wp2
      go_ret
      exact ⟨rfl, hg⟩
end Go.Proofs.Ytbccbfmgjeknhaa
