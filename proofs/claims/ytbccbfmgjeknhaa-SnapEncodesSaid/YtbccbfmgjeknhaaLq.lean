/- ref03.Below, ref41.beyond, ref37.Nodes (chapter 41). -/
import Derived.Test.YtbccbfmgjeknhaaNod
import Derived.Test.YtbccbfmgjeknhaaLj
namespace Go.Proofs.Ytbccbfmgjeknhaa
open Go.RowKit
def belowR (L : List Nat) (n : Int) : Nat := L.countP (fun x : Nat => decide ((x : Int) < n))
set_option maxRecDepth 100000 in
set_option maxHeartbeats 2000000 in
theorem nbelow_any (s : Nat) (n : Int) (w : World) (hs : s < 18446744073709551616) (h0 : -9223372036854775808 ≤ n) (h1 : n ≤ 9223372036854775807) : Calls Try.prog 69 #[.int .u64 s, .int .i64 n] w fun r w' => r = .returned (.int .i64 (belowR (bitsTo s 64) n : Nat)) ∧ Grow w w' := by
  have HL := hide (nlist_any s w hs)
  have hlen := bitsTo_len s 64
  generalize bitsTo s 64 = L at *
  go_enter Try.func69, Try.ntmps69
  go_wp2_with fail
  refine HL.out.mono ?_
  rintro r0 w2 ⟨A, c, rfl, hown, hg⟩
  obtain ⟨A', c', hv, _, hL⟩ := OwnI.form hown
  obtain ⟨rfl, _⟩ : A = A' ∧ c = c' := by simpa using hv
  have hL := hide hL
  clear hown HL hv
  go_wp2
  go_loopw [5, 7] (fun j i wr => ∃ k m : Nat, k ≤ L.length ∧ i = .int .i64 k ∧ j = .int .i64 m ∧ m ≤ k ∧ Hid (m = belowR (L.take k) n) ∧ wr = w2) (fun _ i _ => L.length - (intOf i).toNat)
  case atStart => exact ⟨0, 0, by omega, rfl, rfl, Nat.le_refl _, hide (by simp [belowR]), rfl⟩
  case round =>
    obtain ⟨k, m, hk, rfl, rfl, hmk, hm, rfl⟩ := hrel
    by_cases hlt : k < L.length
    · have hlti : (k : Int) < (L.length : Int) := by omega
      obtain ⟨b, o, hA, hc⟩ := hL.out (by rintro rfl; simp at hlt)
      subst hA
      have hck := hc k hlt
      have hsn : Hid (belowR (L.take (k + 1)) n = belowR (L.take k) n + (if (L[k] : Int) < n then 1 else 0)) := hide (by
        unfold belowR
        rw [List.take_succ_eq_append_getElem hlt, List.countP_append, List.countP_singleton]
        simp)
      generalize L[k] = x at *
      clear hc
      by_cases hx : (x : Int) < n
      · go_wp2
        go_roundw
        case rel => exact ⟨k + 1, m + 1, by omega, by go_num, by go_num, by omega, hide (by rw [hsn.out, if_pos hx, hm.out]), trivial⟩
        case measure => simp [intOf]; omega
      · go_wp2
        go_roundw
        case rel => exact ⟨k + 1, m, by omega, by go_num, rfl, by omega, hide (by rw [hsn.out, if_neg hx, hm.out]; rfl), trivial⟩
        case measure => simp [intOf]; omega
    · obtain rfl : k = L.length := by omega
      have hm := hm.out
      rw [List.take_length] at hm
      subst hm
      clear hlt
      go_wp2
      go_ret
      exact ⟨rfl, hg⟩
def beyondB (s : Nat) (n : Int) : Bool := decide (belowR (bitsTo s 64) n < (bitsTo s 64).length)
theorem beyond_eq (s N : Nat) (hN : N ≤ 64) (hs : s < 18446744073709551616) : beyondB s (N : Nat) = !decide (s < 2 ^ N) := by
  have h1 : (∀ x, x ∈ bitsTo s 64 → x < N) ↔ s < 2 ^ N := by
    constructor
    · intro h
      refine Nat.lt_pow_two_of_testBit s (fun i hi => ?_)
      cases hb : s.testBit i with
      | false => rfl
      | true =>
        have h64 : i < 64 := by
          rcases Nat.lt_or_ge i 64 with h | h
          · exact h
          · rw [Nat.testBit_lt_two_pow (Nat.lt_of_lt_of_le hs (Nat.pow_le_pow_right (n := 2) (by decide) h))] at hb
            cases hb
        have := h i ((bitsTo_mem s 64 i).2 ⟨h64, hb⟩)
        omega
    · intro h x hx
      obtain ⟨_, hb⟩ := (bitsTo_mem s 64 x).1 hx
      rcases Nat.lt_or_ge x N with h2 | h2
      · exact h2
      · rw [Nat.testBit_lt_two_pow (Nat.lt_of_lt_of_le h (Nat.pow_le_pow_right (by decide) h2))] at hb
        cases hb
  unfold beyondB belowR
  by_cases h : s < 2 ^ N
  · have h2 := h1.2 h
    rw [List.countP_eq_length.2 (fun x hx => by have := h2 x hx; simpa using this)]
    simp [h]
  · have h3 : ¬ ((bitsTo s 64).countP (fun x : Nat => decide ((x : Int) < (N : Nat))) = (bitsTo s 64).length) := fun e => h (h1.1 (fun x hx => by have := List.countP_eq_length.1 e x hx; simpa using this))
    have h4 : (bitsTo s 64).countP (fun x : Nat => decide ((x : Int) < (N : Nat))) ≤ (bitsTo s 64).length := List.countP_le_length
    simp only [h, decide_false, Bool.not_false, decide_eq_true_eq]
    omega
set_option maxRecDepth 100000 in
set_option maxHeartbeats 2000000 in
theorem beyond_any (s : Nat) (n : Int) (w : World) (hs : s < 18446744073709551616) (h0 : -9223372036854775808 ≤ n) (h1 : n ≤ 9223372036854775807) : Calls Try.prog 44 #[.int .u64 s, .int .i64 n] w fun r w' => r = .returned (.bool (beyondB s n)) ∧ Grow w w' := by
  have HB := hide (fun W => nbelow_any s n W hs h0 h1)
  have HL := hide (fun W => nlist_any s W hs)
  have hlen := bitsTo_len s 64
  have e : Hid (beyondB s n = decide (belowR (bitsTo s 64) n < (bitsTo s 64).length)) := hide rfl
  have hbl : belowR (bitsTo s 64) n ≤ (bitsTo s 64).length := by unfold belowR; exact List.countP_le_length
  generalize belowR (bitsTo s 64) n = B at *
  generalize bitsTo s 64 = L at *
  by_cases hB : B < L.length
  · have e2 : beyondB s n = true := by rw [e.out]; simpa using hB
    rw [e2]
    clear e e2
    go_enter Try.func44, Try.ntmps44
    go_wp2_with fail
    refine (HB.out _).mono ?_
    rintro r0 w2 ⟨rfl, hg⟩
    go_wp2_with fail
    refine (HL.out _).mono ?_
    rintro r0 w3 ⟨A, c, rfl, _, hg3⟩
    go_wp2
    go_ret
    exact ⟨rfl, hg.trans hg3⟩
  · have e2 : beyondB s n = false := by rw [e.out]; simpa using hB
    rw [e2]
    clear e e2
    go_enter Try.func44, Try.ntmps44
    go_wp2_with fail
    refine (HB.out _).mono ?_
    rintro r0 w2 ⟨rfl, hg⟩
    go_wp2_with fail
    refine (HL.out _).mono ?_
    rintro r0 w3 ⟨A, c, rfl, _, hg3⟩
    go_wp2
    go_ret
    exact ⟨rfl, hg.trans hg3⟩
def nodesR (n : Int) : Nat := if n < 0 then 0 else if n > 64 then 64 else n.toNat
theorem refnodes_any (n : Int) (w : World) (h0 : -9223372036854775808 ≤ n) (h1 : n ≤ 9223372036854775807) : Calls Try.prog 75 #[.int .i64 n] w fun r w' => r = .returned (.int .i64 (nodesR n : Nat)) ∧ w = w' := by
  by_cases hn : n < 0
  · have e : nodesR n = 0 := if_pos hn
    rw [e]
    clear e
    go_enter Try.func75, Try.ntmps75
    go_wp2
    go_ret
    exact ⟨rfl, rfl⟩
  · by_cases h6 : n > 64
    · have e : nodesR n = 64 := by unfold nodesR; rw [if_neg hn, if_pos h6]
      rw [e]
      clear e
      go_enter Try.func75, Try.ntmps75
      go_wp2
      go_ret
      exact ⟨rfl, rfl⟩
    · have e : ((nodesR n : Nat) : Int) = n := by unfold nodesR; rw [if_neg hn, if_neg h6]; omega
      rw [e]
      clear e
      go_enter Try.func75, Try.ntmps75
      go_wp2
      go_ret
      exact ⟨rfl, rfl⟩
end Go.Proofs.Ytbccbfmgjeknhaa
