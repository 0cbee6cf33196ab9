/- The walks of attend.Due and of its document. -/
import Derived.Test.YtldgnallbkpchaaAtt
import Derived.Lib.Mul64
namespace Go.Proofs.Ytldgnallbkpchaa
open Go.RowKit
theorem mask32 (a : Nat) (ha : a < 18446744073709551616) : bits .and .u64 (a : Int) 4294967295 = ((a % 4294967296 : Nat) : Int) := by
  have h := u64_and_nat a 4294967295 ha (by omega)
  rw [show a &&& 4294967295 = a % 4294967296 from Nat.and_two_pow_sub_one_eq_mod a 32] at h
  exact h
theorem divN (a : Nat) : (a : Int) / 4294967296 = ((a / 4294967296 : Nat) : Int) := by omega
theorem mulN (a b : Nat) : (a : Int) * (b : Int) = ((a * b : Nat) : Int) := (Int.natCast_mul a b).symm
theorem addN (a b : Nat) : (a : Int) + (b : Int) = ((a + b : Nat) : Int) := (Int.natCast_add a b).symm
theorem wrapN (a : Nat) (ha : a < 18446744073709551616) : IntKind.u64.wrap (a : Int) = (a : Int) := by rw [IntKind.wrap_u64]; omega
theorem wrapM (a : Nat) : IntKind.u64.wrap (a : Int) = ((a % 18446744073709551616 : Nat) : Int) := by rw [IntKind.wrap_u64]; omega
set_option maxRecDepth 100000 in
set_option maxHeartbeats 1000000 in
theorem mul64_any (x y : Nat) (hx : Hid (x < 18446744073709551616)) (hy : Hid (y < 18446744073709551616)) (w : World) :
    Calls Try.prog 161 #[.int .u64 x, .int .u64 y] w fun e w' => e = .returned (.tuple #[.int .u64 ((x * y / 18446744073709551616 : Nat) : Int), .int .u64 ((x * y % 18446744073709551616 : Nat) : Int)]) ∧ w = w' := by
  obtain ⟨bd, bt, bw, hhi⟩ := Lib.mul64_hi x y hx.out hy.out
  have BD := hide bd
  have BT := hide bt
  have BW := hide bw
  have HHI := hide hhi
  clear bd bt bw hhi
  go_enter Try.func161, Try.ntmps161
  go_wp2
  have hx' := hx.out
  have hy' := hy.out
  have bd := BD.out
  have bt := BT.out
  have bw := BW.out
  have ba := Lib.half_mul_le (a := x / 4294967296) (b := y / 4294967296) (by omega) (by omega)
  have bb := Lib.half_mul_le (a := x / 4294967296) (b := y % 4294967296) (by omega) (by omega)
  have bc := Lib.half_mul_le (a := x % 4294967296) (b := y / 4294967296) (by omega) (by omega)
  have ba' : x / 4294967296 * (y / 4294967296) < 18446744073709551616 := by omega
  have bb' : x / 4294967296 * (y % 4294967296) < 18446744073709551616 := by omega
  have bc' : x % 4294967296 * (y / 4294967296) < 18446744073709551616 := by omega
  have bh1 : x / 4294967296 * (y / 4294967296) + (x / 4294967296 * (y % 4294967296) + x % 4294967296 * (y % 4294967296) / 4294967296) / 4294967296 < 18446744073709551616 := by omega
  have bh : x / 4294967296 * (y / 4294967296) + (x / 4294967296 * (y % 4294967296) + x % 4294967296 * (y % 4294967296) / 4294967296) / 4294967296 + ((x / 4294967296 * (y % 4294967296) + x % 4294967296 * (y % 4294967296) / 4294967296) % 4294967296 + x % 4294967296 * (y / 4294967296)) / 4294967296 < 18446744073709551616 := by omega
  simp only [mask32 x hx', mask32 y hy', divN, mulN, addN, wrapN _ bd, wrapN _ bb', wrapN _ bt, mask32 _ bt, wrapN _ bc', wrapN _ bw, wrapN _ ba', wrapN _ bh1, wrapN _ bh, wrapM (x * y)]
  rw [HHI.out]
  go_ret2
  exact ⟨rfl, rfl⟩
/-- when an attendance is due -/
def dueB (n e : Int) : Bool := decide (0 ≤ n) && decide (0 ≤ e) && decide (n * e ≤ 1152921504606846976)
def dueR (n e : Int) : Value := .tuple #[.int .i64 (if dueB n e then n * e else 0), .bool (dueB n e)]
theorem dueR_no {n e : Int} (h : dueB n e = false) : dueR n e = .tuple #[.int .i64 0, .bool false] := by unfold dueR; rw [h]; rfl
theorem dueR_yes {n e : Int} (h : dueB n e = true) : dueR n e = .tuple #[.int .i64 (n * e), .bool true] := by unfold dueR; rw [h]; rfl
set_option maxRecDepth 100000 in
set_option maxHeartbeats 1000000 in
theorem due_any (n e : Int) (w : World) (hn : Hid (n ≤ 9223372036854775807)) (he : Hid (e ≤ 9223372036854775807)) :
    Calls Try.prog 104 #[.int .i64 n, .int .i64 e] w fun r w' => r = .returned (dueR n e) ∧ Grow w w' := by
  by_cases h0 : 0 ≤ n
  · by_cases h1 : 0 ≤ e
    · obtain ⟨a, rfl⟩ := Int.eq_ofNat_of_zero_le h0
      obtain ⟨b, rfl⟩ := Int.eq_ofNat_of_zero_le h1
      have hM := hide (fun W => mul64_any a b (hide (by have := hn.out; omega)) (hide (by have := he.out; omega)) W)
      have hd : dueB (a : Int) (b : Int) = decide (a * b ≤ 1152921504606846976) := by
        unfold dueB
        rw [Bool.eq_iff_iff]
        simp [← Int.natCast_mul]
        omega
      have hpr : ((a : Int) * (b : Int)) = ((a * b : Nat) : Int) := (Int.natCast_mul a b).symm
      generalize hP : a * b = P at *
      have HP := hide hpr
      clear hpr hP h0 h1
      have ha : (a : Int) ≤ 9223372036854775807 := hn.out
      have hb : (b : Int) ≤ 9223372036854775807 := he.out
      by_cases hs : P ≤ 1152921504606846976
      · have HR := hide (dueR_yes (n := (a : Int)) (e := (b : Int)) (by rw [hd]; simpa using hs))
        have e1 : P / 18446744073709551616 = 0 := by omega
        have e2 : P % 18446744073709551616 = P := by omega
        rw [e1, e2] at hM
        clear hd e1 e2
        go_enter Try.func104, Try.ntmps104
        go_wp2_with fail
        refine (hM.out _).mono ?_
        rintro r w' ⟨rfl, rfl⟩
        go_wp2
        go_ret2
        rw [HR.out, HP.out]
        exact ⟨rfl, Grow.refl w⟩
      · have HR := hide (dueR_no (n := (a : Int)) (e := (b : Int)) (by rw [hd]; simpa using hs))
        clear hd
        by_cases hz : P / 18446744073709551616 = 0
        · have e2 : P % 18446744073709551616 = P := by omega
          rw [hz, e2] at hM
          have hs2 : 1152921504606846976 < P := by omega
          clear hz e2 hs
          go_enter Try.func104, Try.ntmps104
          go_wp2_with fail
          refine (hM.out _).mono ?_
          rintro r w' ⟨rfl, rfl⟩
          go_wp2
          go_ret2
          rw [HR.out]
          exact ⟨rfl, Grow.refl w⟩
        · generalize P / 18446744073709551616 = Q at *
          generalize P % 18446744073709551616 = R at *
          have hq : ((Q : Int) != 0) = true := by simpa using hz
          clear hz hs
          go_enter Try.func104, Try.ntmps104
          go_wp2_with fail
          refine (hM.out _).mono ?_
          rintro r w' ⟨rfl, rfl⟩
          go_wp2
          go_ret2
          rw [HR.out]
          exact ⟨rfl, Grow.refl w⟩
    · have HR := hide (dueR_no (n := n) (e := e) (by simp [dueB, h1]))
      go_enter Try.func104, Try.ntmps104
      go_wp2
      go_ret2
      rw [HR.out]
      exact ⟨rfl, Grow.refl w⟩
  · have HR := hide (dueR_no (n := n) (e := e) (by simp [dueB, h0]))
    go_enter Try.func104, Try.ntmps104
    go_wp2
    go_ret2
    rw [HR.out]
    exact ⟨rfl, Grow.refl w⟩
theorem due_div (n e : Int) (h1 : 0 < e) : (1152921504606846976 / e < n) ↔ ¬ (n * e ≤ 1152921504606846976) := by
  rw [Int.ediv_lt_iff_lt_mul h1]
  omega
set_option maxRecDepth 100000 in
set_option maxHeartbeats 1000000 in
theorem refdue_any (n e : Int) (w : World) :
    Calls Try.prog 105 #[.int .i64 n, .int .i64 e] w fun r w' => r = .returned (dueR n e) ∧ Grow w w' := by
  by_cases h0 : 0 ≤ n
  · by_cases h1 : 0 < e
    · have HD := hide (due_div n e h1)
      have hq1 : 0 ≤ 1152921504606846976 / e := Int.ediv_nonneg (by decide) (by omega)
      have hq2 : 1152921504606846976 / e ≤ 1152921504606846976 := Int.ediv_le_self _ (by decide)
      by_cases hs : n * e ≤ 1152921504606846976
      · have HR := hide (dueR_yes (n := n) (e := e) (by simp [dueB, h0, hs]; omega))
        have hc : decide (1152921504606846976 / e < n) = false := by simp only [decide_eq_false_iff_not]; exact fun h => HD.out.1 h hs
        have hm0 : 0 ≤ n * e := Int.mul_nonneg h0 (by omega)
        go_enter Try.func105, Try.ntmps105
        go_wp2
        go_ret2
        rw [HR.out]
        exact ⟨rfl, Grow.refl w⟩
      · have HR := hide (dueR_no (n := n) (e := e) (by simp [dueB]; intros; omega))
        have hc : decide (1152921504606846976 / e < n) = true := by simp only [decide_eq_true_eq]; exact HD.out.2 hs
        clear hs
        go_enter Try.func105, Try.ntmps105
        go_wp2
        go_ret2
        rw [HR.out]
        exact ⟨rfl, Grow.refl w⟩
    · by_cases h2 : e = 0
      · subst h2
        have HR := hide (dueR_yes (n := n) (e := 0) (by simp [dueB, h0]))
        go_enter Try.func105, Try.ntmps105
        go_wp2
        go_ret2
        rw [HR.out]
        exact ⟨by simp, Grow.refl w⟩
      · have h3 : e < 0 := by omega
        have HR := hide (dueR_no (n := n) (e := e) (by simp [dueB]; intros; omega))
        clear h2 h1
        go_enter Try.func105, Try.ntmps105
        go_wp2
        go_ret2
        rw [HR.out]
        exact ⟨rfl, Grow.refl w⟩
  · have HR := hide (dueR_no (n := n) (e := e) (by simp [dueB, h0]))
    go_enter Try.func105, Try.ntmps105
    go_wp2
    go_ret2
    rw [HR.out]
    exact ⟨rfl, Grow.refl w⟩
end Go.Proofs.Ytldgnallbkpchaa
