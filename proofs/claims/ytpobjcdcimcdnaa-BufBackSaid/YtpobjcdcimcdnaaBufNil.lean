/- The walks of a writer and of a reader that are nil; the chapter's example; the walk of the statement BufNil. -/
import Derived.Test.YtpobjcdcimcdnaaRdr
import Derived.Test.YtpobjcdcimcdnaaFew
import Derived.OpenShut
namespace Go.Proofs.Ytpobjcdcimcdnaa
open Go.RowKit
set_option maxRecDepth 100000 in
set_option maxHeartbeats 1000000 in
theorem wroom_nil (n : Int) (w : World) : Calls Try.prog 97 #[.pointer none, .int .i64 n] w fun e w' => e = .returned (.bool false) ∧ w = w' := by
  go_enter Try.func97, Try.ntmps97
  go_wp2
  go_ret
  exact ⟨rfl, rfl⟩
set_option maxRecDepth 100000 in
set_option maxHeartbeats 1000000 in
theorem wbyte_nil (A : Option Addr) (n c : Nat) (w : World) : Calls Try.prog 36 #[.pointer none, .slice A n c] w fun e w' => e = .returned (.tuple #[]) ∧ w = w' := by
  go_enter Try.func36, Try.ntmps36
  go_wp2_with fail
  refine (wroom_nil _ _).mono ?_
  rintro r w' ⟨rfl, rfl⟩
  go_wp2
  go_end0
  exact ⟨rfl, rfl⟩
set_option maxRecDepth 100000 in
set_option maxHeartbeats 1000000 in
theorem wfixed_nil (x n : Int) (w : World) : Calls Try.prog 37 #[.pointer none, .int .u64 x, .int .i64 n] w fun e w' => e = .returned (.tuple #[]) ∧ w = w' := by
  go_enter Try.func37, Try.ntmps37
  go_wp2
  refine bodyPost_ret (results_none rfl _ _ _) rfl ?_
  exact ⟨rfl, rfl⟩
set_option maxRecDepth 100000 in
set_option maxHeartbeats 1000000 in
theorem wnum_nil (x : Nat) (hx : Hid (x < 18446744073709551616)) (w : World) : Calls Try.prog 31 #[.pointer none, .int .u64 x] w fun e w' => e = .returned (.tuple #[]) ∧ Grow w w' := by
  go_enter Try.func31, Try.ntmps31
  go_wp2_with fail
  refine (sevens_any x _ hx).mono ?_
  rintro r w1 ⟨A, c, rfl, hown, hb1⟩
  have hg1 := hb1
  have HG1 := hide (show Grow w w1 from hg1)
  have hsz1 : w.heap.size ≤ w1.heap.size := HG1.out.size
  have hq1 : w.heap.size ≤ w1.heap.size := hg1.size
  have HS1 := hide hg1
  clear hb1 hg1
  go_wp2_with fail
  refine (wbyte_nil _ _ _ _).mono ?_
  rintro r w' ⟨rfl, rfl⟩
  go_wp2
  go_end0
  exact ⟨rfl, HG1.out⟩
set_option maxRecDepth 100000 in
set_option maxHeartbeats 1000000 in
theorem wint_nil (x : Int) (h1 : Hid (-9223372036854775808 ≤ x)) (h2 : Hid (x < 9223372036854775808)) (w : World) : Calls Try.prog 38 #[.pointer none, .int .i64 x] w fun e w' => e = .returned (.tuple #[]) ∧ Grow w w' := by
  have hz := hide (zig_lt x h1.out h2.out)
  go_enter Try.func38, Try.ntmps38
  go_wp2_with fail
  refine (zig_any x _ h1 h2).mono ?_
  rintro r w' ⟨rfl, rfl⟩
  go_wp2_with fail
  refine (wnum_nil _ hz _).mono ?_
  rintro r w1 ⟨rfl, hb1⟩
  have hg1 := hb1
  have HG1 := hide (show Grow w w1 from hg1)
  have hsz1 : w.heap.size ≤ w1.heap.size := HG1.out.size
  have hq1 : w.heap.size ≤ w1.heap.size := hg1.size
  have HS1 := hide hg1
  clear hb1 hg1
  go_wp2
  go_end0
  exact ⟨rfl, HG1.out⟩
set_option maxRecDepth 100000 in
set_option maxHeartbeats 1000000 in
theorem wbytes_nil (w : World) : Calls Try.prog 39 #[.pointer none, .slice none 0 0] w fun e w' => e = .returned (.tuple #[]) ∧ Grow w w' := by
  have hz := hide (show 0 < 18446744073709551616 by decide)
  go_enter Try.func39, Try.ntmps39
  go_wp2_with fail
  refine (sevens_any 0 _ hz).mono ?_
  rintro r w1 ⟨A, c, rfl, hown, hb1⟩
  have hg1 := hb1
  have HG1 := hide (show Grow w w1 from hg1)
  have hsz1 : w.heap.size ≤ w1.heap.size := HG1.out.size
  have hq1 : w.heap.size ≤ w1.heap.size := hg1.size
  have HS1 := hide hg1
  clear hb1 hg1
  go_wp2_with fail
  refine (wroom_nil _ _).mono ?_
  rintro r w' ⟨rfl, rfl⟩
  go_wp2
  go_end0
  exact ⟨rfl, HG1.out⟩
set_option maxRecDepth 100000 in
set_option maxHeartbeats 1000000 in
theorem done_nil (w : World) : Calls Try.prog 25 #[.pointer none] w fun e w' => e = .returned (.tuple #[.slice none 0 0, .int .i64 1]) ∧ w = w' := by
  go_enter Try.func25, Try.ntmps25
  go_wp2
  go_ret2
  exact ⟨rfl, rfl⟩
set_option maxRecDepth 100000 in
set_option maxHeartbeats 1000000 in
theorem fixed_nil (n : Int) (w : World) : Calls Try.prog 41 #[.pointer none, .int .i64 n] w fun e w' => e = .returned (.int .u64 0) ∧ w = w' := by
  go_enter Try.func41, Try.ntmps41
  go_wp2
  go_ret
  exact ⟨rfl, rfl⟩
set_option maxRecDepth 100000 in
set_option maxHeartbeats 1000000 in
theorem byte_nil (w : World) : Calls Try.prog 40 #[.pointer none] w fun e w' => e = .returned (.int .u8 0) ∧ w = w' := by
  go_enter Try.func40, Try.ntmps40
  go_wp2_with fail
  refine (fixed_nil _ _).mono ?_
  rintro r w' ⟨rfl, rfl⟩
  go_wp2
  go_ret
  exact ⟨rfl, rfl⟩
set_option maxRecDepth 100000 in
set_option maxHeartbeats 1000000 in
theorem num_nil (w : World) : Calls Try.prog 29 #[.pointer none] w fun e w' => e = .returned (.int .u64 0) ∧ w = w' := by
  go_enter Try.func29, Try.ntmps29
  go_wp2
  go_ret
  exact ⟨rfl, rfl⟩
set_option maxRecDepth 100000 in
set_option maxHeartbeats 1000000 in
theorem int_nil (w : World) : Calls Try.prog 42 #[.pointer none] w fun e w' => e = .returned (.int .i64 0) ∧ w = w' := by
  have hz := hide (show 0 < 18446744073709551616 by decide)
  go_enter Try.func42, Try.ntmps42
  go_wp2_with fail
  refine (num_nil _).mono ?_
  rintro r w' ⟨rfl, rfl⟩
  go_wp2_with fail
  refine (zag_any 0 _ hz).mono ?_
  rintro r w' ⟨rfl, rfl⟩
  go_wp2
  go_ret
  exact ⟨rfl, rfl⟩
set_option maxRecDepth 100000 in
set_option maxHeartbeats 1000000 in
theorem bytes_nil (n : Int) (w : World) : Calls Try.prog 43 #[.pointer none, .int .i64 n] w fun e w' => e = .returned (.slice none 0 0) ∧ w = w' := by
  go_enter Try.func43, Try.ntmps43
  go_wp2_with fail
  refine (num_nil _).mono ?_
  rintro r w' ⟨rfl, rfl⟩
  go_wp2
  go_ret
  exact ⟨rfl, rfl⟩
set_option maxRecDepth 100000 in
set_option maxHeartbeats 1000000 in
theorem left_nil (w : World) : Calls Try.prog 28 #[.pointer none] w fun e w' => e = .returned (.int .i64 0) ∧ w = w' := by
  go_enter Try.func28, Try.ntmps28
  go_wp2
  go_ret
  exact ⟨rfl, rfl⟩
set_option maxRecDepth 100000 in
set_option maxHeartbeats 1000000 in
theorem err_nil (w : World) : Calls Try.prog 30 #[.pointer none] w fun e w' => e = .returned (.int .i64 1) ∧ w = w' := by
  go_enter Try.func30, Try.ntmps30
  go_wp2
  go_ret
  exact ⟨rfl, rfl⟩
set_option maxRecDepth 100000 in
set_option maxHeartbeats 1000000 in
theorem end_nil (w : World) : Calls Try.prog 32 #[.pointer none] w fun e w' => e = .returned (.int .i64 1) ∧ w = w' := by
  go_enter Try.func32, Try.ntmps32
  go_wp2_with fail
  refine (err_nil _).mono ?_
  rintro r w' ⟨rfl, rfl⟩
  go_wp2
  go_ret
  exact ⟨rfl, rfl⟩
theorem ex5a : Buf.wput 5 (0, []) (Buf.sevens 300) = (0, [172, 2]) := by decide +kernel
theorem ex5b : Buf.wput 5 (0, [172, 2]) (Buf.sevens (Buf.zig (-1))) = (0, [172, 2, 1]) := by decide +kernel
theorem ex5c : Buf.wfixed 5 (0, [172, 2, 1]) 258 2 = (0, [172, 2, 1, 2, 1]) := by decide +kernel
set_option maxRecDepth 100000 in
set_option maxHeartbeats 2000000 in
theorem works05_any (w : World) : Calls Try.prog 26 #[] w fun e w' => e = .returned (.bool true) ∧ Grow w w' := by
  have HN := hide (new_any 5 w (by decide))
  rw [show max (5 : Int) 0 = 5 by decide] at HN
  have hx1 := hide (show 300 < 18446744073709551616 by decide)
  have hi1 := hide (show (-9223372036854775808 : Int) ≤ -1 by decide)
  have hi2 := hide (show (-1 : Int) < 9223372036854775808 by decide)
  go_enter Try.func26, Try.ntmps26
  go_wp2_with fail
  refine HN.out.mono ?_
  rintro e w1 ⟨rfl, hw1, hg1⟩
  have hlow : w.heap.size < w1.heap.size := hw1.lt
  go_wp2_with fail
  refine (num_any _ _ none 0 0 [] 5 300 _ hw1 hx1 (by simp) hg1.size).mono ?_
  rw [ex5a]
  rintro e w2 ⟨rfl, hw2⟩
  have hg2 := hide (Wrote.fresh hw2 hg1 (Nat.le_refl _) (by simp [blk]))
  obtain ⟨A2, c2, hr2, hk2, ho2⟩ := hw2
  have ho2 : ∀ q, blk A2 = some q → w.heap.size ≤ q := fun q h => by have := ho2 q h; simp [blk] at this; omega
  clear hw1 hk2 hg1 HN
  go_wp2_with fail
  refine (wint_any _ _ A2 c2 0 [172, 2] 5 (-1) _ hr2 hi1 hi2 (by simp) hg2.out.size).mono ?_
  rw [ex5b]
  rintro e w3 ⟨rfl, hw3⟩
  have hg3 := hide (Wrote.fresh hw3 hg2.out (Nat.le_refl _) ho2)
  obtain ⟨A3, c3, hr3, hk3, ho3⟩ := hw3
  have ho3 : ∀ q, blk A3 = some q → w.heap.size ≤ q := fun q h => by have h2 := ho3 q h; have h3 := hg2.out.size; rcases h2 with h2 | h2; · exact ho2 q h2
                                                                     · omega
  clear hr2 hk3 hg2 ho2
  go_wp2_with fail
  refine (fixed_any _ _ A3 c3 0 [172, 2, 1] 5 258 2 _ hr3 (by simp) hg3.out.size).mono ?_
  rw [ex5c]
  rintro e w4 ⟨rfl, hw4⟩
  have hg4 := hide (Wrote.fresh hw4 hg3.out (Nat.le_refl _) ho3)
  obtain ⟨A4, c4, hr4, _, _⟩ := hw4
  clear hr3 hg3 ho3
  go_wp2_with fail
  refine (done_ok _ _ A4 c4 _ 5 _ hr4 (by simp)).mono ?_
  rintro e w5 ⟨A5, c5, rfl, hown5, hg5⟩
  have hcv : (convert 25 9 (.slice A5 5 c5)).run Try.prog w5 = .ok (.string ⟨#[172, 2, 1, 2, 1]⟩) w5 := conv_any c5 hown5.bytes
  have hg5' := hide ((show Grow w w4 from hg4.out).trans hg5)
  clear hr4 hg5 hg4 hown5
  go_wp2
  go_ret
  exact ⟨rfl, hg5'.out⟩
set_option maxRecDepth 100000 in
set_option maxHeartbeats 2000000 in
theorem bufNil_any (x : Nat) (n : Int) (w : World) (hx : x < 18446744073709551616) : Calls Try.prog 7 #[.int .u64 x, .int .i64 n] w fun e w' => e = .returned (.bool true) ∧ Grow w w' := by
  have hx := hide hx
  have hb := hide (show -9223372036854775808 ≤ wrap64 (x : Int) ∧ wrap64 (x : Int) < 9223372036854775808 by unfold wrap64; omega)
  have hi1 := hide hb.out.1
  have hi2 := hide hb.out.2
  clear hb
  go_enter Try.func7, Try.ntmps7
  go_wp2_with fail
  refine (wbyte_nil _ _ _ _).mono ?_
  rintro r w' ⟨rfl, rfl⟩
  go_wp2_with fail
  refine (wfixed_nil _ _ _).mono ?_
  rintro r w' ⟨rfl, rfl⟩
  go_wp2_with fail
  refine (wnum_nil _ hx _).mono ?_
  rintro r w1 ⟨rfl, hb1⟩
  have hb1 := Grow.trans ((Grow.refl w).alloc _) hb1
  have hg1 := hb1
  have HG1 := hide (show Grow w w1 from hg1)
  have hsz1 : w.heap.size ≤ w1.heap.size := HG1.out.size
  have hq1 : w.heap.size ≤ w1.heap.size := hg1.size
  have HS1 := hide hg1
  clear hb1 hg1
  go_wp2_with fail
  refine (wint_nil _ hi1 (hi2) _).mono ?_
  rintro r w2 ⟨rfl, hb2⟩
  have hg2 := hb2
  have HG2 := hide (Grow.trans (show Grow w w1 from HG1.out) hg2)
  clear HG1
  have hsz2 : w.heap.size ≤ w2.heap.size := HG2.out.size
  have hq2 : w1.heap.size ≤ w2.heap.size := hg2.size
  have HS2 := hide hg2
  clear hb2 hg2
  go_wp2_with fail
  refine (wbytes_nil _).mono ?_
  rintro r w3 ⟨rfl, hb3⟩
  have hg3 := hb3
  have HG3 := hide (Grow.trans (show Grow w w2 from HG2.out) hg3)
  clear HG2
  have hsz3 : w.heap.size ≤ w3.heap.size := HG3.out.size
  have hq3 : w2.heap.size ≤ w3.heap.size := hg3.size
  have HS3 := hide hg3
  clear hb3 hg3
  go_wp2_with fail
  refine (done_nil _).mono ?_
  rintro r w' ⟨rfl, rfl⟩
  go_wp2_with fail
  refine (byte_nil _).mono ?_
  rintro r w' ⟨rfl, rfl⟩
  go_wp2_with fail
  refine (fixed_nil _ _).mono ?_
  rintro r w' ⟨rfl, rfl⟩
  go_wp2_with fail
  refine (num_nil _).mono ?_
  rintro r w' ⟨rfl, rfl⟩
  go_wp2_with fail
  refine (int_nil _).mono ?_
  rintro r w' ⟨rfl, rfl⟩
  go_wp2_with fail
  refine (bytes_nil _ _).mono ?_
  rintro r w' ⟨rfl, rfl⟩
  go_wp2_with fail
  refine (left_nil _).mono ?_
  rintro r w' ⟨rfl, rfl⟩
  go_wp2_with fail
  refine (err_nil _).mono ?_
  rintro r w' ⟨rfl, rfl⟩
  go_wp2_with fail
  refine (end_nil _).mono ?_
  rintro r w' ⟨rfl, rfl⟩
  go_wp2_with fail
  refine (works05_any _).mono ?_
  rintro r w4 ⟨rfl, hb4⟩
  have hg4 := hb4
  have HG4 := hide (Grow.trans (show Grow w w3 from HG3.out) hg4)
  clear HG3
  have hsz4 : w.heap.size ≤ w4.heap.size := HG4.out.size
  have hq4 : w3.heap.size ≤ w4.heap.size := hg4.size
  have HS4 := hide hg4
  clear hb4 hg4
  go_wp2
  go_ret
  exact ⟨rfl, HG4.out⟩
theorem bufNil_int (x n : Int) (w : World) (hx : (Lit.int .u64 x).wf = true) (_hn : (Lit.int .i64 n).wf = true) : Calls Try.prog 7 #[.int .u64 x, .int .i64 n] w fun e w' => e = .returned (.bool true) ∧ Grow w w' := by
  have hb := bounds_u64 hx
  obtain ⟨y, rfl⟩ := Int.eq_ofNat_of_zero_le hb.1
  exact bufNil_any y n w (by omega)
end Go.Proofs.Ytpobjcdcimcdnaa
