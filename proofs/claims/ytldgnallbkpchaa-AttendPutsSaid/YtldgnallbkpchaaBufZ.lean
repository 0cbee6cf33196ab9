/- The walks of the rest of a writer. -/
import Derived.Test.YtldgnallbkpchaaBufN
namespace Go.Proofs.Ytldgnallbkpchaa
open Go.RowKit
theorem zig_val (x : Int) (h1 : -9223372036854775808 ≤ x) (h2 : x < 9223372036854775808) :
    bits .xor .u64 (IntKind.u64.wrap (IntKind.u64.wrap x * 2)) (IntKind.u64.wrap (x / 9223372036854775808)) = ((Buf.zig x : Nat) : Int) := by
  rw [IntKind.wrap_u64, IntKind.wrap_u64, IntKind.wrap_u64]
  by_cases h : x < 0
  · have e1 : x / 9223372036854775808 % 18446744073709551616 = ((18446744073709551615 : Nat) : Int) := by omega
    have e2 : x % 18446744073709551616 * 2 % 18446744073709551616 = (((2 * x + 18446744073709551616).toNat : Nat) : Int) := by omega
    rw [e1, e2, u64_xor_nat _ _ (by omega) (by omega), Buf.xor_ones64 _ (by omega)]
    unfold Buf.zig
    rw [if_pos h]
    omega
  · have e1 : x / 9223372036854775808 % 18446744073709551616 = ((0 : Nat) : Int) := by omega
    have e2 : x % 18446744073709551616 * 2 % 18446744073709551616 = (((2 * x).toNat : Nat) : Int) := by omega
    rw [e1, e2, u64_xor_nat _ _ (by omega) (by omega), Nat.xor_zero]
    unfold Buf.zig
    rw [if_neg h]
theorem zig_lt (x : Int) (h1 : -9223372036854775808 ≤ x) (h2 : x < 9223372036854775808) : Buf.zig x < 18446744073709551616 := by
  unfold Buf.zig
  split <;> omega
set_option maxRecDepth 100000 in
set_option maxHeartbeats 1000000 in
theorem zig_any (x : Int) (w : World) (h1 : Hid (-9223372036854775808 ≤ x)) (h2 : Hid (x < 9223372036854775808)) :
    Calls Try.prog 145 #[.int .i64 x] w fun r w' => r = .returned (.int .u64 (Buf.zig x : Nat)) ∧ w = w' := by
  go_enter Try.func145, Try.ntmps145
  go_wp2
  go_ret
  exact ⟨ret_int (zig_val x h1.out h2.out), rfl⟩
set_option maxRecDepth 100000 in
set_option maxHeartbeats 1000000 in
theorem done_ok (B p : Nat) (A : Option Addr) (c : Nat) (b : List UInt8) (most : Int) (w : World) (h : Wr w B p A c 0 b most) (hb : b.length ≤ 1000000000000) :
    Calls Try.prog 40 #[.pointer (some ⟨p, 0, none⟩)] w fun r w' => ∃ A' c', r = .returned (.tuple #[.slice A' b.length c', .int .i64 0]) ∧ Own w' w.heap.size A' c' b ∧ Grow w w' := by
  have hc0 := h.c0
  have hc1 := (h.grow ((Grow.refl w).alloc (.cells #[] 5))).c1
  have hbb := h.own.bytes
  go_enter Try.func40, Try.ntmps40
  go_wp2_with fail
  refine (fine_any p 0 _ hc0).mono ?_
  rintro r w' ⟨rfl, rfl⟩
  go_wp2_with (at_builtin; refine wpList_append_bytes byteT rfl (.tmp 18) (.tmp 22) rfl (Own.made w (base := w.heap.size) #[] 0 (Nat.le_refl _) (by decide) rfl) (hbb.alloc _) rfl rfl ?_ ?_ ?_)
  · simp; omega
  · simp
  intro A' c' b' w2 HL hown hg2 _
  have e : b' = b := HL.out.trans (by simp)
  subst e
  go_wp2
  go_ret2
  exact ⟨A', c', rfl, hown, (((Below.refl _ _).alloc (Nat.le_refl _) _).grown hg2 (by simp) (by simp [blk]))⟩
set_option maxRecDepth 100000 in
set_option maxHeartbeats 1000000 in
theorem done_bad (B p : Nat) (A : Option Addr) (c : Nat) (e : Int) (b : List UInt8) (most : Int) (w : World) (h : Wr w B p A c e b most) (he : (e == 0) = false) :
    Calls Try.prog 40 #[.pointer (some ⟨p, 0, none⟩)] w fun r w' => r = .returned (.tuple #[.slice none 0 0, .int .i64 e]) ∧ Grow w w' := by
  have hc0 := h.c0
  have hcw := fun (W : World) (g : Grow w.drew W) => (h.drew.grow g).c0
  go_enter Try.func40, Try.ntmps40
  go_wp2_with fail
  refine (fine_any p e _ hc0).mono ?_
  rintro r w' ⟨rfl, rfl⟩
  go_wp2_with fail
  refine wpG_region (by kernel_rfl) ?_
  refine wpG_take 0 rfl (by kernel_rfl) (fun _ _ _ h => h) rfl (v := ?_) ?_ ?_
  rotate_left
  · (intro w' hG; go_simp; try with_reducible rfl)
  try simp only [Act.put, List.setIfInBounds_toArray, List.set_cons_zero, List.set_cons_succ]
  refine wpG_take 1 rfl (by kernel_rfl) (fun _ _ _ h => h) rfl (v := ?_) ?_ ?_
  rotate_left
  · (intro w' hG; go_simp; try with_reducible rfl)
  try simp only [Act.put, List.setIfInBounds_toArray, List.set_cons_zero, List.set_cons_succ]
  refine wpG_take 2 rfl (by kernel_rfl) (fun _ _ _ h => h) rfl (v := ?_) ?_ ?_
  rotate_left
  · (intro w' hG; go_simp; try with_reducible rfl)
  try simp only [Act.put, List.setIfInBounds_toArray, List.set_cons_zero, List.set_cons_succ]
  refine wpG_take 3 rfl (by kernel_rfl) (fun _ _ _ h => h) rfl (v := ?_) ?_ ?_
  rotate_left
  · (intro w' hG; go_simp; try with_reducible rfl)
  try simp only [Act.put, List.setIfInBounds_toArray, List.set_cons_zero, List.set_cons_succ]
  refine wpG_take 4 rfl (by kernel_rfl) (fun _ _ _ h => h) rfl (v := ?_) ?_ ?_
  rotate_left
  · (intro w' hG; go_simp; try with_reducible rfl)
  try simp only [Act.put, List.setIfInBounds_toArray, List.set_cons_zero, List.set_cons_succ]
  refine wpG_take 5 rfl (by kernel_rfl) (fun _ _ _ h => h) rfl (v := ?_) ?_ ?_
  rotate_left
  · (intro w' hG; go_simp; try with_reducible rfl)
  try simp only [Act.put, List.setIfInBounds_toArray, List.set_cons_zero, List.set_cons_succ]
  refine wpG_take 6 rfl (by kernel_rfl) (fun _ _ _ h => h) rfl (v := ?_) ?_ ?_
  rotate_left
  · (intro w' hG; go_simp; try with_reducible rfl)
  try simp only [Act.put, List.setIfInBounds_toArray, List.set_cons_zero, List.set_cons_succ]
  refine wpG_done (by kernel_rfl) ?_ _
  go_wp2
  refine bodyPost_ret (results_tmp2 rfl _ _ _) rfl ?_
  exact ⟨rfl, (Grow.refl w).drew⟩
set_option maxRecDepth 100000 in
set_option maxHeartbeats 1000000 in
theorem wbytes_any (B p : Nat) (A : Option Addr) (c : Nat) (e : Int) (b : List UInt8) (most : Int) (A2 : Option Addr) (l : List UInt8) (c2 : Nat) (w : World) (h : Wr w B p A c e b most) (hl : Bytes w A2 l)
    (hb : b.length ≤ 1000000000000) (hll : l.length ≤ 1000000000000) (hB : B ≤ w.heap.size) (hd : ∀ q, blk A2 = some q → blk A ≠ some q) :
    Calls Try.prog 54 #[.pointer (some ⟨p, 0, none⟩), .slice A2 l.length c2] w fun r w' => r = .returned (.tuple #[]) ∧ Wrote w w' B p A (Buf.wput most (e, b) (Buf.sevens l.length ++ l)) most := by
  have hsl := Buf.sevens_len l.length
  have hx := hide (show l.length < 18446744073709551616 by omega)
  generalize hgs : Buf.sevens l.length = s at *
  have HG := hide hgs
  clear hgs
  by_cases he : e = 0
  · subst he
    by_cases hn : (s.length : Int) + l.length ≤ most - b.length
    · have HP := hide (show Buf.wput most (0, b) (s ++ l) = (0, b ++ s ++ l) by unfold Buf.wput; rw [if_neg (by simp), if_neg (by show ¬ most - (b.length : Int) < (s ++ l).length; rw [List.length_append]; omega), List.append_assoc])
      go_enter Try.func54, Try.ntmps54
      go_wp2_with fail
      refine (sevens_any l.length _ hx).mono ?_
      rw [HG.out]
      rintro r w1 ⟨A1, c1, rfl, hown, hg1⟩
      go_wp2_with fail
      refine (room_ok B p A c b most _ _ (h.grow hg1) hb hn).mono ?_
      rintro r w2 ⟨rfl, h2, hg2⟩
      have hl2 := (hl.grow hg1).grow hg2
      have hs2 := hown.bytes.grow hg2
      have hc1 := h2.c1
      have hB2 : B ≤ w2.heap.size := Nat.le_trans hB (hg1.trans hg2).size
      have hlt2 := h2.lt
      have hs2l : ∀ q, blk A1 = some q → blk A ≠ some q := fun q hq e => by have := hown.base hq; have := h.own.lt e; omega
      go_wp2_with (at_builtin; refine wpList_append_bytes byteT rfl (.tmp 20) (.tmp 21) rfl h2.own hs2 rfl rfl ?_ ?_ ?_)
      · omega
      · exact hB2
      intro A' c' b' w3 HL hown3 hg3 hat
      have hp3 : w3.heap[p]? = w2.heap[p]? := hg3.block p hlt2 (fun e => h2.apart e.symm)
      have hl3 : Bytes w3 A2 l := hl2.keep fun q o hq hlt => hg3.block q hlt (fun e => hd q (by rw [hq]; rfl) e.symm)
      have ha3 : blk A' ≠ some p := by
        rcases hat with hat | hat
        · rw [hat]; exact h2.apart
        · rw [hat]; intro e; injection e with e; omega
      have hk3 : Kept w.heap.size (foot p A) w w3 := (Kept.of_below (hg1.trans hg2) _).grown hg3 (hg1.trans hg2).size (fun q hq => .inr (by simp [foot, hq]))
      have hbl : b'.length ≤ 1000000000010 := by rw [HL.out, List.length_append]; omega
      have hat3 : ∀ q, blk A' = some q → blk A = some q ∨ w.heap.size ≤ q := fun q hq => by
        rcases hat with hat | hat
        · exact .inl (by rw [← hat]; exact hq)
        · rw [hat] at hq; injection hq with hq; exact .inr (by have := (hg1.trans hg2).size; omega)
      clear hat hs2 hs2l hl hown
      go_wp2_with (at_builtin; refine wpList_append_bytes byteT rfl (.tmp 22) (.tmp 23) rfl hown3 hl3 rfl rfl ?_ ?_ ?_)
      · omega
      · exact Nat.le_trans hB2 hg3.size
      intro A5 c5 b5 w5 HL5 hown5 hg5 hat5
      have hlt3 : p < w3.heap.size := Nat.lt_of_lt_of_le hlt2 hg3.size
      have hp5 : w5.heap[p]? = w2.heap[p]? := (hg5.block p hlt3 (fun e => ha3 e.symm)).trans hp3
      have ha5 : blk A5 ≠ some p := by
        rcases hat5 with hat | hat
        · rw [hat]; exact ha3
        · rw [hat]; intro e; injection e with e; omega
      have hcx : w5.cell? ⟨p, 1, none⟩ = some (.slice A b.length c) := (World.cell?_of_block hp5).trans hc1
      have hfx : w5.frozen? ⟨p, 1, none⟩ = false := (World.frozen?_of_block hp5).trans (h2.fz 1)
      have e5 : b5 = b ++ s ++ l := by rw [HL5.out, HL.out]
      have HE := hide e5
      clear e5
      go_wp2
      go_end0
      refine ⟨rfl, ?_⟩
      rw [HP.out, ← HE.out]
      refine ⟨A5, c5, h2.setBuf hp5 hown5 ha5, (hk3.grown hg5 hk3.size (fun q hq => ?_)).setCell (p := ⟨p, 1, none⟩) (.inr (by simp [foot])) _, fun q hq => ?_⟩
      · rcases hat3 q hq with h | h
        · exact .inr (by simp [foot, h])
        · exact .inl h
      · rcases hat5 with hat | hat
        · exact hat3 q (by rw [← hat]; exact hq)
        · rw [hat] at hq; injection hq with hq; exact .inr (by have := hk3.size; omega)
    · have HP := hide (show Buf.wput most (0, b) (s ++ l) = (4, b) by unfold Buf.wput; rw [if_neg (by simp), if_pos (by show most - (b.length : Int) < (s ++ l).length; rw [List.length_append]; omega)])
      go_enter Try.func54, Try.ntmps54
      go_wp2_with fail
      refine (sevens_any l.length _ hx).mono ?_
      rw [HG.out]
      rintro r w1 ⟨A1, c1, rfl, hown, hg1⟩
      go_wp2_with fail
      refine (room_long B p A c b most _ _ (h.grow hg1) hb (by omega)).mono ?_
      rintro r w2 ⟨rfl, h2, hk2⟩
      go_wp2
      go_end0
      refine ⟨rfl, ?_⟩
      rw [HP.out]
      exact Wrote.grown hg1 ⟨A, c, h2, hk2, fun q hq => .inl hq⟩
  · have he' : (e == 0) = false := by simpa using he
    have HP := hide (show Buf.wput most (e, b) (s ++ l) = (e, b) by unfold Buf.wput; rw [if_pos he])
    clear he
    go_enter Try.func54, Try.ntmps54
    go_wp2_with fail
    refine (sevens_any l.length _ hx).mono ?_
    rw [HG.out]
    rintro r w1 ⟨A1, c1, rfl, hown, hg1⟩
    go_wp2_with fail
    refine (room_bad B p A c e b most _ _ (h.grow hg1) he').mono ?_
    rintro r w' ⟨rfl, rfl⟩
    go_wp2
    go_end0
    refine ⟨rfl, ?_⟩
    rw [HP.out]
    exact Wrote.grown hg1 (Wrote.same (h.grow hg1))
set_option maxRecDepth 100000 in
set_option maxHeartbeats 1000000 in
theorem wint_any (B p : Nat) (A : Option Addr) (c : Nat) (e : Int) (b : List UInt8) (most : Int) (x : Int) (w : World) (h : Wr w B p A c e b most) (h1 : Hid (-9223372036854775808 ≤ x)) (h2 : Hid (x < 9223372036854775808))
    (hb : b.length ≤ 1000000000000) (hB : B ≤ w.heap.size) :
    Calls Try.prog 53 #[.pointer (some ⟨p, 0, none⟩), .int .i64 x] w fun r w' => r = .returned (.tuple #[]) ∧ Wrote w w' B p A (Buf.wput most (e, b) (Buf.sevens (Buf.zig x))) most := by
  have hz := hide (zig_lt x h1.out h2.out)
  go_enter Try.func53, Try.ntmps53
  go_wp2_with fail
  refine (zig_any x _ h1 h2).mono ?_
  rintro r w' ⟨rfl, rfl⟩
  go_wp2_with fail
  refine (num_any B p A c e b most _ _ h hz hb hB).mono ?_
  rintro r w2 ⟨rfl, hw⟩
  go_wp2
  go_end0
  exact ⟨rfl, hw⟩
end Go.Proofs.Ytldgnallbkpchaa
