/- The walks of a writer of package buf. -/
import Derived.Test.YtldgnallbkpchaaRegion
import Derived.Test.YtldgnallbkpchaaFacts
import Derived.Test.YtldgnallbkpchaaBufMath
namespace Go.Proofs.Ytldgnallbkpchaa
open Go.RowKit
/-- block p is a writer: what is wrong, its bytes, how many may be -/
structure Wr (w : World) (B p : Nat) (A : Option Addr) (c : Nat) (e : Int) (b : List UInt8) (most : Int) : Prop where
  base : B ≤ p
  row : w.heap[p]? = some (.cells #[.int .i64 e, .slice A b.length c, .int .i64 most] 117 (0, 0))
  own : Own w B A c b
  apart : blk A ≠ some p
  room : 0 ≤ most
  low : most ≤ 9223372036854775807
section
variable {w w' : World} {B p : Nat} {A : Option Addr} {c : Nat} {e : Int} {b : List UInt8} {most : Int}
theorem Wr.c0 (h : Wr w B p A c e b most) : w.cell? ⟨p, 0, none⟩ = some (.int .i64 e) := by rw [cell_of_row w p 0 _ _ (0, 0) h.row]; rfl
theorem Wr.c1 (h : Wr w B p A c e b most) : w.cell? ⟨p, 1, none⟩ = some (.slice A b.length c) := by rw [cell_of_row w p 1 _ _ (0, 0) h.row]; rfl
theorem Wr.c2 (h : Wr w B p A c e b most) : w.cell? ⟨p, 2, none⟩ = some (.int .i64 most) := by rw [cell_of_row w p 2 _ _ (0, 0) h.row]; rfl
theorem Wr.fz (h : Wr w B p A c e b most) (i : Nat) : w.frozen? ⟨p, i, none⟩ = false := frozen_of_row w p i _ _ h.row
theorem Wr.lt (h : Wr w B p A c e b most) : p < w.heap.size := (Array.getElem?_eq_some_iff.1 h.row).1
theorem Wr.drew (h : Wr w B p A c e b most) : Wr w.drew B p A c e b most := ⟨h.base, h.row, h.own.drew, h.apart, h.room, h.low⟩
theorem Wr.keep (h : Wr w B p A c e b most) (h1 : w'.heap[p]? = w.heap[p]?) (h2 : ∀ g, blk A = some g → w'.heap[g]? = w.heap[g]?) : Wr w' B p A c e b most :=
  ⟨h.base, h1.trans h.row, h.own.kept h2, h.apart, h.room, h.low⟩
theorem Wr.grow (h : Wr w B p A c e b most) (hg : Grow w w') : Wr w' B p A c e b most := h.keep (hg.block p h.lt) (fun g hq => hg.block g (h.own.lt hq))
theorem Wr.setErr (h : Wr w B p A c e b most) (e' : Int) : Wr (w.setCell ⟨p, 0, none⟩ (.int .i64 e')) B p A c e' b most := by
  refine ⟨h.base, ?_, h.own.kept fun g hg => Below.heap_setCell _ _ _ _ (fun e => h.apart (by rw [hg, e])), h.apart, h.room, h.low⟩
  rw [heap_setCell_same w p 0 _ _ _ h.row]
  rfl
theorem Wr.setBuf (h : Wr w B p A c e b most) {A' : Option Addr} {c' : Nat} {b' : List UInt8} (hp : w'.heap[p]? = w.heap[p]?) (ho : Own w' B A' c' b') (ha : blk A' ≠ some p) :
    Wr (w'.setCell ⟨p, 1, none⟩ (.slice A' b'.length c')) B p A' c' e b' most := by
  have hb := hp.trans h.row
  refine ⟨h.base, ?_, ho.kept fun g hg => Below.heap_setCell _ _ _ _ (fun e => ha (by rw [hg, e])), ha, h.room, h.low⟩
  rw [heap_setCell_same w' p 1 _ _ _ hb]
  rfl
end
/-- the blocks that a writer may turn -/
def foot (p : Nat) (A : Option Addr) : List Nat := p :: (blk A).toList
set_option maxHeartbeats 400000 in
theorem fine_any (p : Nat) (e : Int) (w : World) (h : w.cell? ⟨p, 0, none⟩ = some (.int .i64 e)) :
    Calls Try.prog 135 #[.pointer (some ⟨p, 0, none⟩)] w fun r w' => r = .returned (.bool (e == 0)) ∧ w = w' := by
  go_enter Try.func135, Try.ntmps135
  go_wp2
  go_ret
  exact ⟨rfl, rfl⟩
set_option maxHeartbeats 400000 in
theorem fail_set (p : Nat) (k : Int) (w : World) (h : w.cell? ⟨p, 0, none⟩ = some (.int .i64 0)) (hf : w.frozen? ⟨p, 0, none⟩ = false) :
    Calls Try.prog 137 #[.pointer (some ⟨p, 0, none⟩), .int .i64 k] w fun r w' => r = .returned (.tuple #[]) ∧ w.setCell ⟨p, 0, none⟩ (.int .i64 k) = w' := by
  go_enter Try.func137, Try.ntmps137
  go_wp2
  go_end0
  exact ⟨rfl, rfl⟩
set_option maxHeartbeats 400000 in
theorem fail_keep (p : Nat) (k e : Int) (w : World) (h : w.cell? ⟨p, 0, none⟩ = some (.int .i64 e)) (he : (e == 0) = false) :
    Calls Try.prog 137 #[.pointer (some ⟨p, 0, none⟩), .int .i64 k] w fun r w' => r = .returned (.tuple #[]) ∧ w = w' := by
  go_enter Try.func137, Try.ntmps137
  go_wp2
  go_end0
  exact ⟨rfl, rfl⟩
set_option maxHeartbeats 400000 in
theorem new_any (most : Int) (w : World) (h : most ≤ 9223372036854775807) :
    Calls Try.prog 37 #[.int .i64 most] w fun r w' => r = .returned (.pointer (some ⟨w.heap.size, 0, none⟩)) ∧ Wr w' w.heap.size w.heap.size none 0 0 [] (max most 0) ∧ Below w.heap.size w w' := by
  by_cases h0 : 0 ≤ most
  · have HM := hide (show max most 0 = most by omega)
    go_enter Try.func37, Try.ntmps37
    go_wp2
    go_ret
    rw [HM.out]
    exact ⟨rfl, ⟨Nat.le_refl _, heap_alloc_new w _, Own.nil_ _ _, by simp [blk], h0, h⟩, (Below.refl _ _).alloc (Nat.le_refl _) _⟩
  · have HM := hide (show max most 0 = 0 by omega)
    go_enter Try.func37, Try.ntmps37
    go_wp2
    go_ret
    rw [HM.out]
    exact ⟨rfl, ⟨Nat.le_refl _, heap_alloc_new w _, Own.nil_ _ _, by simp [blk], by omega, by omega⟩, (Below.refl _ _).alloc (Nat.le_refl _) _⟩
set_option maxHeartbeats 1000000 in
theorem room_ok (B p : Nat) (A : Option Addr) (c : Nat) (b : List UInt8) (most n : Int) (w : World) (h : Wr w B p A c 0 b most) (hb : b.length ≤ 1000000000000) (hn : n ≤ most - b.length) :
    Calls Try.prog 143 #[.pointer (some ⟨p, 0, none⟩), .int .i64 n] w fun r w' => r = .returned (.bool true) ∧ Wr w' B p A c 0 b most ∧ Grow w w' := by
  have h0 := h.c0
  have hr := h.room
  have hlow := h.low
  have h1 := fun (W : World) (g : Grow w.drew W) => (h.drew.grow g).c1
  have h2 := fun (W : World) (g : Grow w.drew W) => (h.drew.grow g).c2
  go_enter Try.func143, Try.ntmps143
  go_wp2_with fail
  refine (fine_any p 0 _ h0).mono ?_
  rintro r w' ⟨rfl, rfl⟩
  go_wp2_with fail
  have e1 : IntKind.i64.wrap (most - (b.length : Int)) = most - (b.length : Int) := IntWalk.i64_in _ (by omega)
  have e2 : decide (most - (b.length : Int) < n) = false := by simp; omega
  refine wpG_region (by kernel_rfl) ?_
  refine wpG_take 0 rfl (by kernel_rfl) (fun _ _ _ h => h) rfl (v := ?_) ?_ ?_
  rotate_left
  · (intro w' hG; go_simp; try with_reducible rfl)
  try simp only [Act.put, List.setIfInBounds_toArray, List.set_cons_zero, List.set_cons_succ]
  refine wpG_take 1 rfl (by kernel_rfl) (fun _ _ _ h => h) rfl (v := ?_) ?_ ?_
  rotate_left
  · (intro w' hG; go_simp; try with_reducible rfl)
  try simp only [Act.put, List.setIfInBounds_toArray, List.set_cons_zero, List.set_cons_succ]
  refine wpG_take 2 rfl (by kernel_rfl) (fun _ _ _ h => h) rfl (v := ?_) ?_ ?_
  rotate_left
  · (intro w' hG; go_simp; try with_reducible rfl)
  try simp only [Act.put, List.setIfInBounds_toArray, List.set_cons_zero, List.set_cons_succ]
  refine wpG_take 3 rfl (by kernel_rfl) (fun _ _ _ h => h) rfl (v := ?_) ?_ ?_
  rotate_left
  · (intro w' hG; go_simp; try with_reducible rfl)
  try simp only [Act.put, List.setIfInBounds_toArray, List.set_cons_zero, List.set_cons_succ]
  refine wpG_take 4 rfl (by kernel_rfl) (fun _ _ _ h => h) rfl (v := ?_) ?_ ?_
  rotate_left
  · (intro w' hG; go_simp; try with_reducible rfl)
  try simp only [Act.put, List.setIfInBounds_toArray, List.set_cons_zero, List.set_cons_succ]
  refine wpG_take 5 rfl (by kernel_rfl) (fun _ _ _ h => h) rfl (v := ?_) ?_ ?_
  rotate_left
  · (intro w' hG; go_simp; try with_reducible rfl)
  try simp only [Act.put, List.setIfInBounds_toArray, List.set_cons_zero, List.set_cons_succ]
  refine wpG_take 6 rfl (by kernel_rfl) (fun _ _ _ h => h) rfl (v := ?_) ?_ ?_
  rotate_left
  · (intro w' hG; go_simp; try with_reducible rfl)
  try simp only [Act.put, List.setIfInBounds_toArray, List.set_cons_zero, List.set_cons_succ]
  refine wpG_take 7 rfl (by kernel_rfl) (fun _ _ _ h => h) rfl (v := ?_) ?_ ?_
  rotate_left
  · (intro w' hG; go_simp; try with_reducible rfl)
  try simp only [Act.put, List.setIfInBounds_toArray, List.set_cons_zero, List.set_cons_succ]
  refine wpG_take 8 rfl (by kernel_rfl) (fun _ _ _ h => h) rfl (v := ?_) ?_ ?_
  rotate_left
  · (intro w' hG; go_simp; try with_reducible rfl)
  try simp only [Act.put, List.setIfInBounds_toArray, List.set_cons_zero, List.set_cons_succ]
  refine wpG_take 9 rfl (by kernel_rfl) (fun _ _ _ h => h) rfl (v := ?_) ?_ ?_
  rotate_left
  · (intro w' hG; go_simp; try with_reducible rfl)
  try simp only [Act.put, List.setIfInBounds_toArray, List.set_cons_zero, List.set_cons_succ]
  refine wpG_take 10 rfl (by kernel_rfl) (fun _ _ _ h => h) rfl (v := ?_) ?_ ?_
  rotate_left
  · (intro w' hG; go_simp; try with_reducible rfl)
  try simp only [Act.put, List.setIfInBounds_toArray, List.set_cons_zero, List.set_cons_succ]
  refine wpG_take 11 rfl (by kernel_rfl) (fun _ _ _ h => h) rfl (v := ?_) ?_ ?_
  rotate_left
  · (intro w' hG; go_simp; try with_reducible rfl)
  try simp only [Act.put, List.setIfInBounds_toArray, List.set_cons_zero, List.set_cons_succ]
  refine wpG_done (by kernel_rfl) ?_ _
  go_wp2
  go_ret
  exact ⟨rfl, h.drew, (Grow.refl w).drew⟩
set_option maxHeartbeats 1000000 in
theorem room_long (B p : Nat) (A : Option Addr) (c : Nat) (b : List UInt8) (most n : Int) (w : World) (h : Wr w B p A c 0 b most) (hb : b.length ≤ 1000000000000) (hn : most - b.length < n) :
    Calls Try.prog 143 #[.pointer (some ⟨p, 0, none⟩), .int .i64 n] w fun r w' => r = .returned (.bool false) ∧ Wr w' B p A c 4 b most ∧ Kept w.heap.size (foot p A) w w' := by
  have h0 := h.c0
  have hr := h.room
  have hlow := h.low
  have h1 := fun (W : World) (g : Grow w.drew W) => (h.drew.grow g).c1
  have h2 := fun (W : World) (g : Grow w.drew W) => (h.drew.grow g).c2
  go_enter Try.func143, Try.ntmps143
  go_wp2_with fail
  refine (fine_any p 0 _ h0).mono ?_
  rintro r w' ⟨rfl, rfl⟩
  go_wp2_with fail
  have e1 : IntKind.i64.wrap (most - (b.length : Int)) = most - (b.length : Int) := IntWalk.i64_in _ (by omega)
  have e2 : decide (most - (b.length : Int) < n) = true := by simp; omega
  refine wpG_region (by kernel_rfl) ?_
  refine wpG_take 0 rfl (by kernel_rfl) (fun _ _ _ h => h) rfl (v := ?_) ?_ ?_
  rotate_left
  · (intro w' hG; go_simp; try with_reducible rfl)
  try simp only [Act.put, List.setIfInBounds_toArray, List.set_cons_zero, List.set_cons_succ]
  refine wpG_take 1 rfl (by kernel_rfl) (fun _ _ _ h => h) rfl (v := ?_) ?_ ?_
  rotate_left
  · (intro w' hG; go_simp; try with_reducible rfl)
  try simp only [Act.put, List.setIfInBounds_toArray, List.set_cons_zero, List.set_cons_succ]
  refine wpG_take 2 rfl (by kernel_rfl) (fun _ _ _ h => h) rfl (v := ?_) ?_ ?_
  rotate_left
  · (intro w' hG; go_simp; try with_reducible rfl)
  try simp only [Act.put, List.setIfInBounds_toArray, List.set_cons_zero, List.set_cons_succ]
  refine wpG_take 3 rfl (by kernel_rfl) (fun _ _ _ h => h) rfl (v := ?_) ?_ ?_
  rotate_left
  · (intro w' hG; go_simp; try with_reducible rfl)
  try simp only [Act.put, List.setIfInBounds_toArray, List.set_cons_zero, List.set_cons_succ]
  refine wpG_take 4 rfl (by kernel_rfl) (fun _ _ _ h => h) rfl (v := ?_) ?_ ?_
  rotate_left
  · (intro w' hG; go_simp; try with_reducible rfl)
  try simp only [Act.put, List.setIfInBounds_toArray, List.set_cons_zero, List.set_cons_succ]
  refine wpG_take 5 rfl (by kernel_rfl) (fun _ _ _ h => h) rfl (v := ?_) ?_ ?_
  rotate_left
  · (intro w' hG; go_simp; try with_reducible rfl)
  try simp only [Act.put, List.setIfInBounds_toArray, List.set_cons_zero, List.set_cons_succ]
  refine wpG_take 6 rfl (by kernel_rfl) (fun _ _ _ h => h) rfl (v := ?_) ?_ ?_
  rotate_left
  · (intro w' hG; go_simp; try with_reducible rfl)
  try simp only [Act.put, List.setIfInBounds_toArray, List.set_cons_zero, List.set_cons_succ]
  refine wpG_take 7 rfl (by kernel_rfl) (fun _ _ _ h => h) rfl (v := ?_) ?_ ?_
  rotate_left
  · (intro w' hG; go_simp; try with_reducible rfl)
  try simp only [Act.put, List.setIfInBounds_toArray, List.set_cons_zero, List.set_cons_succ]
  refine wpG_take 8 rfl (by kernel_rfl) (fun _ _ _ h => h) rfl (v := ?_) ?_ ?_
  rotate_left
  · (intro w' hG; go_simp; try with_reducible rfl)
  try simp only [Act.put, List.setIfInBounds_toArray, List.set_cons_zero, List.set_cons_succ]
  refine wpG_take 9 rfl (by kernel_rfl) (fun _ _ _ h => h) rfl (v := ?_) ?_ ?_
  rotate_left
  · (intro w' hG; go_simp; try with_reducible rfl)
  try simp only [Act.put, List.setIfInBounds_toArray, List.set_cons_zero, List.set_cons_succ]
  refine wpG_take 10 rfl (by kernel_rfl) (fun _ _ _ h => h) rfl (v := ?_) ?_ ?_
  rotate_left
  · (intro w' hG; go_simp; try with_reducible rfl)
  try simp only [Act.put, List.setIfInBounds_toArray, List.set_cons_zero, List.set_cons_succ]
  refine wpG_take 11 rfl (by kernel_rfl) (fun _ _ _ h => h) rfl (v := ?_) ?_ ?_
  rotate_left
  · (intro w' hG; go_simp; try with_reducible rfl)
  try simp only [Act.put, List.setIfInBounds_toArray, List.set_cons_zero, List.set_cons_succ]
  refine wpG_done (by kernel_rfl) ?_ _
  go_wp2_with fail
  refine (fail_set p 4 _ h.drew.c0 (h.drew.fz 0)).mono ?_
  rintro r w' ⟨rfl, rfl⟩
  go_wp2
  go_ret
  exact ⟨rfl, h.drew.setErr 4, ((Kept.refl _ _ w).drew).setCell (p := ⟨p, 0, none⟩) (.inr (by simp [foot])) _⟩
set_option maxHeartbeats 1000000 in
theorem room_bad (B p : Nat) (A : Option Addr) (c : Nat) (e : Int) (b : List UInt8) (most n : Int) (w : World) (h : Wr w B p A c e b most) (he : (e == 0) = false) :
    Calls Try.prog 143 #[.pointer (some ⟨p, 0, none⟩), .int .i64 n] w fun r w' => r = .returned (.bool false) ∧ w = w' := by
  have h0 := h.c0
  go_enter Try.func143, Try.ntmps143
  go_wp2_with fail
  refine (fine_any p e _ h0).mono ?_
  rintro r w' ⟨rfl, rfl⟩
  go_wp2
  go_ret
  exact ⟨rfl, rfl⟩
/-- what a call on a writer leaves -/
def Wrote (w w' : World) (B p : Nat) (A : Option Addr) (s : Int × List UInt8) (most : Int) : Prop :=
  ∃ A' c', Wr w' B p A' c' s.1 s.2 most ∧ Kept w.heap.size (foot p A) w w' ∧ ∀ q, blk A' = some q → blk A = some q ∨ w.heap.size ≤ q
theorem Wrote.same {w : World} {B p : Nat} {A : Option Addr} {c : Nat} {e : Int} {b : List UInt8} {most : Int} (h : Wr w B p A c e b most) : Wrote w w B p A (e, b) most :=
  ⟨A, c, h, Kept.refl _ _ _, fun _ hq => .inl hq⟩
theorem Wrote.grown {w0 w w' : World} {B p : Nat} {A : Option Addr} {s : Int × List UInt8} {most : Int} (hg : Grow w0 w) (h : Wrote w w' B p A s most) : Wrote w0 w' B p A s most := by
  obtain ⟨A', c', h1, h2, h3⟩ := h
  refine ⟨A', c', h1, (Kept.of_below hg _).trans (h2.mono hg.size (fun _ _ h => h)), fun q hq => ?_⟩
  rcases h3 q hq with h | h
  · exact .inl h
  · exact .inr (Nat.le_trans hg.size h)
set_option maxHeartbeats 1000000 in
theorem byte_any (B p : Nat) (A : Option Addr) (c : Nat) (e : Int) (b : List UInt8) (most : Int) (A2 : Option Addr) (l : List UInt8) (c2 : Nat) (w : World) (h : Wr w B p A c e b most) (hl : Bytes w A2 l)
    (hb : b.length ≤ 1000000000000) (hll : l.length ≤ 1000000000000) (hB : B ≤ w.heap.size) :
    Calls Try.prog 51 #[.pointer (some ⟨p, 0, none⟩), .slice A2 l.length c2] w fun r w' => r = .returned (.tuple #[]) ∧ Wrote w w' B p A (Buf.wput most (e, b) l) most := by
  by_cases he : e = 0
  · subst he
    by_cases hn : (l.length : Int) ≤ most - b.length
    · have HP := hide (show Buf.wput most (0, b) l = (0, b ++ l) by unfold Buf.wput; rw [if_neg (by simp), if_neg (by show ¬ most - (b.length : Int) < l.length; omega)])
      go_enter Try.func51, Try.ntmps51
      go_wp2_with fail
      refine (room_ok B p A c b most _ _ h hb hn).mono ?_
      rintro r w1 ⟨rfl, h1, hg1⟩
      have hl1 := hl.grow hg1
      have hc1 := h1.c1
      have hB1 : B ≤ w1.heap.size := Nat.le_trans hB hg1.size
      go_wp2_with (at_builtin; refine wpList_append_bytes byteT rfl (.tmp 12) (.tmp 13) rfl h1.own hl1 rfl rfl ?_ ?_ ?_)
      · omega
      · exact hB1
      intro A' c' b' w2 HL hown hg2 hat
      have hp : w2.heap[p]? = w1.heap[p]? := hg2.block p h1.lt (fun e => h1.apart e.symm)
      have ha : blk A' ≠ some p := by
        rcases hat with hat | hat
        · rw [hat]; exact h1.apart
        · rw [hat]; intro e; injection e with e; have := h1.lt; omega
      have hcx : w2.cell? ⟨p, 1, none⟩ = some (.slice A b.length c) := (World.cell?_of_block hp).trans hc1
      have hfx : w2.frozen? ⟨p, 1, none⟩ = false := (World.frozen?_of_block hp).trans (h1.fz 1)
      go_wp2
      go_end0
      refine ⟨rfl, ?_⟩
      rw [HP.out]
      have e : b' = b ++ l := HL.out
      subst e
      refine ⟨A', c', h1.setBuf hp hown ha, (((Kept.of_below hg1 _).grown hg2 hg1.size (fun q hq => ?_))).setCell (p := ⟨p, 1, none⟩) (.inr (by simp [foot])) _, fun q hq => ?_⟩
      · exact .inr (by simp [foot, hq])
      · rcases hat with hat | hat
        · exact .inl (by rw [← hat]; exact hq)
        · rw [hat] at hq; injection hq with hq; exact .inr (by have := hg1.size; omega)
    · have HP := hide (show Buf.wput most (0, b) l = (4, b) by unfold Buf.wput; rw [if_neg (by simp), if_pos (by show most - (b.length : Int) < l.length; omega)])
      go_enter Try.func51, Try.ntmps51
      go_wp2_with fail
      refine (room_long B p A c b most _ _ h hb (by omega)).mono ?_
      rintro r w1 ⟨rfl, h1, hk1⟩
      go_wp2
      go_end0
      refine ⟨rfl, ?_⟩
      rw [HP.out]
      exact ⟨A, c, h1, hk1, fun q hq => .inl hq⟩
  · have he' : (e == 0) = false := by simpa using he
    have HP := hide (show Buf.wput most (e, b) l = (e, b) by unfold Buf.wput; rw [if_pos he])
    clear he
    go_enter Try.func51, Try.ntmps51
    go_wp2_with fail
    refine (room_bad B p A c e b most _ _ h he').mono ?_
    rintro r w' ⟨rfl, rfl⟩
    go_wp2
    go_end0
    refine ⟨rfl, ?_⟩
    rw [HP.out]
    exact Wrote.same h
end Go.Proofs.Ytldgnallbkpchaa
