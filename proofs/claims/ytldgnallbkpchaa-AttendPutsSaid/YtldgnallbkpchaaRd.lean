/- The walks of a reader of package buf. -/
import Derived.Test.YtldgnallbkpchaaRegion
import Derived.Test.YtldgnallbkpchaaFacts
import Derived.Test.YtldgnallbkpchaaBufW
import Derived.Test.YtldgnallbkpchaaBox
import Derived.Test.YtldgnallbkpchaaRdMath
namespace Go.Proofs.Ytldgnallbkpchaa
open Go.RowKit
/-- block p is a reader: what is left, what is wrong; its blocks lie below N -/
def Rd (w : World) (N p : Nat) (s : List UInt8 × Int) : Prop :=
  ∃ A c l, w.heap[p]? = some (.cells #[.int .i64 s.2, .slice A l.length c] 121 (0, 0)) ∧ l.length ≤ c ∧ c ≤ 9223372036854775807 ∧ Bytes w A l ∧ p < N ∧ N ≤ w.heap.size ∧ (∀ q, blk A = some q → q < N ∧ q ≠ p) ∧ (s.2 = 0 → l = s.1) ∧ (s.2 ≠ 0 → s.1 = [])
section
variable {w w' : World} {N p : Nat} {s : List UInt8 × Int}
theorem Rd.below (h : Rd w N p s) (hb : Below N w w') : Rd w' N p s := by
  obtain ⟨A, c, l, h1, h2, h3, h4, h5, h6, h7, h8⟩ := h
  refine ⟨A, c, l, (hb.block p h5).trans h1, h2, h3, h4.keep fun b o hA _ => hb.block b (h7 b (by rw [hA]; rfl)).1, h5, Nat.le_trans h6 hb.size, h7, h8⟩
theorem Rd.size (h : Rd w N p s) : N ≤ w.heap.size := by obtain ⟨A, c, l, h1, h2, h3, h4, h5, h6, h7, h8⟩ := h; exact h6
theorem Rd.grow (h : Rd w N p s) (hb : Grow w w') : Rd w' N p s := h.below (Below.mono hb h.size)
theorem Rd.lt (h : Rd w N p s) : p < N := by obtain ⟨A, c, l, h1, h2, h3, h4, h5, h6, h7, h8⟩ := h; exact h5
theorem Rd.drew (h : Rd w N p s) : Rd w.drew N p s := h
theorem Rd.fz (h : Rd w N p s) (i : Nat) : w.frozen? ⟨p, i, none⟩ = false := by obtain ⟨A, c, l, h1, _⟩ := h; exact frozen_of_row w p i _ _ h1
theorem Rd.c0 (h : Rd w N p s) : w.cell? ⟨p, 0, none⟩ = some (.int .i64 s.2) := by obtain ⟨A, c, l, h1, _⟩ := h; rw [cell_of_row w p 0 _ _ (0, 0) h1]; rfl
theorem Rd.setErr (h : Rd w N p s) (e : Int) (he : e ≠ 0) : Rd (w.setCell ⟨p, 0, none⟩ (.int .i64 e)) N p ([], e) := by
  obtain ⟨A, c, l, h1, h2, h3, h4, h5, h6, h7, h8⟩ := h
  refine ⟨A, c, l, ?_, h2, h3, h4.keep fun b o hA _ => Below.heap_setCell _ _ _ _ (h7 b (by rw [hA]; rfl)).2, h5, by simpa [World.setCell] using h6, h7, fun e0 => absurd e0 he, fun _ => rfl⟩
  rw [heap_setCell_same w p 0 _ _ _ h1]
  rfl
end
theorem Rd.apart {w : World} {N p : Nat} {s : List UInt8 × Int} (h : Rd w N p s) {A : Option Addr} {n c : Nat} (hc : w.cell? ⟨p, 1, none⟩ = some (.slice A n c)) {q : Nat} (hq : blk A = some q) : q ≠ p := by
  obtain ⟨A', c', l, h1, h2, h3, h4, h5, h6, h7, h8⟩ := h
  rw [cell_of_row w p 1 _ _ (0, 0) h1] at hc
  simp at hc
  obtain ⟨rfl, _, _⟩ := hc
  exact (h7 q hq).2
theorem Rd.setOther {w : World} {N p : Nat} {s : List UInt8 × Int} (h : Rd w N p s) {q : Addr} (hq : N ≤ q.block) (v : Value) : Rd (w.setCell q v) N p s :=
  h.below ((Below.refl _ _).setCell hq v)
theorem Rd.store1 {w w' : World} {N p : Nat} {s : List UInt8 × Int} {q : Addr} {v : Value} (h : Rd w N p s) (hW : World.setCell w q v = w') (hq : N ≤ q.block) : Rd w' N p s := hW ▸ h.setOther hq v
/-- a reader with nothing wrong, opened -/
theorem Rd.open0 {w : World} {N p : Nat} {b : List UInt8} (h : Rd w N p (b, 0)) :
    ∃ A c, w.cell? ⟨p, 0, none⟩ = some (.int .i64 0) ∧ w.cell? ⟨p, 1, none⟩ = some (.slice A b.length c) ∧ b.length ≤ c ∧ c ≤ 9223372036854775807 ∧ Bytes w A b ∧
      ∀ A' c' b', b'.length ≤ c' → c' ≤ 9223372036854775807 → Bytes w A' b' → blk A' = blk A → Rd (w.setCell ⟨p, 1, none⟩ (.slice A' b'.length c')) N p (b', 0) := by
  obtain ⟨A, c, l, h1, h2, h3, h4, h5, h6, h7, h8, h9⟩ := h
  obtain rfl : l = b := h8 rfl
  refine ⟨A, c, by rw [cell_of_row w p 0 _ _ (0, 0) h1]; rfl, by rw [cell_of_row w p 1 _ _ (0, 0) h1]; rfl, h2, h3, h4, fun A' c' b' k1 k2 k3 k4 => ?_⟩
  refine ⟨A', c', b', ?_, k1, k2, k3.keep fun b o hA _ => Below.heap_setCell _ _ _ _ (h7 b (by rw [← k4, hA]; rfl)).2, h5, by simpa [World.setCell] using h6, fun q hq => h7 q (by rw [← k4]; exact hq), fun _ => rfl, fun e => absurd rfl e⟩
  rw [heap_setCell_same w p 1 _ _ _ h1]
  rfl
theorem Kept.grow {w w1 w2 : World} {S : List Nat} (h : Kept w.heap.size S w w1) (hg : Grow w1 w2) : Kept w.heap.size S w w2 := h.trans ((Kept.of_below hg S).mono h.size (fun _ _ e => e))
theorem Kept.step {w w1 w2 : World} {S : List Nat} (h : Kept w.heap.size S w w1) (k : Kept w1.heap.size S w1 w2) : Kept w.heap.size S w w2 := h.trans (k.mono h.size (fun _ _ e => e))
theorem Kept.after {w w1 w2 : World} {S : List Nat} (hg : Grow w w1) (k : Kept w1.heap.size S w1 w2) : Kept w.heap.size S w w2 := (Kept.of_below hg S).trans (k.mono hg.size (fun _ _ e => e))
theorem Bytes.kept {w w' : World} {A : Option Addr} {l : List UInt8} {S : List Nat} (h : Bytes w A l) (hk : Kept w.heap.size S w w') (hS : ∀ q, blk A = some q → q ∉ S) : Bytes w' A l :=
  h.keep fun b o hA hlt => hk.block b hlt (hS b (by rw [hA]; rfl))
/-- a part of bytes -/
theorem Bytes.drop {w : World} {b o : Nat} {l : List UInt8} (h : Bytes w (some ⟨b, o, none⟩) l) (n : Nat) : Bytes w (some ⟨b, o + n, none⟩) (l.drop n) := by
  intro hl
  obtain ⟨b', o', hA, hc⟩ := h (by rintro rfl; simp at hl)
  injection hA with hA
  injection hA with h1 h2
  subst h1 h2
  refine ⟨b, o + n, rfl, fun j hj => ?_⟩
  rw [List.length_drop] at hj
  rw [show o + n + j = o + (n + j) by omega, hc (n + j) (by omega), List.getElem_drop]
theorem Bytes.drop_any {w : World} {A : Option Addr} {l : List UInt8} (h : Bytes w A l) (n : Nat) : Bytes w (Option.map (fun x => x.add n) A) (l.drop n) := by
  intro hl
  obtain ⟨b, o, rfl, hc⟩ := h (by rintro rfl; simp at hl)
  obtain ⟨b', o', hA, hc'⟩ := Bytes.drop (show Bytes w (some ⟨b, o, none⟩) l from fun _ => ⟨b, o, rfl, hc⟩) n hl
  injection hA with hA
  injection hA with h1 h2
  subst h1 h2
  exact ⟨b, o + n, by simp [Addr.add], hc'⟩
theorem blk_add (A : Option Addr) (n : Nat) : blk (Option.map (fun x => x.add n) A) = blk A := by
  cases A with
  | none => rfl
  | some a => simp [blk, Addr.add]; split <;> rfl
def rtake (s : List UInt8 × Int) (n : Nat) : List UInt8 × List UInt8 × Int := Buf.rget [] (fun b => if b.length < n then ([], [], 3) else (b.take n, b.drop n, 0)) s
set_option maxRecDepth 100000 in
set_option maxHeartbeats 1000000 in
theorem take_ok (N p : Nat) (b : List UInt8) (n : Nat) (w : World) (h0 : Rd w N p (b, 0)) (hn : n ≤ b.length) :
    Calls Try.prog 138 #[.pointer (some ⟨p, 0, none⟩), .int .i64 n] w fun r w' => ∃ A c, r = .returned (.slice A n c) ∧ n ≤ c ∧ Bytes w' A (b.take n) ∧ Rd w' N p (b.drop n, 0) ∧ Kept w.heap.size [p] w w' := by
  obtain ⟨A, c, hc0, hc1, hlc, hcm, hb, hset⟩ := h0.open0
  have hf := h0.fz 1
  go_enter Try.func138, Try.ntmps138
  go_wp2_with fail
  refine (fine_any p 0 _ hc0).mono ?_
  rintro r w' ⟨rfl, rfl⟩
  go_wp2
  · obtain rfl : c = n := by assumption
    have e : b.drop c = [] := List.drop_of_length_le hlc
    have h2 := hset A 0 (b.drop c) (by simp [e]) (by omega) (by rw [e]; exact Bytes.nil _ _) rfl
    rw [List.length_drop] at h2
    go_ret
    exact ⟨A, c, rfl, Nat.le_refl _, (hb.take c).keep fun q o hA _ => Below.heap_setCell _ _ _ _ (h0.apart hc1 (by rw [hA]; rfl)), h2, (Kept.refl _ _ w).setCell (p := ⟨p, 1, none⟩) (.inr (by simp)) _⟩
  · have h2 := hset (Option.map (fun x => x.add n) A) (c - n) (b.drop n) (by rw [List.length_drop]; omega) (by omega) (hb.drop_any n) (blk_add A n)
    rw [List.length_drop] at h2
    go_ret
    exact ⟨A, c, rfl, by omega, (hb.take n).keep fun q o hA _ => Below.heap_setCell _ _ _ _ (h0.apart hc1 (by rw [hA]; rfl)), h2, (Kept.refl _ _ w).setCell (p := ⟨p, 1, none⟩) (.inr (by simp)) _⟩
set_option maxRecDepth 100000 in
set_option maxHeartbeats 1000000 in
theorem take_short (N p : Nat) (b : List UInt8) (n : Nat) (w : World) (h : Rd w N p (b, 0)) (hn : b.length < n) :
    Calls Try.prog 138 #[.pointer (some ⟨p, 0, none⟩), .int .i64 n] w fun r w' => r = .returned (.slice none 0 0) ∧ Rd w' N p ([], 3) ∧ Kept w.heap.size [p] w w' := by
  obtain ⟨A, c, hc0, hc1, hlc, hcm, hb, hset⟩ := h.open0
  have hf := h.fz 0
  go_enter Try.func138, Try.ntmps138
  go_wp2_with fail
  refine (fine_any p 0 _ hc0).mono ?_
  rintro r w' ⟨rfl, rfl⟩
  go_wp2_with fail
  refine (fail_set p 3 _ hc0 hf).mono ?_
  rintro r w' ⟨rfl, rfl⟩
  go_wp2
  go_ret
  exact ⟨rfl, h.setErr 3 (by decide), (Kept.refl _ _ w).setCell (p := ⟨p, 0, none⟩) (.inr (by simp)) _⟩
set_option maxRecDepth 100000 in
set_option maxHeartbeats 1000000 in
theorem take_bad (N p : Nat) (b : List UInt8) (e : Int) (n : Int) (w : World) (h : Rd w N p (b, e)) (he : (e == 0) = false) :
    Calls Try.prog 138 #[.pointer (some ⟨p, 0, none⟩), .int .i64 n] w fun r w' => r = .returned (.slice none 0 0) ∧ w = w' := by
  have hc0 := h.c0
  go_enter Try.func138, Try.ntmps138
  go_wp2_with fail
  refine (fine_any p e _ hc0).mono ?_
  rintro r w' ⟨rfl, rfl⟩
  go_wp2
  go_ret
  exact ⟨rfl, rfl⟩
/-- take, in all states -/
theorem take_any (N p : Nat) (s : List UInt8 × Int) (n : Nat) (w : World) (h : Rd w N p s) :
    Calls Try.prog 138 #[.pointer (some ⟨p, 0, none⟩), .int .i64 n] w fun r w' => ∃ A c, r = .returned (.slice A (rtake s n).1.length c) ∧ (rtake s n).1.length ≤ c ∧ Bytes w' A (rtake s n).1 ∧ Rd w' N p (rtake s n).2 ∧ Kept w.heap.size [p] w w' := by
  obtain ⟨b, e⟩ := s
  by_cases he : e = 0
  · subst he
    by_cases hl : b.length < n
    · refine (take_short N p b n w h hl).mono ?_
      rintro r w' ⟨rfl, h1, h2⟩
      have ht : rtake (b, 0) n = ([], [], 3) := by simp [rtake, Buf.rget, hl]
      rw [ht]
      exact ⟨none, 0, rfl, Nat.le_refl _, Bytes.nil _ _, h1, h2⟩
    · refine (take_ok N p b n w h (by omega)).mono ?_
      rintro r w' ⟨A, c, rfl, h0, h1, h2, h3⟩
      have ht : rtake (b, 0) n = (b.take n, b.drop n, 0) := by simp [rtake, Buf.rget, hl]
      rw [ht]
      have hln : (b.take n).length = n := by rw [List.length_take]; omega
      exact ⟨A, c, by rw [hln], by rw [hln]; exact h0, h1, h2, h3⟩
  · refine (take_bad N p b e n w h (by simpa using he)).mono ?_
    rintro r w' ⟨rfl, rfl⟩
    have ht : rtake (b, e) n = ([], b, e) := by simp [rtake, Buf.rget, he]
    rw [ht]
    exact ⟨none, 0, rfl, Nat.le_refl _, Bytes.nil _ _, h, Kept.refl _ _ _⟩
end Go.Proofs.Ytldgnallbkpchaa
