/- Acts (chapter 46) that are written. -/
import Derived.Test.YtcghgahohmabnaaSc1
import Derived.Test.YtcghgahohmabnaaFtP
namespace Go.Proofs.Ytcghgahohmabnaa
open Go.RowKit
/-- an act, written -/
def actS (most : Int) (s : Int × List UInt8) (p : ActP) (l : List UInt8) : Int × List UInt8 :=
  if p.kind = 1 then Buf.wput most (Buf.wput most s [u8of p.kind]) [u8of p.n]
  else if p.kind = 3 then fateS most (Buf.wput most s [u8of p.kind]) p.f
  else if p.kind = 2 then Buf.wput most (Buf.wput most (Buf.wput most s [u8of p.kind]) [u8of p.node]) (Buf.sevens (Buf.zig p.n))
  else if p.kind = 6 then Buf.wput most (Buf.wput most (Buf.wput most s [u8of p.kind]) [u8of p.node]) (Buf.sevens l.length ++ l)
  else Buf.wput most (Buf.wput most s [u8of p.kind]) [u8of p.node]
theorem lit1 (x : Int) : (#[.int .u8 (IntKind.u8.wrap x)] : Array Value) = ([u8of x].map u8).toArray := by
  simp only [List.map_cons, List.map_nil]
  rw [show u8 (u8of x) = .int .u8 (IntKind.u8.wrap x) from byte_val _ (u8w_bounds x).1 (u8w_bounds x).2]
set_option maxRecDepth 100000 in
set_option maxHeartbeats 2000000 in
theorem aput_1 (B p : Nat) (A : Option Addr) (c : Nat) (e : Int) (b : List UInt8) (most : Int) (q : ActP) (AA : Option Addr) (l : List UInt8) (cA : Nat) (w : World) (h : Wr w B p A c e b most) (_hl : Bytes w AA l) (hb : b.length ≤ 999999990000) (_hll : l.length ≤ 1000000)
    (hB : B ≤ w.heap.size) (_hd : l ≠ [] → ∀ g, blk AA = some g → g ≠ p ∧ blk A ≠ some g ∧ g < w.heap.size) (_hn1 : -9223372036854775808 ≤ q.n) (_hn2 : q.n < 9223372036854775808) (hk : q.kind = 1) :
    Calls Try.prog 117 #[.pointer (some ⟨p, 0, none⟩), av q AA l.length cA] w fun r w' => r = .returned (.tuple #[]) ∧ Wrote w w' B p A (actS most (e, b) q l) most := by
  have hlt := h.lt
  have P0 := Putting.start h (acells q AA l.length cA) 108
  have hpx := P0.box
  unfold Holds at hpx
  have e1 : (q.kind == 1) = true := by simp; exact hk
  have e3 : (q.kind == 3) = false := by simp; omega
  have e2 : (q.kind == 2) = false := by simp; omega
  have e6 : (q.kind == 6) = false := by simp; omega
  have HS := hide (show actS most (e, b) q l = Buf.wput most (Buf.wput most (e, b) [u8of q.kind]) [u8of q.n] from if_pos hk)
  generalize actS most (e, b) q l = X at *
  clear hk
  go_enter Try.func117, Try.ntmps117
  go_wp2_with fail
  refine (byte_at B p A c e b most _ [u8of q.kind] 1 1 _ rfl (P0.wr.grow ((Grow.refl _).alloc _)) (Bytes.lit' _ _ (by simp) _ _ _ _ (lit1 _)) (by omega) (by omega) (by simp; omega)).mono ?_
  rintro r w1 ⟨rfl, hw1⟩
  obtain ⟨A1, c1, P1⟩ := P0.step hlt (Nat.le_refl _) (by simp) ((Grow.refl _).alloc _) hw1
  have hb1 : (Buf.wput most (e, b) [u8of q.kind]).2.length ≤ b.length + 1 := wput_len most (e, b) [u8of q.kind]
  generalize Buf.wput most (e, b) [u8of q.kind] = s1 at P1 hb1 HS
  have hB1 : B ≤ w1.heap.size := Nat.le_trans hB P1.kept.size
  clear hw1 P0 hpx h
  have hpx := P1.box
  have hz1 : w.heap.size < w1.heap.size := P1.box.lt (by simp)
  unfold Holds at hpx
  go_wp2_with fail
  refine (byte_at B p A1 c1 s1.1 s1.2 most _ [u8of q.n] 1 1 _ rfl (P1.wr.grow ((Grow.refl _).alloc _)) (Bytes.lit' _ _ (by simp) _ _ _ _ (lit1 _)) (by omega) (by omega) (by simp; omega)).mono ?_
  rintro r w2 ⟨rfl, hw2⟩
  obtain ⟨A2, c2, P2⟩ := P1.step hlt (Nat.le_refl _) (by simp) ((Grow.refl _).alloc _) hw2
  have hb2 : (Buf.wput most s1 [u8of q.n]).2.length ≤ s1.2.length + 1 := wput_len most s1 [u8of q.n]
  generalize Buf.wput most s1 [u8of q.n] = s2 at P2 hb2 HS
  have hB2 : B ≤ w2.heap.size := Nat.le_trans hB P2.kept.size
  clear hw2 P1 hpx
  have hpx := P2.box
  have hz2 : w.heap.size < w2.heap.size := P2.box.lt (by simp)
  unfold Holds at hpx
  go_wp2
  refine bodyPost_ret (results_none rfl _ _ _) rfl ?_
  refine ⟨rfl, ?_⟩
  rw [HS.out]
  exact P2.wrote
set_option maxRecDepth 100000 in
set_option maxHeartbeats 2000000 in
theorem aput_3 (B p : Nat) (A : Option Addr) (c : Nat) (e : Int) (b : List UInt8) (most : Int) (q : ActP) (AA : Option Addr) (l : List UInt8) (cA : Nat) (w : World) (h : Wr w B p A c e b most) (_hl : Bytes w AA l) (hb : b.length ≤ 999999990000) (_hll : l.length ≤ 1000000)
    (hB : B ≤ w.heap.size) (_hd : l ≠ [] → ∀ g, blk AA = some g → g ≠ p ∧ blk A ≠ some g ∧ g < w.heap.size) (_hn1 : -9223372036854775808 ≤ q.n) (_hn2 : q.n < 9223372036854775808) (hk : q.kind = 3) :
    Calls Try.prog 117 #[.pointer (some ⟨p, 0, none⟩), av q AA l.length cA] w fun r w' => r = .returned (.tuple #[]) ∧ Wrote w w' B p A (actS most (e, b) q l) most := by
  have hlt := h.lt
  have P0 := Putting.start h (acells q AA l.length cA) 108
  have hpx := P0.box
  unfold Holds at hpx
  have e1 : (q.kind == 1) = false := by simp; omega
  have e3 : (q.kind == 3) = true := by simp; exact hk
  have e2 : (q.kind == 2) = false := by simp; omega
  have e6 : (q.kind == 6) = false := by simp; omega
  have HS := hide (show actS most (e, b) q l = fateS most (Buf.wput most (e, b) [u8of q.kind]) q.f by unfold actS; rw [if_neg (by omega), if_pos hk])
  generalize actS most (e, b) q l = X at *
  clear hk
  go_enter Try.func117, Try.ntmps117
  go_wp2_with fail
  refine (byte_at B p A c e b most _ [u8of q.kind] 1 1 _ rfl (P0.wr.grow ((Grow.refl _).alloc _)) (Bytes.lit' _ _ (by simp) _ _ _ _ (lit1 _)) (by omega) (by omega) (by simp; omega)).mono ?_
  rintro r w1 ⟨rfl, hw1⟩
  obtain ⟨A1, c1, P1⟩ := P0.step hlt (Nat.le_refl _) (by simp) ((Grow.refl _).alloc _) hw1
  have hb1 : (Buf.wput most (e, b) [u8of q.kind]).2.length ≤ b.length + 1 := wput_len most (e, b) [u8of q.kind]
  generalize Buf.wput most (e, b) [u8of q.kind] = s1 at P1 hb1 HS
  have hB1 : B ≤ w1.heap.size := Nat.le_trans hB P1.kept.size
  clear hw1 P0 hpx h
  have hpx := P1.box
  have hz1 : w.heap.size < w1.heap.size := P1.box.lt (by simp)
  unfold Holds at hpx
  go_wp2_with fail
  refine (fput_any B p A1 c1 s1.1 s1.2 most q.f _ P1.wr (by omega) hB1).mono ?_
  rintro r w2 ⟨rfl, hw2⟩
  obtain ⟨A2', c2', P2⟩ := P1.step hlt (Nat.le_refl _) (by simp) (Grow.refl _) hw2
  go_wp2
  refine bodyPost_ret (results_none rfl _ _ _) rfl ?_
  refine ⟨rfl, ?_⟩
  rw [HS.out]
  exact P2.wrote
set_option maxRecDepth 100000 in
set_option maxHeartbeats 2000000 in
theorem aput_2 (B p : Nat) (A : Option Addr) (c : Nat) (e : Int) (b : List UInt8) (most : Int) (q : ActP) (AA : Option Addr) (l : List UInt8) (cA : Nat) (w : World) (h : Wr w B p A c e b most) (_hl : Bytes w AA l) (hb : b.length ≤ 999999990000) (_hll : l.length ≤ 1000000)
    (hB : B ≤ w.heap.size) (_hd : l ≠ [] → ∀ g, blk AA = some g → g ≠ p ∧ blk A ≠ some g ∧ g < w.heap.size) (hn1 : -9223372036854775808 ≤ q.n) (hn2 : q.n < 9223372036854775808) (hk : q.kind = 2) :
    Calls Try.prog 117 #[.pointer (some ⟨p, 0, none⟩), av q AA l.length cA] w fun r w' => r = .returned (.tuple #[]) ∧ Wrote w w' B p A (actS most (e, b) q l) most := by
  have hlt := h.lt
  have P0 := Putting.start h (acells q AA l.length cA) 108
  have hpx := P0.box
  unfold Holds at hpx
  have e1 : (q.kind == 1) = false := by simp; omega
  have e3 : (q.kind == 3) = false := by simp; omega
  have e2 : (q.kind == 2) = true := by simp; exact hk
  have e6 : (q.kind == 6) = false := by simp; omega
  have HS := hide (show actS most (e, b) q l = Buf.wput most (Buf.wput most (Buf.wput most (e, b) [u8of q.kind]) [u8of q.node]) (Buf.sevens (Buf.zig q.n)) by unfold actS; rw [if_neg (by omega), if_neg (by omega), if_pos hk])
  generalize actS most (e, b) q l = X at *
  clear hk
  go_enter Try.func117, Try.ntmps117
  go_wp2_with fail
  refine (byte_at B p A c e b most _ [u8of q.kind] 1 1 _ rfl (P0.wr.grow ((Grow.refl _).alloc _)) (Bytes.lit' _ _ (by simp) _ _ _ _ (lit1 _)) (by omega) (by omega) (by simp; omega)).mono ?_
  rintro r w1 ⟨rfl, hw1⟩
  obtain ⟨A1, c1, P1⟩ := P0.step hlt (Nat.le_refl _) (by simp) ((Grow.refl _).alloc _) hw1
  have hb1 : (Buf.wput most (e, b) [u8of q.kind]).2.length ≤ b.length + 1 := wput_len most (e, b) [u8of q.kind]
  generalize Buf.wput most (e, b) [u8of q.kind] = s1 at P1 hb1 HS
  have hB1 : B ≤ w1.heap.size := Nat.le_trans hB P1.kept.size
  clear hw1 P0 hpx h
  have hpx := P1.box
  have hz1 : w.heap.size < w1.heap.size := P1.box.lt (by simp)
  unfold Holds at hpx
  go_wp2_with fail
  refine (byte_at B p A1 c1 s1.1 s1.2 most _ [u8of q.node] 1 1 _ rfl (P1.wr.grow ((Grow.refl _).alloc _)) (Bytes.lit' _ _ (by simp) _ _ _ _ (lit1 _)) (by omega) (by omega) (by simp; omega)).mono ?_
  rintro r w2 ⟨rfl, hw2⟩
  obtain ⟨A2, c2, P2⟩ := P1.step hlt (Nat.le_refl _) (by simp) ((Grow.refl _).alloc _) hw2
  have hb2 : (Buf.wput most s1 [u8of q.node]).2.length ≤ s1.2.length + 1 := wput_len most s1 [u8of q.node]
  generalize Buf.wput most s1 [u8of q.node] = s2 at P2 hb2 HS
  have hB2 : B ≤ w2.heap.size := Nat.le_trans hB P2.kept.size
  clear hw2 P1 hpx
  have hpx := P2.box
  have hz2 : w.heap.size < w2.heap.size := P2.box.lt (by simp)
  unfold Holds at hpx
  go_wp2_with fail
  refine (wint_any B p A2 c2 s2.1 s2.2 most q.n _ P2.wr (hide hn1) (hide hn2) (by omega) hB2).mono ?_
  rintro r w3 ⟨rfl, hw3⟩
  obtain ⟨A3, c3, P3⟩ := P2.step hlt (Nat.le_refl _) (by simp) (Grow.refl _) hw3
  go_wp2
  go_end0
  refine ⟨rfl, ?_⟩
  rw [HS.out]
  exact P3.wrote
set_option maxRecDepth 100000 in
set_option maxHeartbeats 2000000 in
theorem aput_6 (B p : Nat) (A : Option Addr) (c : Nat) (e : Int) (b : List UInt8) (most : Int) (q : ActP) (AA : Option Addr) (l : List UInt8) (cA : Nat) (w : World) (h : Wr w B p A c e b most) (hl : Bytes w AA l) (hb : b.length ≤ 999999990000) (hll : l.length ≤ 1000000)
    (hB : B ≤ w.heap.size) (hd : l ≠ [] → ∀ g, blk AA = some g → g ≠ p ∧ blk A ≠ some g ∧ g < w.heap.size) (_hn1 : -9223372036854775808 ≤ q.n) (_hn2 : q.n < 9223372036854775808) (hk : q.kind = 6) :
    Calls Try.prog 117 #[.pointer (some ⟨p, 0, none⟩), av q AA l.length cA] w fun r w' => r = .returned (.tuple #[]) ∧ Wrote w w' B p A (actS most (e, b) q l) most := by
  have hlt := h.lt
  have P0 := Putting.start h (acells q AA l.length cA) 108
  have hpx := P0.box
  unfold Holds at hpx
  have e1 : (q.kind == 1) = false := by simp; omega
  have e3 : (q.kind == 3) = false := by simp; omega
  have e2 : (q.kind == 2) = false := by simp; omega
  have e6 : (q.kind == 6) = true := by simp; exact hk
  have HS := hide (show actS most (e, b) q l = Buf.wput most (Buf.wput most (Buf.wput most (e, b) [u8of q.kind]) [u8of q.node]) (Buf.sevens l.length ++ l) by unfold actS; rw [if_neg (by omega), if_neg (by omega), if_neg (by omega), if_pos hk])
  generalize actS most (e, b) q l = X at *
  clear hk
  go_enter Try.func117, Try.ntmps117
  go_wp2_with fail
  refine (byte_at B p A c e b most _ [u8of q.kind] 1 1 _ rfl (P0.wr.grow ((Grow.refl _).alloc _)) (Bytes.lit' _ _ (by simp) _ _ _ _ (lit1 _)) (by omega) (by omega) (by simp; omega)).mono ?_
  rintro r w1 ⟨rfl, hw1⟩
  obtain ⟨A1, c1, P1⟩ := P0.step hlt (Nat.le_refl _) (by simp) ((Grow.refl _).alloc _) hw1
  have hb1 : (Buf.wput most (e, b) [u8of q.kind]).2.length ≤ b.length + 1 := wput_len most (e, b) [u8of q.kind]
  generalize Buf.wput most (e, b) [u8of q.kind] = s1 at P1 hb1 HS
  have hB1 : B ≤ w1.heap.size := Nat.le_trans hB P1.kept.size
  clear hw1 P0 hpx h
  have hpx := P1.box
  have hz1 : w.heap.size < w1.heap.size := P1.box.lt (by simp)
  unfold Holds at hpx
  go_wp2_with fail
  refine (byte_at B p A1 c1 s1.1 s1.2 most _ [u8of q.node] 1 1 _ rfl (P1.wr.grow ((Grow.refl _).alloc _)) (Bytes.lit' _ _ (by simp) _ _ _ _ (lit1 _)) (by omega) (by omega) (by simp; omega)).mono ?_
  rintro r w2 ⟨rfl, hw2⟩
  obtain ⟨A2, c2, P2⟩ := P1.step hlt (Nat.le_refl _) (by simp) ((Grow.refl _).alloc _) hw2
  have hb2 : (Buf.wput most s1 [u8of q.node]).2.length ≤ s1.2.length + 1 := wput_len most s1 [u8of q.node]
  generalize Buf.wput most s1 [u8of q.node] = s2 at P2 hb2 HS
  have hB2 : B ≤ w2.heap.size := Nat.le_trans hB P2.kept.size
  clear hw2 P1 hpx
  have hpx := P2.box
  have hz2 : w.heap.size < w2.heap.size := P2.box.lt (by simp)
  unfold Holds at hpx
  have hl2 : Bytes w2 AA l := fun hne => hl.kept P2.kept (fun g hg hm => by
    obtain ⟨h1, h2, _⟩ := hd hne g hg
    rcases List.mem_cons.1 hm with e | e
    · exact h1 e
    · exact h2 (by simpa using e)) hne
  have hd2 : l ≠ [] → ∀ g, blk AA = some g → blk A2 ≠ some g := fun hne g hg hm => by
    obtain ⟨h1, h2, h3⟩ := hd hne g hg
    rcases P2.orig g hm with e | e
    · exact h2 e
    · omega
  go_wp2_with fail
  refine (wbytes_any B p A2 c2 s2.1 s2.2 most AA l cA _ P2.wr hl2 (by omega) (by omega) hB2 hd2).mono ?_
  rintro r w3 ⟨rfl, hw3⟩
  obtain ⟨A3, c3, P3⟩ := P2.step hlt (Nat.le_refl _) (by simp) (Grow.refl _) hw3
  go_wp2
  go_end0
  refine ⟨rfl, ?_⟩
  rw [HS.out]
  exact P3.wrote
set_option maxRecDepth 100000 in
set_option maxHeartbeats 2000000 in
theorem aput_n (B p : Nat) (A : Option Addr) (c : Nat) (e : Int) (b : List UInt8) (most : Int) (q : ActP) (AA : Option Addr) (l : List UInt8) (cA : Nat) (w : World) (h : Wr w B p A c e b most) (_hl : Bytes w AA l) (hb : b.length ≤ 999999990000) (_hll : l.length ≤ 1000000)
    (hB : B ≤ w.heap.size) (_hd : l ≠ [] → ∀ g, blk AA = some g → g ≠ p ∧ blk A ≠ some g ∧ g < w.heap.size) (_hn1 : -9223372036854775808 ≤ q.n) (_hn2 : q.n < 9223372036854775808) (hk : q.kind ≠ 1 ∧ q.kind ≠ 2 ∧ q.kind ≠ 3 ∧ q.kind ≠ 6) :
    Calls Try.prog 117 #[.pointer (some ⟨p, 0, none⟩), av q AA l.length cA] w fun r w' => r = .returned (.tuple #[]) ∧ Wrote w w' B p A (actS most (e, b) q l) most := by
  have hlt := h.lt
  have P0 := Putting.start h (acells q AA l.length cA) 108
  have hpx := P0.box
  unfold Holds at hpx
  have e1 : (q.kind == 1) = false := by simp; omega
  have e3 : (q.kind == 3) = false := by simp; omega
  have e2 : (q.kind == 2) = false := by simp; omega
  have e6 : (q.kind == 6) = false := by simp; omega
  have HS := hide (show actS most (e, b) q l = Buf.wput most (Buf.wput most (e, b) [u8of q.kind]) [u8of q.node] by unfold actS; rw [if_neg (by omega), if_neg (by omega), if_neg (by omega), if_neg (by omega)])
  generalize actS most (e, b) q l = X at *
  clear hk
  go_enter Try.func117, Try.ntmps117
  go_wp2_with fail
  refine (byte_at B p A c e b most _ [u8of q.kind] 1 1 _ rfl (P0.wr.grow ((Grow.refl _).alloc _)) (Bytes.lit' _ _ (by simp) _ _ _ _ (lit1 _)) (by omega) (by omega) (by simp; omega)).mono ?_
  rintro r w1 ⟨rfl, hw1⟩
  obtain ⟨A1, c1, P1⟩ := P0.step hlt (Nat.le_refl _) (by simp) ((Grow.refl _).alloc _) hw1
  have hb1 : (Buf.wput most (e, b) [u8of q.kind]).2.length ≤ b.length + 1 := wput_len most (e, b) [u8of q.kind]
  generalize Buf.wput most (e, b) [u8of q.kind] = s1 at P1 hb1 HS
  have hB1 : B ≤ w1.heap.size := Nat.le_trans hB P1.kept.size
  clear hw1 P0 hpx h
  have hpx := P1.box
  have hz1 : w.heap.size < w1.heap.size := P1.box.lt (by simp)
  unfold Holds at hpx
  go_wp2_with fail
  refine (byte_at B p A1 c1 s1.1 s1.2 most _ [u8of q.node] 1 1 _ rfl (P1.wr.grow ((Grow.refl _).alloc _)) (Bytes.lit' _ _ (by simp) _ _ _ _ (lit1 _)) (by omega) (by omega) (by simp; omega)).mono ?_
  rintro r w2 ⟨rfl, hw2⟩
  obtain ⟨A2, c2, P2⟩ := P1.step hlt (Nat.le_refl _) (by simp) ((Grow.refl _).alloc _) hw2
  have hb2 : (Buf.wput most s1 [u8of q.node]).2.length ≤ s1.2.length + 1 := wput_len most s1 [u8of q.node]
  generalize Buf.wput most s1 [u8of q.node] = s2 at P2 hb2 HS
  have hB2 : B ≤ w2.heap.size := Nat.le_trans hB P2.kept.size
  clear hw2 P1 hpx
  have hpx := P2.box
  have hz2 : w.heap.size < w2.heap.size := P2.box.lt (by simp)
  unfold Holds at hpx
  go_wp2
  go_end0
  refine ⟨rfl, ?_⟩
  rw [HS.out]
  exact P2.wrote
theorem aput_any (B p : Nat) (A : Option Addr) (c : Nat) (e : Int) (b : List UInt8) (most : Int) (q : ActP) (AA : Option Addr) (l : List UInt8) (cA : Nat) (w : World) (h : Wr w B p A c e b most) (hl : Bytes w AA l) (hb : b.length ≤ 999999990000) (hll : l.length ≤ 1000000)
    (hB : B ≤ w.heap.size) (hd : l ≠ [] → ∀ g, blk AA = some g → g ≠ p ∧ blk A ≠ some g ∧ g < w.heap.size) (hn1 : -9223372036854775808 ≤ q.n) (hn2 : q.n < 9223372036854775808) :
    Calls Try.prog 117 #[.pointer (some ⟨p, 0, none⟩), av q AA l.length cA] w fun r w' => r = .returned (.tuple #[]) ∧ Wrote w w' B p A (actS most (e, b) q l) most := by
  by_cases h1 : q.kind = 1
  · exact aput_1 B p A c e b most q AA l cA w h hl hb hll hB hd hn1 hn2 h1
  by_cases h2 : q.kind = 2
  · exact aput_2 B p A c e b most q AA l cA w h hl hb hll hB hd hn1 hn2 h2
  by_cases h3 : q.kind = 3
  · exact aput_3 B p A c e b most q AA l cA w h hl hb hll hB hd hn1 hn2 h3
  by_cases h6 : q.kind = 6
  · exact aput_6 B p A c e b most q AA l cA w h hl hb hll hB hd hn1 hn2 h6
  exact aput_n B p A c e b most q AA l cA w h hl hb hll hB hd hn1 hn2 ⟨h1, h2, h3, h6⟩
end Go.Proofs.Ytcghgahohmabnaa
