/- The walk of fate.Put. -/
import Derived.Test.YtcghgahohmabnaaFtL
import Derived.Test.YtcghgahohmabnaaHdPt
namespace Go.Proofs.Ytcghgahohmabnaa
open Go.RowKit
theorem Putting.grow {w0 w w1 : World} {B p : Nat} {A0 A : Option Addr} {c : Nat} {s : Int × List UInt8} {most : Int} {g : Nat} {cs : Array Value} (h : Putting w0 w B p A0 A c s most g cs) (hs : 0 < cs.size) (hgr : Grow w w1) : Putting w0 w1 B p A0 A c s most g cs :=
  ⟨h.wr.grow hgr, h.kept.trans (Kept.of_below (hgr.mono h.kept.size) _), h.orig, fun i => by have := h.box.grow hs hgr i; exact this, h.apart⟩
theorem fu8_u8of (x : Int) : u8 (u8of x) = .int .u8 (IntKind.u8.wrap x) := byte_val _ (u8w_bounds x).1 (u8w_bounds x).2
theorem flit2 (x y : Int) : (#[.int .u8 (IntKind.u8.wrap x), .int .u8 (IntKind.u8.wrap y)] : Array Value) = ([u8of x, u8of y].map u8).toArray := by
  simp only [List.map_cons, List.map_nil, fu8_u8of]
def fateS (most : Int) (s : Int × List UInt8) (f : Fate) : Int × List UInt8 :=
  if fateB f = false then Buf.wput most s [u8of f.kind]
  else if f.kind = 0 then Buf.wput most (Buf.wput most s [u8of f.kind]) [u8of f.delay]
  else if f.kind = 2 then Buf.wput most (Buf.wput most s [u8of f.kind]) [u8of f.delay, u8of f.again]
  else if f.kind = 3 then Buf.wfixed most (Buf.wfixed most (Buf.wput most (Buf.wput most s [u8of f.kind]) [u8of f.delay]) (u64of f.pos) 4) (u64of f.bits) 4
  else Buf.wput most s [u8of f.kind]
theorem fateS_bad (most : Int) (s : Int × List UInt8) (f : Fate) (h : fateB f = false) : fateS most s f = Buf.wput most s [u8of f.kind] := by unfold fateS; rw [if_pos h]
theorem fateS_0 (most : Int) (s : Int × List UInt8) (f : Fate) (h : fateB f = true) (k : f.kind = 0) : fateS most s f = Buf.wput most (Buf.wput most s [u8of f.kind]) [u8of f.delay] := by unfold fateS; rw [if_neg (by rw [h]; decide), if_pos k]
theorem fateS_2 (most : Int) (s : Int × List UInt8) (f : Fate) (h : fateB f = true) (k : f.kind = 2) : fateS most s f = Buf.wput most (Buf.wput most s [u8of f.kind]) [u8of f.delay, u8of f.again] := by unfold fateS; rw [if_neg (by rw [h]; decide), if_neg (by omega), if_pos k]
theorem fateS_3 (most : Int) (s : Int × List UInt8) (f : Fate) (h : fateB f = true) (k : f.kind = 3) : fateS most s f = Buf.wfixed most (Buf.wfixed most (Buf.wput most (Buf.wput most s [u8of f.kind]) [u8of f.delay]) (u64of f.pos) 4) (u64of f.bits) 4 := by unfold fateS; rw [if_neg (by rw [h]; decide), if_neg (by omega), if_neg (by omega), if_pos k]
theorem fateS_1 (most : Int) (s : Int × List UInt8) (f : Fate) (h : fateB f = true) (k : f.kind = 1) : fateS most s f = Buf.wput most s [u8of f.kind] := by unfold fateS; rw [if_neg (by rw [h]; decide), if_neg (by omega), if_neg (by omega), if_neg (by omega)]
theorem fwfixed_len (most : Int) (s : Int × List UInt8) (x : Nat) (n : Int) : (Buf.wfixed most s x n).2.length ≤ s.2.length + 8 := by
  unfold Buf.wfixed
  split
  · unfold Buf.wfail; split <;> simp
  · have := wput_len most s (Buf.fixed x n.toNat)
    rw [Buf.fixed_length] at this
    omega
set_option maxRecDepth 100000 in
set_option maxHeartbeats 2000000 in
theorem fput_bad (B p : Nat) (A : Option Addr) (c : Nat) (e : Int) (b : List UInt8) (most : Int) (q : Fate) (w : World) (h : Wr w B p A c e b most) (hb : b.length ≤ 999999999900) (hB : B ≤ w.heap.size) (hg : fateB q = false) :
    Calls Try.prog 62 #[.pointer (some ⟨p, 0, none⟩), fv q] w fun r w' => r = .returned (.tuple #[]) ∧ Wrote w w' B p A (fateS most (e, b) q) most := by
  have hlt := h.lt
  have P0 := Putting.start h (fcells q) 78
  have hpx := P0.box
  unfold Holds at hpx
  have HG := hide (fun W => fgood_any q W)
  rw [hg] at HG
  have HS := hide (fateS_bad most (e, b) q hg)
  generalize fateS most (e, b) q = X at *
  clear hg
  go_enter Try.func62, Try.ntmps62
  go_wp2_with fail
  refine (byte_int B p A c (e, b) most q.kind _ _ _ (by simp) P0.wr (by simp; omega) (by simp; omega)).mono ?_
  rintro r w1 ⟨rfl, hw1⟩
  obtain ⟨A1', c1', P1⟩ := P0.step hlt (Nat.le_refl _) (by simp) ((Grow.refl _).alloc _) hw1
  have hb1 : (Buf.wput most (e, b) [u8of q.kind]).2.length ≤ b.length + 1 := wput_len most (e, b) [u8of q.kind]
  generalize Buf.wput most (e, b) [u8of q.kind] = s1 at P1 hb1 HS
  have hB1 : B ≤ w1.heap.size := Nat.le_trans hB P1.kept.size
  clear hw1 P0 hpx h
  have hpx := P1.box
  have hz1 : w.heap.size < w1.heap.size := P1.box.lt (by simp)
  unfold Holds at hpx
  go_wp2_with fail
  refine (HG.out _).mono ?_
  rintro r w2 ⟨rfl, hw2⟩
  have P2 := P1.grow (by simp) hw2
  have hb2 : s1.2.length ≤ s1.2.length := Nat.le_refl _
  have hB2 : B ≤ w2.heap.size := Nat.le_trans hB P2.kept.size
  clear hw2 P1 hpx
  have hpx := P2.box
  have hz2 : w.heap.size < w2.heap.size := P2.box.lt (by simp)
  unfold Holds at hpx
  obtain ⟨s2, es2⟩ : ∃ s, s = s1 := ⟨_, rfl⟩
  subst es2
  go_wp2
  refine bodyPost_ret (results_none rfl _ _ _) rfl ?_
  refine ⟨rfl, ?_⟩
  rw [HS.out]
  exact P2.wrote
set_option maxRecDepth 100000 in
set_option maxHeartbeats 2000000 in
theorem fput_0 (B p : Nat) (A : Option Addr) (c : Nat) (e : Int) (b : List UInt8) (most : Int) (q : Fate) (w : World) (h : Wr w B p A c e b most) (hb : b.length ≤ 999999999900) (hB : B ≤ w.heap.size) (hg : fateB q = true) (hk : q.kind = 0) :
    Calls Try.prog 62 #[.pointer (some ⟨p, 0, none⟩), fv q] w fun r w' => r = .returned (.tuple #[]) ∧ Wrote w w' B p A (fateS most (e, b) q) most := by
  have hlt := h.lt
  have P0 := Putting.start h (fcells q) 78
  have hpx := P0.box
  unfold Holds at hpx
  have HG := hide (fun W => fgood_any q W)
  rw [hg] at HG
  have HS := hide (fateS_0 most (e, b) q hg hk)
  generalize fateS most (e, b) q = X at *
  clear hg
  have k0 : (q.kind == 0) = true := by simpa using hk
  have k2 : (q.kind == 2) = false := by simpa using (by omega : q.kind ≠ 2)
  have k3 : (q.kind == 3) = false := by simpa using (by omega : q.kind ≠ 3)
  clear hk
  go_enter Try.func62, Try.ntmps62
  go_wp2_with fail
  refine (byte_int B p A c (e, b) most q.kind _ _ _ (by simp) P0.wr (by simp; omega) (by simp; omega)).mono ?_
  rintro r w1 ⟨rfl, hw1⟩
  obtain ⟨A1', c1', P1⟩ := P0.step hlt (Nat.le_refl _) (by simp) ((Grow.refl _).alloc _) hw1
  have hb1 : (Buf.wput most (e, b) [u8of q.kind]).2.length ≤ b.length + 1 := wput_len most (e, b) [u8of q.kind]
  generalize Buf.wput most (e, b) [u8of q.kind] = s1 at P1 hb1 HS
  have hB1 : B ≤ w1.heap.size := Nat.le_trans hB P1.kept.size
  clear hw1 P0 hpx h
  have hpx := P1.box
  have hz1 : w.heap.size < w1.heap.size := P1.box.lt (by simp)
  unfold Holds at hpx
  go_wp2_with fail
  refine (HG.out _).mono ?_
  rintro r w2 ⟨rfl, hw2⟩
  have P2 := P1.grow (by simp) hw2
  have hb2 : s1.2.length ≤ s1.2.length := Nat.le_refl _
  have hB2 : B ≤ w2.heap.size := Nat.le_trans hB P2.kept.size
  clear hw2 P1 hpx
  have hpx := P2.box
  have hz2 : w.heap.size < w2.heap.size := P2.box.lt (by simp)
  unfold Holds at hpx
  obtain ⟨s2, es2⟩ : ∃ s, s = s1 := ⟨_, rfl⟩
  subst es2
  go_wp2_with fail
  refine (byte_int B p A1' c1' s2 most q.delay _ _ _ rfl P2.wr (by omega) hB2).mono ?_
  rintro r w3 ⟨rfl, hw3⟩
  obtain ⟨A3', c3', P3⟩ := P2.step hlt (Nat.le_refl _) (by simp) ((Grow.refl _).alloc _) hw3
  have hb3 : (Buf.wput most s2 [u8of q.delay]).2.length ≤ s2.2.length + 1 := wput_len most s2 [u8of q.delay]
  generalize Buf.wput most s2 [u8of q.delay] = s3 at P3 hb3 HS
  have hB3 : B ≤ w3.heap.size := Nat.le_trans hB P3.kept.size
  clear hw3 P2 hpx
  have hpx := P3.box
  have hz3 : w.heap.size < w3.heap.size := P3.box.lt (by simp)
  unfold Holds at hpx
  go_wp2
  go_end0
  refine ⟨rfl, ?_⟩
  rw [HS.out]
  exact P3.wrote
set_option maxRecDepth 100000 in
set_option maxHeartbeats 2000000 in
theorem fput_1 (B p : Nat) (A : Option Addr) (c : Nat) (e : Int) (b : List UInt8) (most : Int) (q : Fate) (w : World) (h : Wr w B p A c e b most) (hb : b.length ≤ 999999999900) (hB : B ≤ w.heap.size) (hg : fateB q = true) (hk : q.kind = 1) :
    Calls Try.prog 62 #[.pointer (some ⟨p, 0, none⟩), fv q] w fun r w' => r = .returned (.tuple #[]) ∧ Wrote w w' B p A (fateS most (e, b) q) most := by
  have hlt := h.lt
  have P0 := Putting.start h (fcells q) 78
  have hpx := P0.box
  unfold Holds at hpx
  have HG := hide (fun W => fgood_any q W)
  rw [hg] at HG
  have HS := hide (fateS_1 most (e, b) q hg hk)
  generalize fateS most (e, b) q = X at *
  clear hg
  have k0 : (q.kind == 0) = false := by simpa using (by omega : q.kind ≠ 0)
  have k2 : (q.kind == 2) = false := by simpa using (by omega : q.kind ≠ 2)
  have k3 : (q.kind == 3) = false := by simpa using (by omega : q.kind ≠ 3)
  clear hk
  go_enter Try.func62, Try.ntmps62
  go_wp2_with fail
  refine (byte_int B p A c (e, b) most q.kind _ _ _ (by simp) P0.wr (by simp; omega) (by simp; omega)).mono ?_
  rintro r w1 ⟨rfl, hw1⟩
  obtain ⟨A1', c1', P1⟩ := P0.step hlt (Nat.le_refl _) (by simp) ((Grow.refl _).alloc _) hw1
  have hb1 : (Buf.wput most (e, b) [u8of q.kind]).2.length ≤ b.length + 1 := wput_len most (e, b) [u8of q.kind]
  generalize Buf.wput most (e, b) [u8of q.kind] = s1 at P1 hb1 HS
  have hB1 : B ≤ w1.heap.size := Nat.le_trans hB P1.kept.size
  clear hw1 P0 hpx h
  have hpx := P1.box
  have hz1 : w.heap.size < w1.heap.size := P1.box.lt (by simp)
  unfold Holds at hpx
  go_wp2_with fail
  refine (HG.out _).mono ?_
  rintro r w2 ⟨rfl, hw2⟩
  have P2 := P1.grow (by simp) hw2
  have hb2 : s1.2.length ≤ s1.2.length := Nat.le_refl _
  have hB2 : B ≤ w2.heap.size := Nat.le_trans hB P2.kept.size
  clear hw2 P1 hpx
  have hpx := P2.box
  have hz2 : w.heap.size < w2.heap.size := P2.box.lt (by simp)
  unfold Holds at hpx
  obtain ⟨s2, es2⟩ : ∃ s, s = s1 := ⟨_, rfl⟩
  subst es2
  go_wp2
  go_end0
  refine ⟨rfl, ?_⟩
  rw [HS.out]
  exact P2.wrote
set_option maxRecDepth 100000 in
set_option maxHeartbeats 2000000 in
theorem fput_2 (B p : Nat) (A : Option Addr) (c : Nat) (e : Int) (b : List UInt8) (most : Int) (q : Fate) (w : World) (h : Wr w B p A c e b most) (hb : b.length ≤ 999999999900) (hB : B ≤ w.heap.size) (hg : fateB q = true) (hk : q.kind = 2) :
    Calls Try.prog 62 #[.pointer (some ⟨p, 0, none⟩), fv q] w fun r w' => r = .returned (.tuple #[]) ∧ Wrote w w' B p A (fateS most (e, b) q) most := by
  have hlt := h.lt
  have P0 := Putting.start h (fcells q) 78
  have hpx := P0.box
  unfold Holds at hpx
  have HG := hide (fun W => fgood_any q W)
  rw [hg] at HG
  have HS := hide (fateS_2 most (e, b) q hg hk)
  generalize fateS most (e, b) q = X at *
  clear hg
  have k0 : (q.kind == 0) = false := by simpa using (by omega : q.kind ≠ 0)
  have k2 : (q.kind == 2) = true := by simpa using hk
  have k3 : (q.kind == 3) = false := by simpa using (by omega : q.kind ≠ 3)
  clear hk
  go_enter Try.func62, Try.ntmps62
  go_wp2_with fail
  refine (byte_int B p A c (e, b) most q.kind _ _ _ (by simp) P0.wr (by simp; omega) (by simp; omega)).mono ?_
  rintro r w1 ⟨rfl, hw1⟩
  obtain ⟨A1', c1', P1⟩ := P0.step hlt (Nat.le_refl _) (by simp) ((Grow.refl _).alloc _) hw1
  have hb1 : (Buf.wput most (e, b) [u8of q.kind]).2.length ≤ b.length + 1 := wput_len most (e, b) [u8of q.kind]
  generalize Buf.wput most (e, b) [u8of q.kind] = s1 at P1 hb1 HS
  have hB1 : B ≤ w1.heap.size := Nat.le_trans hB P1.kept.size
  clear hw1 P0 hpx h
  have hpx := P1.box
  have hz1 : w.heap.size < w1.heap.size := P1.box.lt (by simp)
  unfold Holds at hpx
  go_wp2_with fail
  refine (HG.out _).mono ?_
  rintro r w2 ⟨rfl, hw2⟩
  have P2 := P1.grow (by simp) hw2
  have hb2 : s1.2.length ≤ s1.2.length := Nat.le_refl _
  have hB2 : B ≤ w2.heap.size := Nat.le_trans hB P2.kept.size
  clear hw2 P1 hpx
  have hpx := P2.box
  have hz2 : w.heap.size < w2.heap.size := P2.box.lt (by simp)
  unfold Holds at hpx
  obtain ⟨s2, es2⟩ : ∃ s, s = s1 := ⟨_, rfl⟩
  subst es2
  go_wp2_with fail
  refine (byte_at B p A1' c1' s2.1 s2.2 most _ [u8of q.delay, u8of q.again] 2 2 _ rfl (P2.wr.grow ((Grow.refl _).alloc _)) (Bytes.lit _ _ _ _ _ (flit2 _ _)) (by omega) (by omega) (by simp; omega)).mono ?_
  rintro r w3 ⟨rfl, hw3⟩
  obtain ⟨A3', c3', P3⟩ := P2.step hlt (Nat.le_refl _) (by simp) ((Grow.refl _).alloc _) hw3
  have hb3 : (Buf.wput most s2 [u8of q.delay, u8of q.again]).2.length ≤ s2.2.length + 2 := wput_len most s2 [u8of q.delay, u8of q.again]
  generalize Buf.wput most s2 [u8of q.delay, u8of q.again] = s3 at P3 hb3 HS
  have hB3 : B ≤ w3.heap.size := Nat.le_trans hB P3.kept.size
  clear hw3 P2 hpx
  have hpx := P3.box
  have hz3 : w.heap.size < w3.heap.size := P3.box.lt (by simp)
  unfold Holds at hpx
  go_wp2
  go_end0
  refine ⟨rfl, ?_⟩
  rw [HS.out]
  exact P3.wrote
set_option maxRecDepth 100000 in
set_option maxHeartbeats 2000000 in
theorem fput_3 (B p : Nat) (A : Option Addr) (c : Nat) (e : Int) (b : List UInt8) (most : Int) (q : Fate) (w : World) (h : Wr w B p A c e b most) (hb : b.length ≤ 999999999900) (hB : B ≤ w.heap.size) (hg : fateB q = true) (hk : q.kind = 3) :
    Calls Try.prog 62 #[.pointer (some ⟨p, 0, none⟩), fv q] w fun r w' => r = .returned (.tuple #[]) ∧ Wrote w w' B p A (fateS most (e, b) q) most := by
  have hlt := h.lt
  have P0 := Putting.start h (fcells q) 78
  have hpx := P0.box
  unfold Holds at hpx
  have HG := hide (fun W => fgood_any q W)
  rw [hg] at HG
  have HS := hide (fateS_3 most (e, b) q hg hk)
  generalize fateS most (e, b) q = X at *
  clear hg
  have k0 : (q.kind == 0) = false := by simpa using (by omega : q.kind ≠ 0)
  have k2 : (q.kind == 2) = false := by simpa using (by omega : q.kind ≠ 2)
  have k3 : (q.kind == 3) = true := by simpa using hk
  clear hk
  go_enter Try.func62, Try.ntmps62
  go_wp2_with fail
  refine (byte_int B p A c (e, b) most q.kind _ _ _ (by simp) P0.wr (by simp; omega) (by simp; omega)).mono ?_
  rintro r w1 ⟨rfl, hw1⟩
  obtain ⟨A1', c1', P1⟩ := P0.step hlt (Nat.le_refl _) (by simp) ((Grow.refl _).alloc _) hw1
  have hb1 : (Buf.wput most (e, b) [u8of q.kind]).2.length ≤ b.length + 1 := wput_len most (e, b) [u8of q.kind]
  generalize Buf.wput most (e, b) [u8of q.kind] = s1 at P1 hb1 HS
  have hB1 : B ≤ w1.heap.size := Nat.le_trans hB P1.kept.size
  clear hw1 P0 hpx h
  have hpx := P1.box
  have hz1 : w.heap.size < w1.heap.size := P1.box.lt (by simp)
  unfold Holds at hpx
  go_wp2_with fail
  refine (HG.out _).mono ?_
  rintro r w2 ⟨rfl, hw2⟩
  have P2 := P1.grow (by simp) hw2
  have hb2 : s1.2.length ≤ s1.2.length := Nat.le_refl _
  have hB2 : B ≤ w2.heap.size := Nat.le_trans hB P2.kept.size
  clear hw2 P1 hpx
  have hpx := P2.box
  have hz2 : w.heap.size < w2.heap.size := P2.box.lt (by simp)
  unfold Holds at hpx
  obtain ⟨s2, es2⟩ : ∃ s, s = s1 := ⟨_, rfl⟩
  subst es2
  go_wp2_with fail
  refine (byte_int B p A1' c1' s2 most q.delay _ _ _ rfl P2.wr (by omega) hB2).mono ?_
  rintro r w3 ⟨rfl, hw3⟩
  obtain ⟨A3', c3', P3⟩ := P2.step hlt (Nat.le_refl _) (by simp) ((Grow.refl _).alloc _) hw3
  have hb3 : (Buf.wput most s2 [u8of q.delay]).2.length ≤ s2.2.length + 1 := wput_len most s2 [u8of q.delay]
  generalize Buf.wput most s2 [u8of q.delay] = s3 at P3 hb3 HS
  have hB3 : B ≤ w3.heap.size := Nat.le_trans hB P3.kept.size
  clear hw3 P2 hpx
  have hpx := P3.box
  have hz3 : w.heap.size < w3.heap.size := P3.box.lt (by simp)
  unfold Holds at hpx
  go_wp2_with fail
  refine (fixed_int B p A3' c3' s3 most q.pos 4 _ P3.wr (by omega) hB3).mono ?_
  rintro r w4 ⟨rfl, hw4⟩
  obtain ⟨A4', c4', P4⟩ := P3.step hlt (Nat.le_refl _) (by simp) (Grow.refl _) hw4
  have hb4 : (Buf.wfixed most s3 (u64of q.pos) 4).2.length ≤ s3.2.length + 8 := fwfixed_len most s3 (u64of q.pos) 4
  generalize Buf.wfixed most s3 (u64of q.pos) 4 = s4 at P4 hb4 HS
  have hB4 : B ≤ w4.heap.size := Nat.le_trans hB P4.kept.size
  clear hw4 P3 hpx
  have hpx := P4.box
  have hz4 : w.heap.size < w4.heap.size := P4.box.lt (by simp)
  unfold Holds at hpx
  go_wp2_with fail
  refine (fixed_int B p A4' c4' s4 most q.bits 4 _ P4.wr (by omega) hB4).mono ?_
  rintro r w5 ⟨rfl, hw5⟩
  obtain ⟨A5', c5', P5⟩ := P4.step hlt (Nat.le_refl _) (by simp) (Grow.refl _) hw5
  have hb5 : (Buf.wfixed most s4 (u64of q.bits) 4).2.length ≤ s4.2.length + 8 := fwfixed_len most s4 (u64of q.bits) 4
  generalize Buf.wfixed most s4 (u64of q.bits) 4 = s5 at P5 hb5 HS
  have hB5 : B ≤ w5.heap.size := Nat.le_trans hB P5.kept.size
  clear hw5 P4 hpx
  have hpx := P5.box
  have hz5 : w.heap.size < w5.heap.size := P5.box.lt (by simp)
  unfold Holds at hpx
  go_wp2
  go_end0
  refine ⟨rfl, ?_⟩
  rw [HS.out]
  exact P5.wrote
theorem fput_any (B p : Nat) (A : Option Addr) (c : Nat) (e : Int) (b : List UInt8) (most : Int) (q : Fate) (w : World) (h : Wr w B p A c e b most) (hb : b.length ≤ 999999999900) (hB : B ≤ w.heap.size) :
    Calls Try.prog 62 #[.pointer (some ⟨p, 0, none⟩), fv q] w fun r w' => r = .returned (.tuple #[]) ∧ Wrote w w' B p A (fateS most (e, b) q) most := by
  cases hg : fateB q with
  | false => exact fput_bad B p A c e b most q w h hb hB hg
  | true =>
    rcases fateB_range q hg with k | k | k | k
    · exact fput_0 B p A c e b most q w h hb hB hg k
    · exact fput_1 B p A c e b most q w h hb hB hg k
    · exact fput_2 B p A c e b most q w h hb hB hg k
    · exact fput_3 B p A c e b most q w h hb hB hg k
/-- a fate, written -/
def fateBytes (f : Fate) : List UInt8 :=
  if fateB f = false then [u8of f.kind] else if f.kind = 0 then [u8of f.kind] ++ [u8of f.delay] else if f.kind = 2 then ([u8of f.kind] ++ [u8of f.delay]) ++ [u8of f.again]
  else if f.kind = 3 then (([u8of f.kind] ++ [u8of f.delay]) ++ Buf.fixed (u64of f.pos) 4) ++ Buf.fixed (u64of f.bits) 4 else [u8of f.kind]
theorem fwput_ok (most : Int) (b l : List UInt8) (h : (b.length : Int) + l.length ≤ most) : Buf.wput most (0, b) l = (0, b ++ l) := by
  unfold Buf.wput
  rw [if_neg (by simp), if_neg (by dsimp only; omega)]
theorem fwfixed_ok (most : Int) (b : List UInt8) (x : Nat) (n : Nat) (h1 : 1 ≤ n) (h8 : n ≤ 8) (h : (b.length : Int) + n ≤ most) : Buf.wfixed most (0, b) x n = (0, b ++ Buf.fixed x n) := by
  unfold Buf.wfixed
  rw [if_neg (by omega), Int.toNat_natCast]
  exact fwput_ok most b _ (by rw [Buf.fixed_length]; exact h)
theorem fateS_ok (f : Fate) : fateS 20 (0, []) f = (0, fateBytes f) := by
  have h1 : Buf.wput 20 (0, []) [u8of f.kind] = (0, [u8of f.kind]) := fwput_ok 20 [] _ (by simp)
  unfold fateS fateBytes
  rw [h1]
  split
  · rfl
  split
  · exact fwput_ok 20 _ _ (by simp)
  split
  · exact (fwput_ok 20 _ _ (by simp)).trans (by simp)
  split
  · rw [fwput_ok 20 [u8of f.kind] [u8of f.delay] (by simp)]
    have h2 := fwfixed_ok 20 ([u8of f.kind] ++ [u8of f.delay]) (u64of f.pos) 4 (by decide) (by decide) (by simp)
    have h3 := fwfixed_ok 20 (([u8of f.kind] ++ [u8of f.delay]) ++ Buf.fixed (u64of f.pos) 4) (u64of f.bits) 4 (by decide) (by decide) (by rw [List.length_append, Buf.fixed_length]; simp)
    exact (congrArg (fun s => Buf.wfixed 20 s (u64of f.bits) 4) h2).trans h3
  · rfl
end Go.Proofs.Ytcghgahohmabnaa
