/- The writing of numbers of a head. -/
import Derived.Test.YtpobjcdcimcdnaaWri
import Derived.Test.YtpobjcdcimcdnaaPk
namespace Go.Proofs.Ytpobjcdcimcdnaa
open Go.RowKit
def u8of (x : Int) : UInt8 := UInt8.ofNat (IntKind.u8.wrap x).toNat
def u64of (x : Int) : Nat := (IntKind.u64.wrap x).toNat
theorem u8w_bounds (x : Int) : 0 ≤ IntKind.u8.wrap x ∧ IntKind.u8.wrap x < 256 := by rw [IntKind.wrap_u8]; omega
theorem u64w_bounds (x : Int) : 0 ≤ IntKind.u64.wrap x ∧ IntKind.u64.wrap x < 18446744073709551616 := by rw [IntKind.wrap_u64]; omega
theorem u64_of (x : Int) : IntKind.u64.wrap x = ((u64of x : Nat) : Int) := by unfold u64of; have := u64w_bounds x; omega
theorem u64of_lt (x : Int) : u64of x < 18446744073709551616 := by unfold u64of; have := u64w_bounds x; omega
theorem wput_len (most : Int) (s : Int × List UInt8) (l : List UInt8) : (Buf.wput most s l).2.length ≤ s.2.length + l.length := by
  unfold Buf.wput
  split
  · omega
  · split
    · simp
    · simp
/-- the head of a packet, written -/
def headS (most : Int) (s : Int × List UInt8) (p : Pkt) : Int × List UInt8 :=
  if floodB p.kind then Buf.wfixed most (Buf.wput most (Buf.wput most (Buf.wput most (Buf.wput most s [u8of p.kind]) [u8of p.hops]) (Buf.sevens (u64of p.t))) [u8of p.frm]) (u64of p.seq) 4
  else Buf.wput most s [u8of p.kind]
/-- between two calls on a writer: g is the box of what is written -/
structure Putting (w0 w : World) (B p : Nat) (A0 A : Option Addr) (c : Nat) (s : Int × List UInt8) (most : Int) (g : Nat) (cs : Array Value) : Prop where
  wr : Wr w B p A c s.1 s.2 most
  kept : Kept w0.heap.size (foot p A0) w0 w
  orig : ∀ q, blk A = some q → blk A0 = some q ∨ w0.heap.size ≤ q
  box : Holds w g cs
  apart : blk A ≠ some g
theorem Putting.step {w0 w w1 w2 : World} {B p : Nat} {A0 A : Option Addr} {c : Nat} {s s' : Int × List UInt8} {most : Int} {g : Nat} {cs : Array Value} (h : Putting w0 w B p A0 A c s most g cs)
    (hp : p < w0.heap.size) (hg : w0.heap.size ≤ g) (hs : 0 < cs.size) (hgr : Grow w w1) (hw : Wrote w1 w2 B p A s' most) : ∃ A' c', Putting w0 w2 B p A0 A' c' s' most g cs := by
  obtain ⟨A', c', h1, h2, h3⟩ := hw
  have hsz : w0.heap.size ≤ w1.heap.size := Nat.le_trans h.kept.size hgr.size
  have hgl : g < w.heap.size := h.box.lt hs
  have hgl1 : g < w1.heap.size := Nat.lt_of_lt_of_le hgl hgr.size
  have hng : g ∉ foot p A := by
    intro hm
    rcases List.mem_cons.1 hm with e | e
    · omega
    · exact h.apart (by simpa using e)
  refine ⟨A', c', h1, (h.kept.trans (Kept.of_below (hgr.mono (by have := h.kept.size; omega)) _)).trans (h2.mono hsz fun k hk hm => ?_), fun q hq => ?_, ?_, fun hq => ?_⟩
  · rcases List.mem_cons.1 hm with e | e
    · simp [foot, e]
    · have e' : blk A = some k := by simpa using e
      rcases h.orig k e' with e2 | e2
      · simp [foot, e2]
      · omega
  · rcases h3 q hq with e | e
    · exact h.orig q e
    · exact .inr (by omega)
  · intro i
    have hb := h.box.grow hs hgr i
    rw [← hb]
    exact World.cell?_of_block (h2.block g hgl1 hng)
  · rcases h3 g hq with e | e
    · exact h.apart e
    · omega
theorem Putting.wrote {w0 w : World} {B p : Nat} {A0 A : Option Addr} {c : Nat} {s : Int × List UInt8} {most : Int} {g : Nat} {cs : Array Value} (h : Putting w0 w B p A0 A c s most g cs) : Wrote w0 w B p A0 s most :=
  ⟨A, c, h.wr, h.kept, h.orig⟩
/-- from a box on -/
theorem Putting.start {w : World} {B p : Nat} {A : Option Addr} {c : Nat} {e : Int} {b : List UInt8} {most : Int} (h : Wr w B p A c e b most) (cs : Array Value) (t : TypeId) : Putting w (w.alloc (.cells cs t)) B p A A c (e, b) most w.heap.size cs :=
  ⟨h.grow ((Grow.refl w).alloc _), Kept.of_below ((Grow.refl w).alloc _) _, fun _ hq => .inl hq, Holds.new w cs t (0, 0) rfl, fun e => Nat.lt_irrefl _ (h.own.lt e)⟩
theorem num_int (B p : Nat) (A : Option Addr) (c : Nat) (s : Int × List UInt8) (most : Int) (x : Int) (w : World) (h : Wr w B p A c s.1 s.2 most) (hb : s.2.length ≤ 1000000000000) (hB : B ≤ w.heap.size) :
    Calls Try.prog 31 #[.pointer (some ⟨p, 0, none⟩), .int .u64 (IntKind.u64.wrap x)] w fun r w' => r = .returned (.tuple #[]) ∧ Wrote w w' B p A (Buf.wput most s (Buf.sevens (u64of x))) most := by
  rw [u64_of]
  exact num_any B p A c s.1 s.2 most (u64of x) w h (u64of_lt x) hb hB
theorem fixed_int (B p : Nat) (A : Option Addr) (c : Nat) (s : Int × List UInt8) (most : Int) (x : Int) (n : Int) (w : World) (h : Wr w B p A c s.1 s.2 most) (hb : s.2.length ≤ 1000000000000) (hB : B ≤ w.heap.size) :
    Calls Try.prog 37 #[.pointer (some ⟨p, 0, none⟩), .int .u64 (IntKind.u64.wrap x), .int .i64 n] w fun r w' => r = .returned (.tuple #[]) ∧ Wrote w w' B p A (Buf.wfixed most s (u64of x) n) most := by
  rw [u64_of]
  exact fixed_any B p A c s.1 s.2 most (u64of x) n w h hb hB
theorem byte_int (B p : Nat) (A : Option Addr) (c : Nat) (s : Int × List UInt8) (most : Int) (x : Int) (g : Nat) (t : TypeId) (w : World) (hg : w.heap.size = g) (h : Wr w B p A c s.1 s.2 most) (hb : s.2.length ≤ 1000000000000) (hB : B ≤ w.heap.size) :
    Calls Try.prog 36 #[.pointer (some ⟨p, 0, none⟩), .slice (some ⟨g, 0, none⟩) 1 1] (w.alloc (.cells #[.int .u8 (IntKind.u8.wrap x)] t)) fun r w' => r = .returned (.tuple #[]) ∧ Wrote (w.alloc (.cells #[.int .u8 (IntKind.u8.wrap x)] t)) w' B p A (Buf.wput most s [u8of x]) most := by
  exact byte_at B p A c s.1 s.2 most _ [u8of x] 1 1 _ rfl (h.grow ((Grow.refl w).alloc _)) (Bytes.one w _ (u8w_bounds x).1 (u8w_bounds x).2 hg) hb (by omega) (by simp; omega)
set_option maxRecDepth 100000 in
set_option maxHeartbeats 4000000 in
theorem headput_any (B p : Nat) (A : Option Addr) (c : Nat) (e : Int) (b : List UInt8) (most : Int) (q : Pkt) (A2 : Option Addr) (n c2 : Nat) (w : World) (h : Wr w B p A c e b most) (hb : b.length ≤ 999999999900) (hB : B ≤ w.heap.size) :
    Calls Try.prog 47 #[.pointer (some ⟨p, 0, none⟩), pv q A2 n c2] w fun r w' => r = .returned (.tuple #[]) ∧ Wrote w w' B p A (headS most (e, b) q) most := by
  have hlt := h.lt
  have P0 := Putting.start h (pcells q A2 n c2) 65
  have hpx := P0.box
  unfold Holds at hpx
  have HF := hide (flood_any q.kind)
  by_cases hF : floodB q.kind = true
  · rw [hF] at HF
    have HS := hide (show headS most (e, b) q = _ from if_pos hF)
    clear hF
    go_enter Try.func47, Try.ntmps47
    go_wp2_with fail
    refine (byte_int B p A c (e, b) most q.kind _ _ _ (by simp) P0.wr (by simp; omega) (by simp; omega)).mono ?_
    rintro r w1 ⟨rfl, hw1⟩
    obtain ⟨A1, c1, P1⟩ := P0.step hlt (Nat.le_refl _) (by simp) ((Grow.refl _).alloc _) hw1
    have hb1 : (Buf.wput most (e, b) [u8of q.kind]).2.length ≤ b.length + 1 := wput_len most (e, b) [u8of q.kind]
    generalize Buf.wput most (e, b) [u8of q.kind] = s1 at P1 hb1 HS
    have hB1 : B ≤ w1.heap.size := Nat.le_trans hB P1.kept.size
    clear hw1 P0 hpx h
    have hpx := P1.box
    have hz1 : w.heap.size < w1.heap.size := P1.box.lt (by simp)
    unfold Holds at hpx
    go_wp2_with fail
    refine (HF.out _).mono ?_
    rintro r w' ⟨rfl, rfl⟩
    go_wp2_with fail
    refine (byte_int B p A1 c1 s1 most q.hops _ _ _ rfl P1.wr (by omega) hB1).mono ?_
    rintro r w2 ⟨rfl, hw2⟩
    obtain ⟨A2', c2', P2⟩ := P1.step hlt (Nat.le_refl _) (by simp) ((Grow.refl _).alloc _) hw2
    have hb2 : (Buf.wput most s1 [u8of q.hops]).2.length ≤ s1.2.length + 1 := wput_len most s1 [u8of q.hops]
    generalize Buf.wput most s1 [u8of q.hops] = s2 at P2 hb2 HS
    have hB2 : B ≤ w2.heap.size := Nat.le_trans hB P2.kept.size
    clear hw2 P1 hpx
    have hpx := P2.box
    have hz2 : w.heap.size < w2.heap.size := P2.box.lt (by simp)
    unfold Holds at hpx
    go_wp2_with fail
    refine (num_int B p A2' c2' s2 most q.t _ P2.wr (by omega) hB2).mono ?_
    rintro r w3 ⟨rfl, hw3⟩
    obtain ⟨A3, c3, P3⟩ := P2.step hlt (Nat.le_refl _) (by simp) (Grow.refl _) hw3
    have hb3 : (Buf.wput most s2 (Buf.sevens (u64of q.t))).2.length ≤ s2.2.length + 10 := Nat.le_trans (wput_len most s2 _) (Nat.add_le_add_left (Buf.sevens_len _) _)
    generalize Buf.wput most s2 (Buf.sevens (u64of q.t)) = s3 at P3 hb3 HS
    have hB3 : B ≤ w3.heap.size := Nat.le_trans hB P3.kept.size
    clear hw3 P2 hpx
    have hpx := P3.box
    have hz3 : w.heap.size < w3.heap.size := P3.box.lt (by simp)
    unfold Holds at hpx
    go_wp2_with fail
    refine (byte_int B p A3 c3 s3 most q.frm _ _ _ rfl P3.wr (by omega) hB3).mono ?_
    rintro r w4 ⟨rfl, hw4⟩
    obtain ⟨A4, c4, P4⟩ := P3.step hlt (Nat.le_refl _) (by simp) ((Grow.refl _).alloc _) hw4
    have hb4 : (Buf.wput most s3 [u8of q.frm]).2.length ≤ s3.2.length + 1 := wput_len most s3 [u8of q.frm]
    generalize Buf.wput most s3 [u8of q.frm] = s4 at P4 hb4 HS
    have hB4 : B ≤ w4.heap.size := Nat.le_trans hB P4.kept.size
    clear hw4 P3 hpx
    have hpx := P4.box
    have hz4 : w.heap.size < w4.heap.size := P4.box.lt (by simp)
    unfold Holds at hpx
    go_wp2_with fail
    refine (fixed_int B p A4 c4 s4 most q.seq 4 _ P4.wr (by omega) hB4).mono ?_
    rintro r w5 ⟨rfl, hw5⟩
    obtain ⟨A5, c5, P5⟩ := P4.step hlt (Nat.le_refl _) (by simp) (Grow.refl _) hw5
    go_wp2
    go_end0
    refine ⟨rfl, ?_⟩
    rw [HS.out]
    exact P5.wrote
  · have hF' : floodB q.kind = false := by simpa using hF
    rw [hF'] at HF
    have HS := hide (show headS most (e, b) q = _ from if_neg hF)
    clear hF hF'
    go_enter Try.func47, Try.ntmps47
    go_wp2_with fail
    refine (byte_int B p A c (e, b) most q.kind _ _ _ (by simp) P0.wr (by simp; omega) (by simp; omega)).mono ?_
    rintro r w1 ⟨rfl, hw1⟩
    obtain ⟨A1, c1, P1⟩ := P0.step hlt (Nat.le_refl _) (by simp) ((Grow.refl _).alloc _) hw1
    clear hw1 P0 hpx h
    have hpx := P1.box
    have hz1 : w.heap.size < w1.heap.size := P1.box.lt (by simp)
    unfold Holds at hpx
    go_wp2_with fail
    refine (HF.out _).mono ?_
    rintro r w' ⟨rfl, rfl⟩
    go_wp2
    refine bodyPost_ret (results_none rfl _ _ _) rfl ?_
    refine ⟨rfl, ?_⟩
    rw [HS.out]
    exact P1.wrote
end Go.Proofs.Ytpobjcdcimcdnaa
