/- The writing of numbers of a head. -/
import Derived.Test.YtcghgahohmabnaaWri
import Derived.Test.YtcghgahohmabnaaPk
namespace Go.Proofs.Ytcghgahohmabnaa
open Go.RowKit
def u8of (x : Int) : UInt8 := UInt8.ofNat (IntKind.u8.wrap x).toNat
def u64of (x : Int) : Nat := (IntKind.u64.wrap x).toNat
theorem u8w_bounds (x : Int) : 0 ≤ IntKind.u8.wrap x ∧ IntKind.u8.wrap x < 256 := by rw [IntKind.wrap_u8]; omega
theorem u64w_bounds (x : Int) : 0 ≤ IntKind.u64.wrap x ∧ IntKind.u64.wrap x < 18446744073709551616 := by rw [IntKind.wrap_u64]; omega
theorem u64_of (x : Int) : IntKind.u64.wrap x = ((u64of x : Nat) : Int) := by unfold u64of; have := u64w_bounds x; omega
theorem u64of_lt (x : Int) : u64of x < 18446744073709551616 := by unfold u64of; have := u64w_bounds x; omega
theorem wput_len (most : Int) (s : Int × List UInt8) (l : List UInt8) : (Buf.wput most s l).2.length ≤ s.2.length + l.length := by
  unfold Buf.wput
  split
  · omega
  · split
    · simp
    · simp
/-- the head of a packet, written -/
def headS (most : Int) (s : Int × List UInt8) (p : Pkt) : Int × List UInt8 :=
  if floodB p.kind then Buf.wfixed most (Buf.wput most (Buf.wput most (Buf.wput most (Buf.wput most s [u8of p.kind]) [u8of p.hops]) (Buf.sevens (u64of p.t))) [u8of p.frm]) (u64of p.seq) 4
  else Buf.wput most s [u8of p.kind]
/-- between two calls on a writer: g is the box of what is written -/
structure Putting (w0 w : World) (B p : Nat) (A0 A : Option Addr) (c : Nat) (s : Int × List UInt8) (most : Int) (g : Nat) (cs : Array Value) : Prop where
  wr : Wr w B p A c s.1 s.2 most
  kept : Kept w0.heap.size (foot p A0) w0 w
  orig : ∀ q, blk A = some q → blk A0 = some q ∨ w0.heap.size ≤ q
  box : Holds w g cs
  apart : blk A ≠ some g
theorem Putting.step {w0 w w1 w2 : World} {B p : Nat} {A0 A : Option Addr} {c : Nat} {s s' : Int × List UInt8} {most : Int} {g : Nat} {cs : Array Value} (h : Putting w0 w B p A0 A c s most g cs)
    (hp : p < w0.heap.size) (hg : w0.heap.size ≤ g) (hs : 0 < cs.size) (hgr : Grow w w1) (hw : Wrote w1 w2 B p A s' most) : ∃ A' c', Putting w0 w2 B p A0 A' c' s' most g cs := by
  obtain ⟨A', c', h1, h2, h3⟩ := hw
  have hsz : w0.heap.size ≤ w1.heap.size := Nat.le_trans h.kept.size hgr.size
  have hgl : g < w.heap.size := h.box.lt hs
  have hgl1 : g < w1.heap.size := Nat.lt_of_lt_of_le hgl hgr.size
  have hng : g ∉ foot p A := by
    intro hm
    rcases List.mem_cons.1 hm with e | e
    · omega
    · exact h.apart (by simpa using e)
  refine ⟨A', c', h1, (h.kept.trans (Kept.of_below (hgr.mono (by have := h.kept.size; omega)) _)).trans (h2.mono hsz fun k hk hm => ?_), fun q hq => ?_, ?_, fun hq => ?_⟩
  · rcases List.mem_cons.1 hm with e | e
    · simp [foot, e]
    · have e' : blk A = some k := by simpa using e
      rcases h.orig k e' with e2 | e2
      · simp [foot, e2]
      · omega
  · rcases h3 q hq with e | e
    · exact h.orig q e
    · exact .inr (by omega)
  · intro i
    have hb := h.box.grow hs hgr i
    rw [← hb]
    exact World.cell?_of_block (h2.block g hgl1 hng)
  · rcases h3 g hq with e | e
    · exact h.apart e
    · omega
theorem Putting.wrote {w0 w : World} {B p : Nat} {A0 A : Option Addr} {c : Nat} {s : Int × List UInt8} {most : Int} {g : Nat} {cs : Array Value} (h : Putting w0 w B p A0 A c s most g cs) : Wrote w0 w B p A0 s most :=
  ⟨A, c, h.wr, h.kept, h.orig⟩
/-- from a box on -/
theorem Putting.start {w : World} {B p : Nat} {A : Option Addr} {c : Nat} {e : Int} {b : List UInt8} {most : Int} (h : Wr w B p A c e b most) (cs : Array Value) (t : TypeId) : Putting w (w.alloc (.cells cs t)) B p A A c (e, b) most w.heap.size cs :=
  ⟨h.grow ((Grow.refl w).alloc _), Kept.of_below ((Grow.refl w).alloc _) _, fun _ hq => .inl hq, Holds.new w cs t (0, 0) rfl, fun e => Nat.lt_irrefl _ (h.own.lt e)⟩
theorem num_int (B p : Nat) (A : Option Addr) (c : Nat) (s : Int × List UInt8) (most : Int) (x : Int) (w : World) (h : Wr w B p A c s.1 s.2 most) (hb : s.2.length ≤ 1000000000000) (hB : B ≤ w.heap.size) :
    Calls Try.prog 83 #[.pointer (some ⟨p, 0, none⟩), .int .u64 (IntKind.u64.wrap x)] w fun r w' => r = .returned (.tuple #[]) ∧ Wrote w w' B p A (Buf.wput most s (Buf.sevens (u64of x))) most := by
  rw [u64_of]
  exact num_any B p A c s.1 s.2 most (u64of x) w h (u64of_lt x) hb hB
theorem fixed_int (B p : Nat) (A : Option Addr) (c : Nat) (s : Int × List UInt8) (most : Int) (x : Int) (n : Int) (w : World) (h : Wr w B p A c s.1 s.2 most) (hb : s.2.length ≤ 1000000000000) (hB : B ≤ w.heap.size) :
    Calls Try.prog 84 #[.pointer (some ⟨p, 0, none⟩), .int .u64 (IntKind.u64.wrap x), .int .i64 n] w fun r w' => r = .returned (.tuple #[]) ∧ Wrote w w' B p A (Buf.wfixed most s (u64of x) n) most := by
  rw [u64_of]
  exact fixed_any B p A c s.1 s.2 most (u64of x) n w h hb hB
theorem byte_int (B p : Nat) (A : Option Addr) (c : Nat) (s : Int × List UInt8) (most : Int) (x : Int) (g : Nat) (t : TypeId) (w : World) (hg : w.heap.size = g) (h : Wr w B p A c s.1 s.2 most) (hb : s.2.length ≤ 1000000000000) (hB : B ≤ w.heap.size) :
    Calls Try.prog 110 #[.pointer (some ⟨p, 0, none⟩), .slice (some ⟨g, 0, none⟩) 1 1] (w.alloc (.cells #[.int .u8 (IntKind.u8.wrap x)] t)) fun r w' => r = .returned (.tuple #[]) ∧ Wrote (w.alloc (.cells #[.int .u8 (IntKind.u8.wrap x)] t)) w' B p A (Buf.wput most s [u8of x]) most := by
  exact byte_at B p A c s.1 s.2 most _ [u8of x] 1 1 _ rfl (h.grow ((Grow.refl w).alloc _)) (Bytes.one w _ (u8w_bounds x).1 (u8w_bounds x).2 hg) hb (by omega) (by simp; omega)
end Go.Proofs.Ytcghgahohmabnaa
