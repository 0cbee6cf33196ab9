/- The plain law of chapter 05: numbers as bytes. No Go in sight. The walks of a writer of package buf. The walks of numbers in sevens, and of the rest of a writer. The walks of the rest of a writer. The walks of head.Put. -/
import Derived.Test.YtbccbfmgjeknhaaTool
import Derived.Test.YtbccbfmgjeknhaaPk
namespace Buf
/-- a number in sevens, with fuel -/
def sevF : Nat → Nat → List UInt8
  | 0, x => [UInt8.ofNat x]
  | k + 1, x => if x < 128 then [UInt8.ofNat x] else UInt8.ofNat (x % 128 + 128) :: sevF k (x / 128)
def sevens (x : Nat) : List UInt8 := sevF 9 x
end Buf
namespace Go.Proofs.Ytbccbfmgjeknhaa
open Go.RowKit
/-- block p is a writer: what is wrong, its bytes, how many may be -/
structure Wr (w : World) (B p : Nat) (A : Option Addr) (c : Nat) (e : Int) (b : List UInt8) (most : Int) : Prop where
  base : B ≤ p
  row : w.heap[p]? = some (.cells #[.int .i64 e, .slice A b.length c, .int .i64 most] 110 (0, 0))
  own : Own w B A c b
  apart : blk A ≠ some p
  room : 0 ≤ most
  low : most ≤ 9223372036854775807
section
variable {w w' : World} {B p : Nat} {A : Option Addr} {c : Nat} {e : Int} {b : List UInt8} {most : Int}
theorem Wr.c0 (h : Wr w B p A c e b most) : w.cell? ⟨p, 0, none⟩ = some (.int .i64 e) := by rw [cell_of_row w p 0 _ _ (0, 0) h.row]; rfl
theorem Wr.c1 (h : Wr w B p A c e b most) : w.cell? ⟨p, 1, none⟩ = some (.slice A b.length c) := by rw [cell_of_row w p 1 _ _ (0, 0) h.row]; rfl
theorem Wr.c2 (h : Wr w B p A c e b most) : w.cell? ⟨p, 2, none⟩ = some (.int .i64 most) := by rw [cell_of_row w p 2 _ _ (0, 0) h.row]; rfl
theorem Wr.fz (h : Wr w B p A c e b most) (i : Nat) : w.frozen? ⟨p, i, none⟩ = false := frozen_of_row w p i _ _ h.row
theorem Wr.lt (h : Wr w B p A c e b most) : p < w.heap.size := (Array.getElem?_eq_some_iff.1 h.row).1
theorem Wr.drew (h : Wr w B p A c e b most) : Wr w.drew B p A c e b most := ⟨h.base, h.row, h.own.drew, h.apart, h.room, h.low⟩
theorem Wr.keep (h : Wr w B p A c e b most) (h1 : w'.heap[p]? = w.heap[p]?) (h2 : ∀ g, blk A = some g → w'.heap[g]? = w.heap[g]?) : Wr w' B p A c e b most :=
  ⟨h.base, h1.trans h.row, h.own.kept h2, h.apart, h.room, h.low⟩
theorem Wr.grow (h : Wr w B p A c e b most) (hg : Grow w w') : Wr w' B p A c e b most := h.keep (hg.block p h.lt) (fun g hq => hg.block g (h.own.lt hq))
end
/-- the blocks that a writer may turn -/
def foot (p : Nat) (A : Option Addr) : List Nat := p :: (blk A).toList
/-- what a call on a writer leaves -/
def Wrote (w w' : World) (B p : Nat) (A : Option Addr) (s : Int × List UInt8) (most : Int) : Prop :=
  ∃ A' c', Wr w' B p A' c' s.1 s.2 most ∧ Kept w.heap.size (foot p A) w w' ∧ ∀ q, blk A' = some q → blk A = some q ∨ w.heap.size ≤ q
theorem Wrote.same {w : World} {B p : Nat} {A : Option Addr} {c : Nat} {e : Int} {b : List UInt8} {most : Int} (h : Wr w B p A c e b most) : Wrote w w B p A (e, b) most :=
  ⟨A, c, h, Kept.refl _ _ _, fun _ hq => .inl hq⟩
theorem Wrote.grown {w0 w w' : World} {B p : Nat} {A : Option Addr} {s : Int × List UInt8} {most : Int} (hg : Grow w0 w) (h : Wrote w w' B p A s most) : Wrote w0 w' B p A s most := by
  obtain ⟨A', c', h1, h2, h3⟩ := h
  refine ⟨A', c', h1, (Kept.of_below hg _).trans (h2.mono hg.size (fun _ _ h => h)), fun q hq => ?_⟩
  rcases h3 q hq with h | h
  · exact .inl h
  · exact .inr (Nat.le_trans hg.size h)
end Go.Proofs.Ytbccbfmgjeknhaa
namespace Go.Proofs.Ytbccbfmgjeknhaa
open Go.RowKit
/-- block g has n cells, of which the first k are f -/
def RowTo (w : World) (g n k : Nat) (f : Nat → Value) : Prop := ∃ (cs : Array Value) (t : TypeId), w.heap[g]? = some (.cells cs t (0, 0)) ∧ cs.size = n ∧ ∀ i, i < k → cs[i]? = some (f i)
section
variable {w w' : World} {g n k : Nat} {f : Nat → Value}
theorem RowTo.cell (h : RowTo w g n k f) (hk : k < n) : ∃ v, w.cell? ⟨g, k, none⟩ = some v := by
  obtain ⟨cs, t, hb, hs, _⟩ := h
  rw [cell_of_row w g k cs t (0, 0) hb]
  exact ⟨cs[k], by simp [hs, hk]⟩
theorem RowTo.at_ (h : RowTo w g n k f) (i : Nat) (hi : i < k) : w.cell? ⟨g, i, none⟩ = some (f i) := by
  obtain ⟨cs, t, hb, hs, hc⟩ := h
  rw [cell_of_row w g i cs t (0, 0) hb]
  exact hc i hi
theorem RowTo.set (h : RowTo w g n k f) (hk : k < n) : RowTo (w.setCell ⟨g, k, none⟩ (f k)) g n (k + 1) f := by
  obtain ⟨cs, t, hb, hs, hc⟩ := h
  refine ⟨cs.setIfInBounds k _, t, heap_setCell_same w g k cs t _ hb, by simpa using hs, fun i hi => ?_⟩
  rw [Array.getElem?_setIfInBounds]
  by_cases e : k = i
  · subst e; simp [hs, hk]
  · rw [if_neg e]; exact hc i (by omega)
theorem RowTo.keep (h : RowTo w g n k f) (hb : w'.heap[g]? = w.heap[g]?) : RowTo w' g n k f := by
  obtain ⟨cs, t, h1, h2, hc⟩ := h
  exact ⟨cs, t, by rw [hb]; exact h1, h2, hc⟩
end
end Go.Proofs.Ytbccbfmgjeknhaa
namespace Go.Proofs.Ytbccbfmgjeknhaa
open Go.RowKit
end Go.Proofs.Ytbccbfmgjeknhaa
namespace Go.Proofs.Ytbccbfmgjeknhaa
open Go.RowKit
def u8of (x : Int) : UInt8 := UInt8.ofNat (IntKind.u8.wrap x).toNat
/-- between two calls on a writer: g is the box of what is written -/
structure Putting (w0 w : World) (B p : Nat) (A0 A : Option Addr) (c : Nat) (s : Int × List UInt8) (most : Int) (g : Nat) (cs : Array Value) : Prop where
  wr : Wr w B p A c s.1 s.2 most
  kept : Kept w0.heap.size (foot p A0) w0 w
  orig : ∀ q, blk A = some q → blk A0 = some q ∨ w0.heap.size ≤ q
  box : Holds w g cs
  apart : blk A ≠ some g
theorem Putting.step {w0 w w1 w2 : World} {B p : Nat} {A0 A : Option Addr} {c : Nat} {s s' : Int × List UInt8} {most : Int} {g : Nat} {cs : Array Value} (h : Putting w0 w B p A0 A c s most g cs)
    (hp : p < w0.heap.size) (hg : w0.heap.size ≤ g) (hs : 0 < cs.size) (hgr : Grow w w1) (hw : Wrote w1 w2 B p A s' most) : ∃ A' c', Putting w0 w2 B p A0 A' c' s' most g cs := by
  obtain ⟨A', c', h1, h2, h3⟩ := hw
  have hsz : w0.heap.size ≤ w1.heap.size := Nat.le_trans h.kept.size hgr.size
  have hgl : g < w.heap.size := h.box.lt hs
  have hgl1 : g < w1.heap.size := Nat.lt_of_lt_of_le hgl hgr.size
  have hng : g ∉ foot p A := by
    intro hm
    rcases List.mem_cons.1 hm with e | e
    · omega
    · exact h.apart (by simpa using e)
  refine ⟨A', c', h1, (h.kept.trans (Kept.of_below (hgr.mono (by have := h.kept.size; omega)) _)).trans (h2.mono hsz fun k hk hm => ?_), fun q hq => ?_, ?_, fun hq => ?_⟩
  · rcases List.mem_cons.1 hm with e | e
    · simp [foot, e]
    · have e' : blk A = some k := by simpa using e
      rcases h.orig k e' with e2 | e2
      · simp [foot, e2]
      · omega
  · rcases h3 q hq with e | e
    · exact h.orig q e
    · exact .inr (by omega)
  · intro i
    have hb := h.box.grow hs hgr i
    rw [← hb]
    exact World.cell?_of_block (h2.block g hgl1 hng)
  · rcases h3 g hq with e | e
    · exact h.apart e
    · omega
end Go.Proofs.Ytbccbfmgjeknhaa
