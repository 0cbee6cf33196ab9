/- The plain law of chapter 05, of a reader: bytes as numbers. No Go in sight. The walks of a reader of package buf. The walks of numbers that a reader of package buf reads. The walks of numbers in sevens that a reader of package buf reads. The walks of the rest of a reader of package buf. The walks of the rest of a reader of package buf. -/
import Derived.Test.YtbccbfmgjeknhaaWri
import Derived.Test.YtbccbfmgjeknhaaTool
import Derived.Laws.Rows
import Derived.Deep.RegionLaw
namespace Buf
/-- the number of bytes, the lowest first -/
def num : List UInt8 → Nat
  | [] => 0
  | c :: l => c.toNat + 256 * num l
def getFixed (b : List UInt8) (n : Int) : Nat × List UInt8 × Int :=
  if n < 1 ∨ 8 < n then (0, [], 1) else if b.length < n.toNat then (0, [], 3) else (num (b.take n.toNat), b.drop n.toNat, 0)
/-! ### written and read back -/
/-! ### what a reader has: the bytes that are left, what is wrong -/
/-- an item is read -/
def rget {α : Type} (z : α) (f : List UInt8 → α × List UInt8 × Int) (s : List UInt8 × Int) : α × List UInt8 × Int := if s.2 = 0 then f s.1 else (z, s)
end Buf
namespace Go.Proofs.Ytbccbfmgjeknhaa
open Go.RowKit
/-- block p is a reader: what is left, what is wrong; its blocks lie below N -/
def Rd (w : World) (N p : Nat) (s : List UInt8 × Int) : Prop :=
  ∃ A c l, w.heap[p]? = some (.cells #[.int .i64 s.2, .slice A l.length c] 120 (0, 0)) ∧ l.length ≤ c ∧ c ≤ 9223372036854775807 ∧ Bytes w A l ∧ p < N ∧ N ≤ w.heap.size ∧ (∀ q, blk A = some q → q < N ∧ q ≠ p) ∧ (s.2 = 0 → l = s.1) ∧ (s.2 ≠ 0 → s.1 = [])
section
variable {w w' : World} {N p : Nat} {s : List UInt8 × Int}
theorem Rd.below (h : Rd w N p s) (hb : Below N w w') : Rd w' N p s := by
  obtain ⟨A, c, l, h1, h2, h3, h4, h5, h6, h7, h8⟩ := h
  refine ⟨A, c, l, (hb.block p h5).trans h1, h2, h3, h4.keep fun b o hA _ => hb.block b (h7 b (by rw [hA]; rfl)).1, h5, Nat.le_trans h6 hb.size, h7, h8⟩
theorem Rd.size (h : Rd w N p s) : N ≤ w.heap.size := by obtain ⟨A, c, l, h1, h2, h3, h4, h5, h6, h7, h8⟩ := h; exact h6
theorem Rd.grow (h : Rd w N p s) (hb : Grow w w') : Rd w' N p s := h.below (Below.mono hb h.size)
theorem Rd.lt (h : Rd w N p s) : p < N := by obtain ⟨A, c, l, h1, h2, h3, h4, h5, h6, h7, h8⟩ := h; exact h5
theorem Rd.drew (h : Rd w N p s) : Rd w.drew N p s := h
theorem Rd.c0 (h : Rd w N p s) : w.cell? ⟨p, 0, none⟩ = some (.int .i64 s.2) := by obtain ⟨A, c, l, h1, _⟩ := h; rw [cell_of_row w p 0 _ _ (0, 0) h1]; rfl
end
theorem Rd.apart {w : World} {N p : Nat} {s : List UInt8 × Int} (h : Rd w N p s) {A : Option Addr} {n c : Nat} (hc : w.cell? ⟨p, 1, none⟩ = some (.slice A n c)) {q : Nat} (hq : blk A = some q) : q ≠ p := by
  obtain ⟨A', c', l, h1, h2, h3, h4, h5, h6, h7, h8⟩ := h
  rw [cell_of_row w p 1 _ _ (0, 0) h1] at hc
  simp at hc
  obtain ⟨rfl, _, _⟩ := hc
  exact (h7 q hq).2
theorem Kept.grow {w w1 w2 : World} {S : List Nat} (h : Kept w.heap.size S w w1) (hg : Grow w1 w2) : Kept w.heap.size S w w2 := h.trans ((Kept.of_below hg S).mono h.size (fun _ _ e => e))
theorem Kept.step {w w1 w2 : World} {S : List Nat} (h : Kept w.heap.size S w w1) (k : Kept w1.heap.size S w1 w2) : Kept w.heap.size S w w2 := h.trans (k.mono h.size (fun _ _ e => e))
theorem Kept.after {w w1 w2 : World} {S : List Nat} (hg : Grow w w1) (k : Kept w1.heap.size S w1 w2) : Kept w.heap.size S w w2 := (Kept.of_below hg S).trans (k.mono hg.size (fun _ _ e => e))
theorem Bytes.kept {w w' : World} {A : Option Addr} {l : List UInt8} {S : List Nat} (h : Bytes w A l) (hk : Kept w.heap.size S w w') (hS : ∀ q, blk A = some q → q ∉ S) : Bytes w' A l :=
  h.keep fun b o hA hlt => hk.block b hlt (hS b (by rw [hA]; rfl))
/-- a part of bytes -/
theorem Bytes.drop {w : World} {b o : Nat} {l : List UInt8} (h : Bytes w (some ⟨b, o, none⟩) l) (n : Nat) : Bytes w (some ⟨b, o + n, none⟩) (l.drop n) := by
  intro hl
  obtain ⟨b', o', hA, hc⟩ := h (by rintro rfl; simp at hl)
  injection hA with hA
  injection hA with h1 h2
  subst h1 h2
  refine ⟨b, o + n, rfl, fun j hj => ?_⟩
  rw [List.length_drop] at hj
  rw [show o + n + j = o + (n + j) by omega, hc (n + j) (by omega), List.getElem_drop]
theorem Bytes.drop_any {w : World} {A : Option Addr} {l : List UInt8} (h : Bytes w A l) (n : Nat) : Bytes w (Option.map (fun x => x.add n) A) (l.drop n) := by
  intro hl
  obtain ⟨b, o, rfl, hc⟩ := h (by rintro rfl; simp at hl)
  obtain ⟨b', o', hA, hc'⟩ := Bytes.drop (show Bytes w (some ⟨b, o, none⟩) l from fun _ => ⟨b, o, rfl, hc⟩) n hl
  injection hA with hA
  injection hA with h1 h2
  subst h1 h2
  exact ⟨b, o + n, by simp [Addr.add], hc'⟩
end Go.Proofs.Ytbccbfmgjeknhaa
namespace Go.Proofs.Ytbccbfmgjeknhaa
open Go.RowKit
theorem Bytes.cells {w : World} {A : Option Addr} {l : List UInt8} (h : Bytes w A l) (hl : 0 < (l.map u8).length) : ∃ ad, A = some ad ∧ ∀ j v, (l.map u8)[j]? = some v → w.cell? (ad.add j) = some v := by
  obtain ⟨b, o, hA, hc⟩ := h (by rintro rfl; simp at hl)
  refine ⟨_, hA, fun j v hv => ?_⟩
  have hj : j < l.length := by
    rcases Nat.lt_or_ge j l.length with h | h
    · exact h
    · rw [List.getElem?_eq_none (by simpa using h)] at hv; cases hv
  rw [u8_map_get l j hj] at hv
  injection hv with hv
  subst hv
  have e : (⟨b, o, none⟩ : Addr).add j = ⟨b, o + j, none⟩ := by unfold Addr.add; split <;> simp_all
  rw [e, hc j hj]
def rfix (n : Int) (s : List UInt8 × Int) : Nat × List UInt8 × Int := Buf.rget 0 (fun b => Buf.getFixed b n) s
end Go.Proofs.Ytbccbfmgjeknhaa
namespace Go.Proofs.Ytbccbfmgjeknhaa
open Go.RowKit
/-- the bytes of a reader as numbers -/
structure Dig (w : World) (A : Option Addr) (b : List UInt8) (d : Nat → Nat) : Prop where
  lt : ∀ k, d k < 256
  cell : ∀ k, k < b.length → ∃ bb o, A = some ⟨bb, o, none⟩ ∧ w.cell? ⟨bb, o + k, none⟩ = some (.int .u8 ((d k : Nat) : Int))
theorem Dig.at_ {w : World} {bb o : Nat} {b : List UInt8} {d : Nat → Nat} (h : Dig w (some ⟨bb, o, none⟩) b d) (k : Nat) (hk : k < b.length) : w.cell? ⟨bb, o + k, none⟩ = some (.int .u8 ((d k : Nat) : Int)) := by
  obtain ⟨b', o', hA, hc⟩ := h.cell k hk
  injection hA with hA
  injection hA with e1 e2
  subst e1 e2
  exact hc
end Go.Proofs.Ytbccbfmgjeknhaa
namespace Go.Proofs.Ytbccbfmgjeknhaa
open Go.RowKit
end Go.Proofs.Ytbccbfmgjeknhaa
namespace Go.Proofs.Ytbccbfmgjeknhaa
open Go.RowKit
theorem rget_bad {α : Type} (z : α) (f : List UInt8 → α × List UInt8 × Int) (s : List UInt8 × Int) (h : s.2 ≠ 0) : Buf.rget z f s = (z, s) := by unfold Buf.rget; rw [if_neg h]
def rbyte (s : List UInt8 × Int) : Nat × List UInt8 × Int := rfix 1 s
end Go.Proofs.Ytbccbfmgjeknhaa
