/- Boxes: blocks that are known whole; what a call leaves of them. -/
import Derived.Test.YtldgnallbkpchaaRegion2
namespace Go.Proofs.Ytldgnallbkpchaa
open Go.RowKit
theorem Grow.of_eq {w w' : World} (h : w = w') : Grow w w' := h ▸ Grow.refl w
/-- block g is known whole -/
def Box (w : World) (g : Nat) (cs : Array Value) : Prop := ∃ t, w.heap[g]? = some (.cells cs t (0, 0))
section
variable {w w' : World} {g : Nat} {cs : Array Value}
theorem Box.lt (h : Box w g cs) : g < w.heap.size := by obtain ⟨t, h⟩ := h; exact (Array.getElem?_eq_some_iff.1 h).1
theorem Box.cell (h : Box w g cs) : ∀ i, w.cell? ⟨g, i, none⟩ = cs[i]? := fun i => by obtain ⟨t, h⟩ := h; exact cell_of_row w g i cs t (0, 0) h
theorem Box.fz (h : Box w g cs) : ∀ i, w.frozen? ⟨g, i, none⟩ = false := fun i => by obtain ⟨t, h⟩ := h; exact frozen_of_row w g i cs t h
theorem Box.keep (h : Box w g cs) (hb : w'.heap[g]? = w.heap[g]?) : Box w' g cs := by obtain ⟨t, h⟩ := h; exact ⟨t, hb.trans h⟩
theorem Box.grow (h : Box w g cs) (hb : Grow w w') : Box w' g cs := h.keep (hb.block g h.lt)
theorem Box.kept {S : List Nat} (h : Box w g cs) (hk : Kept w.heap.size S w w') (hS : g ∉ S) : Box w' g cs := h.keep (hk.block g h.lt hS)
theorem Box.drew (h : Box w g cs) : Box w.drew g cs := h
theorem Box.drewN (h : Box w g cs) (n : Nat) : Box (w.drewN n) g cs := h
theorem Box.new (w : World) (cs : Array Value) (t : TypeId) {g : Nat} (hg : w.heap.size = g) : Box (w.alloc (.cells cs t)) g cs := by subst hg; exact ⟨t, heap_alloc_new w _⟩
theorem Box.set (h : Box w g cs) (i : Nat) (v : Value) : Box (w.setCell ⟨g, i, none⟩ v) g (cs.setIfInBounds i v) := by
  obtain ⟨t, h⟩ := h
  exact ⟨t, heap_setCell_same w g i cs t v h⟩
theorem Box.set_ne (h : Box w g cs) {p : Addr} (hp : p.block ≠ g) (v : Value) : Box (w.setCell p v) g cs := h.keep (Below.heap_setCell _ _ _ _ (fun e => hp e.symm))
theorem Box.alloc (h : Box w g cs) (o : Obj) : Box (w.alloc o) g cs := h.grow ((Grow.refl w).alloc o)
end
/-- what a walk reads of a box: its cells, its mark, its place -/
theorem Box.rules {w : World} {g : Nat} {cs : Array Value} (h : Box w g cs) : (∀ i, w.cell? ⟨g, i, none⟩ = cs[i]?) ∧ (∀ i, w.frozen? ⟨g, i, none⟩ = false) ∧ g < w.heap.size := ⟨h.cell, h.fz, h.lt⟩
/-- the newest box of a world from which a call went on -/
theorem peel {W w1 : World} {cs : Array Value} {t : TypeId} {g : Nat} (hb : Grow (W.alloc (.cells cs t)) w1) (hg : W.heap.size = g) : Box w1 g cs ∧ Grow W w1 :=
  ⟨(Box.new W cs t hg).grow hb, Grow.trans ((Grow.refl W).alloc _) hb⟩
theorem peel1 {W w1 : World} {cs : Array Value} {t : TypeId} (hb : Grow (W.alloc (.cells cs t)) w1) : Box w1 W.heap.size cs ∧ Grow W w1 := peel hb rfl
theorem peel2 {W w1 : World} {cs ds : Array Value} {t u : TypeId} (hb : Grow ((W.alloc (.cells cs t)).alloc (.cells ds u)) w1) : Box w1 W.heap.size cs ∧ Box w1 (W.heap.size + 1) ds ∧ Grow W w1 := by
  obtain ⟨h2, hb⟩ := peel (g := W.heap.size + 1) hb (by simp)
  obtain ⟨h1, hb⟩ := peel hb rfl
  exact ⟨h1, h2, hb⟩
theorem peel3 {W w1 : World} {cs ds es : Array Value} {t u v : TypeId} (hb : Grow (((W.alloc (.cells cs t)).alloc (.cells ds u)).alloc (.cells es v)) w1) : Box w1 W.heap.size cs ∧ Box w1 (W.heap.size + 1) ds ∧ Box w1 (W.heap.size + 1 + 1) es ∧ Grow W w1 := by
  obtain ⟨h3, hb⟩ := peel (g := W.heap.size + 1 + 1) hb (by simp)
  obtain ⟨h1, h2, hb⟩ := peel2 hb
  exact ⟨h1, h2, h3, hb⟩
theorem peel4 {W w1 : World} {cs ds es fs : Array Value} {t u v x : TypeId} (hb : Grow ((((W.alloc (.cells cs t)).alloc (.cells ds u)).alloc (.cells es v)).alloc (.cells fs x)) w1) : Box w1 W.heap.size cs ∧ Box w1 (W.heap.size + 1) ds ∧ Box w1 (W.heap.size + 1 + 1) es ∧ Box w1 (W.heap.size + 1 + 1 + 1) fs ∧ Grow W w1 := by
  obtain ⟨h4, hb⟩ := peel (g := W.heap.size + 1 + 1 + 1) hb (by simp)
  obtain ⟨h1, h2, h3, hb⟩ := peel3 hb
  exact ⟨h1, h2, h3, h4, hb⟩
/-- behind an append to the newest block, that was made empty -/
theorem app_grow {W w1 : World} {n : Nat} (h : W.grownBy w1 (blk (some ⟨n, 0, none⟩))) (hn : n ≤ W.heap.size) : Below n W w1 :=
  ⟨h.os, h.tape, h.output, h.size, fun k hk => h.block k (by omega) (by simp [blk]; omega)⟩
theorem app0 {W w1 : World} {o : Obj} {g : Nat} (h : (W.alloc o).grownBy w1 (blk (some ⟨g, 0, none⟩))) (hg : W.heap.size = g) : Grow W w1 := by
  subst hg
  exact Below.trans ((Grow.refl W).alloc o) (app_grow h (by simp))
theorem app1 {w w1 : World} {cs : Array Value} {t : TypeId} {o : Obj} {g : Nat} (h : ((w.alloc (.cells cs t)).alloc o).grownBy w1 (blk (some ⟨g, 0, none⟩))) (hg : w.heap.size + 1 = g) : Box w1 w.heap.size cs ∧ Grow w w1 :=
  peel1 (app0 h (by simpa using hg))
theorem app2 {w w1 : World} {cs ds : Array Value} {t u : TypeId} {o : Obj} {g : Nat} (h : (((w.alloc (.cells cs t)).alloc (.cells ds u)).alloc o).grownBy w1 (blk (some ⟨g, 0, none⟩))) (hg : w.heap.size + 1 + 1 = g) : Box w1 w.heap.size cs ∧ Box w1 (w.heap.size + 1) ds ∧ Grow w w1 :=
  peel2 (app0 h (by simpa using hg))
theorem Own.made' (w : World) (base g : Nat) (hg : w.heap.size = g) (hb : base ≤ g) : Own (w.alloc (.cells #[] 5)) base (some ⟨g, 0, none⟩) 0 [] := by
  subst hg
  exact Own.made w #[] 0 hb (by decide) rfl
theorem Own.setAt {w : World} {base : Nat} {A : Option Addr} {c : Nat} {l : List UInt8} (h : Own w base A c l) {p : Addr} (hp : ∀ q, blk A = some q → q ≠ p.block) (v : Value) : Own (w.setCell p v) base A c l :=
  h.kept fun g hg => Below.heap_setCell _ _ _ _ (hp g hg)
theorem Bytes.setAt {w : World} {A : Option Addr} {l : List UInt8} (h : Bytes w A l) {p : Addr} (hp : ∀ q, blk A = some q → q ≠ p.block) (v : Value) : Bytes (w.setCell p v) A l :=
  h.keep fun b o hA _ => Below.heap_setCell _ _ _ _ (hp b (by rw [hA]; rfl))
/-- the same, where a call may have turned the block q of old -/
theorem peelK {W w1 : World} {cs : Array Value} {t : TypeId} {g : Nat} {S : List Nat} (hb : Kept (W.alloc (.cells cs t)).heap.size S (W.alloc (.cells cs t)) w1) (hg : W.heap.size = g) (hS : g ∉ S) : Box w1 g cs ∧ Kept W.heap.size S W w1 :=
  ⟨(Box.new W cs t hg).kept hb hS, ((Kept.refl W.heap.size S W).alloc (Nat.le_refl _) _).trans (hb.mono (by simp) (fun _ _ e => e))⟩
theorem peelK1 {W w1 : World} {cs : Array Value} {t : TypeId} {S : List Nat} (hb : Kept (W.alloc (.cells cs t)).heap.size S (W.alloc (.cells cs t)) w1) (hS : W.heap.size ∉ S) : Box w1 W.heap.size cs ∧ Kept W.heap.size S W w1 := peelK hb rfl hS
theorem peelK2 {W w1 : World} {cs ds : Array Value} {t u : TypeId} {S : List Nat} (hb : Kept ((W.alloc (.cells cs t)).alloc (.cells ds u)).heap.size S ((W.alloc (.cells cs t)).alloc (.cells ds u)) w1) (hS : W.heap.size ∉ S) (hS2 : W.heap.size + 1 ∉ S) :
    Box w1 W.heap.size cs ∧ Box w1 (W.heap.size + 1) ds ∧ Kept W.heap.size S W w1 := by
  obtain ⟨h2, hb⟩ := peelK (g := W.heap.size + 1) hb (by simp) hS2
  obtain ⟨h1, hb⟩ := peelK hb rfl hS
  exact ⟨h1, h2, hb⟩
theorem peelK3 {W w1 : World} {cs ds es : Array Value} {t u v : TypeId} {S : List Nat} (hb : Kept (((W.alloc (.cells cs t)).alloc (.cells ds u)).alloc (.cells es v)).heap.size S (((W.alloc (.cells cs t)).alloc (.cells ds u)).alloc (.cells es v)) w1) (hS : W.heap.size ∉ S) (hS2 : W.heap.size + 1 ∉ S) (hS3 : W.heap.size + 1 + 1 ∉ S) :
    Box w1 W.heap.size cs ∧ Box w1 (W.heap.size + 1) ds ∧ Box w1 (W.heap.size + 1 + 1) es ∧ Kept W.heap.size S W w1 := by
  obtain ⟨h3, hb⟩ := peelK (g := W.heap.size + 1 + 1) hb (by simp) hS3
  obtain ⟨h1, h2, hb⟩ := peelK2 hb hS hS2
  exact ⟨h1, h2, h3, hb⟩
theorem Kept.at_ {w w1 w2 : World} {S : List Nat} (h : Kept w.heap.size S w w1) (k : Kept w1.heap.size S w1 w2) : Kept w.heap.size S w w2 := h.trans (k.mono h.size (fun _ _ e => e))
theorem Kept.fresh1 {w w1 w2 : World} {p : Nat} (h : Kept w1.heap.size [p] w1 w2) (hg : Grow w w1) (hp : w.heap.size ≤ p) : Grow w w2 :=
  ((Kept.of_below hg []).trans (h.mono hg.size fun k hk hm => by rcases List.mem_singleton.1 hm with rfl; omega)).to_below
/-- twelve cells of a box are stored anew -/
theorem Box.store12 {w w' : World} {g : Nat} {a0 a1 a2 a3 a4 a5 a6 a7 a8 a9 a10 a11 b0 b1 b2 b3 b4 b5 b6 b7 b8 b9 b10 b11 : Value} (h : Box w g #[a0, a1, a2, a3, a4, a5, a6, a7, a8, a9, a10, a11]) (hW : (World.setCell (World.setCell (World.setCell (World.setCell (World.setCell (World.setCell (World.setCell (World.setCell (World.setCell (World.setCell (World.setCell (World.setCell w ⟨g, 0, none⟩ b0) ⟨g, 1, none⟩ b1) ⟨g, 2, none⟩ b2) ⟨g, 3, none⟩ b3) ⟨g, 4, none⟩ b4) ⟨g, 5, none⟩ b5) ⟨g, 6, none⟩ b6) ⟨g, 7, none⟩ b7) ⟨g, 8, none⟩ b8) ⟨g, 9, none⟩ b9) ⟨g, 10, none⟩ b10) ⟨g, 11, none⟩ b11) = w') : Box w' g #[b0, b1, b2, b3, b4, b5, b6, b7, b8, b9, b10, b11] := by
  subst hW
  have h0 := Box.set h 0 b0
  simp only [List.setIfInBounds_toArray, List.set_cons_zero] at h0
  have h1 := Box.set h0 1 b1
  simp only [List.setIfInBounds_toArray, List.set_cons_zero, List.set_cons_succ] at h1
  have h2 := Box.set h1 2 b2
  simp only [List.setIfInBounds_toArray, List.set_cons_zero, List.set_cons_succ] at h2
  have h3 := Box.set h2 3 b3
  simp only [List.setIfInBounds_toArray, List.set_cons_zero, List.set_cons_succ] at h3
  have h4 := Box.set h3 4 b4
  simp only [List.setIfInBounds_toArray, List.set_cons_zero, List.set_cons_succ] at h4
  have h5 := Box.set h4 5 b5
  simp only [List.setIfInBounds_toArray, List.set_cons_zero, List.set_cons_succ] at h5
  have h6 := Box.set h5 6 b6
  simp only [List.setIfInBounds_toArray, List.set_cons_zero, List.set_cons_succ] at h6
  have h7 := Box.set h6 7 b7
  simp only [List.setIfInBounds_toArray, List.set_cons_zero, List.set_cons_succ] at h7
  have h8 := Box.set h7 8 b8
  simp only [List.setIfInBounds_toArray, List.set_cons_zero, List.set_cons_succ] at h8
  have h9 := Box.set h8 9 b9
  simp only [List.setIfInBounds_toArray, List.set_cons_zero, List.set_cons_succ] at h9
  have h10 := Box.set h9 10 b10
  simp only [List.setIfInBounds_toArray, List.set_cons_zero, List.set_cons_succ] at h10
  have h11 := Box.set h10 11 b11
  simp only [List.setIfInBounds_toArray, List.set_cons_zero, List.set_cons_succ] at h11
  exact h11
theorem Kept.store12 {w w' : World} {g : Nat} {b0 b1 b2 b3 b4 b5 b6 b7 b8 b9 b10 b11 : Value} (hW : (World.setCell (World.setCell (World.setCell (World.setCell (World.setCell (World.setCell (World.setCell (World.setCell (World.setCell (World.setCell (World.setCell (World.setCell w ⟨g, 0, none⟩ b0) ⟨g, 1, none⟩ b1) ⟨g, 2, none⟩ b2) ⟨g, 3, none⟩ b3) ⟨g, 4, none⟩ b4) ⟨g, 5, none⟩ b5) ⟨g, 6, none⟩ b6) ⟨g, 7, none⟩ b7) ⟨g, 8, none⟩ b8) ⟨g, 9, none⟩ b9) ⟨g, 10, none⟩ b10) ⟨g, 11, none⟩ b11) = w') : Kept w.heap.size [g] w w' := by
  subst hW
  exact Kept.setCell (p := ⟨g, 11, none⟩) (Kept.setCell (p := ⟨g, 10, none⟩) (Kept.setCell (p := ⟨g, 9, none⟩) (Kept.setCell (p := ⟨g, 8, none⟩) (Kept.setCell (p := ⟨g, 7, none⟩) (Kept.setCell (p := ⟨g, 6, none⟩) (Kept.setCell (p := ⟨g, 5, none⟩) (Kept.setCell (p := ⟨g, 4, none⟩) (Kept.setCell (p := ⟨g, 3, none⟩) (Kept.setCell (p := ⟨g, 2, none⟩) (Kept.setCell (p := ⟨g, 1, none⟩) (Kept.setCell (p := ⟨g, 0, none⟩) (Kept.refl w.heap.size [g] w) (.inr (by simp)) b0) (.inr (by simp)) b1) (.inr (by simp)) b2) (.inr (by simp)) b3) (.inr (by simp)) b4) (.inr (by simp)) b5) (.inr (by simp)) b6) (.inr (by simp)) b7) (.inr (by simp)) b8) (.inr (by simp)) b9) (.inr (by simp)) b10) (.inr (by simp)) b11
/-- one cell of a box is stored anew -/
theorem Box.store1 {w w' : World} {g i : Nat} {cs : Array Value} {v : Value} (h : Box w g cs) (hW : World.setCell w ⟨g, i, none⟩ v = w') : Box w' g (cs.setIfInBounds i v) := hW ▸ h.set i v
theorem Box.keep_ne {w w' : World} {g : Nat} {p : Addr} {cs : Array Value} {v : Value} (h : Box w g cs) (hW : World.setCell w p v = w') (hp : p.block ≠ g) : Box w' g cs := hW ▸ h.set_ne hp v
theorem Bytes.store1 {w w' : World} {A : Option Addr} {l : List UInt8} {p : Addr} {v : Value} (h : Bytes w A l) (hW : World.setCell w p v = w') (hp : ∀ q, blk A = some q → q ≠ p.block) : Bytes w' A l := hW ▸ h.setAt hp v
theorem Kept.store1 {w w1 w' : World} {B : Nat} {S : List Nat} {p : Addr} {v : Value} (h : Kept B S w w1) (hW : World.setCell w1 p v = w') (hp : B ≤ p.block) : Kept B S w w' := hW ▸ h.setCell (.inl hp) v
theorem Grow.store1 {w w1 w' : World} {p : Addr} {v : Value} (h : Grow w w1) (hW : World.setCell w1 p v = w') (hp : w.heap.size ≤ p.block) : Grow w w' := hW ▸ Below.setCell h hp v
end Go.Proofs.Ytldgnallbkpchaa
