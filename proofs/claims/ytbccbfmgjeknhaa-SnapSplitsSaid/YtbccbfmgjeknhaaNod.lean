/- The document's sets of nodes (chapter 03): lists of ints, With. -/
import Derived.Test.YtbccbfmgjeknhaaRdX
import Derived.Laws.AppendOwn
import Derived.OwnWalk
namespace Go.Proofs.Ytbccbfmgjeknhaa
open Go.RowKit
abbrev nv (i : Nat) : Value := .int .i64 (i : Int)
/-- a list of numbers in memory -/
def IntsAt (w : World) (A : Option Addr) (L : List Nat) : Prop := L ≠ [] → ∃ b o, A = some ⟨b, o, none⟩ ∧ ∀ k (h : k < L.length), w.cell? ⟨b, o + k, none⟩ = some (nv L[k])
theorem IntsAt.grow {w w' : World} {A : Option Addr} {L : List Nat} (h : IntsAt w A L) (hg : Grow w w') : IntsAt w' A L := by
  intro hne
  obtain ⟨b, o, rfl, hc⟩ := h hne
  exact ⟨b, o, rfl, fun k hk => Grow.cell' hg (hc k hk)⟩
abbrev OwnI (w : World) (base : Nat) (v : Value) (L : List Nat) : Prop := w.ownsRow base 3 1 v L.length (L.map nv)
theorem OwnI.form {w : World} {base : Nat} {v : Value} {L : List Nat} (h : OwnI w base v L) : ∃ A c, v = .slice A L.length c ∧ (∀ q, v.ownBlock = some q → base ≤ q ∧ q < w.heap.size) ∧ IntsAt w A L := by
  obtain ⟨h0, ⟨rfl, h1⟩ | ⟨g, cap, cur, rfl, hb, hg, h1, h2, h3, h4⟩⟩ := h
  · have : L = [] := List.eq_nil_of_length_eq_zero h1
    subst this
    exact ⟨none, 0, rfl, fun q hq => by simp [Value.ownBlock] at hq, fun h => absurd rfl h⟩
  · refine ⟨_, cap, rfl, fun q hq => ?_, fun hne => ⟨g, 0, rfl, fun k hk => ?_⟩⟩
    · have : g = q := by simpa [Value.ownBlock] using hq
      subst this
      exact ⟨hb, (Array.getElem?_eq_some_iff.1 hg).1⟩
    · rw [Nat.zero_add, cell_of_row w g _ _ _ (0, 0) hg]
      have h5 : (cur.toList.take (L.length * 1))[k]? = (L.map nv)[k]? := by rw [h4]
      rw [List.getElem?_take_of_lt (by omega), List.getElem?_map, List.getElem?_eq_getElem hk] at h5
      simpa using h5
theorem OwnI.grow {w w' : World} {base : Nat} {v : Value} {L : List Nat} (h : OwnI w base v L) (hg : Grow w w') : OwnI w' base v L := by
  obtain ⟨h0, h1 | ⟨g, cap, cur, rfl, hbb, hgg, h1, h2, h3, h4⟩⟩ := h
  · exact ⟨h0, .inl h1⟩
  · exact ⟨h0, .inr ⟨g, cap, cur, rfl, hbb, (hg.block g (Array.getElem?_eq_some_iff.1 hgg).1).trans hgg, h1, h2, h3, h4⟩⟩
theorem OwnI.made (w : World) (base g : Nat) (hg : w.heap.size = g) (hb : base ≤ g) : OwnI (w.alloc (.cells #[] 3)) base (.slice (some ⟨g, 0, none⟩) 0 0) [] := by
  subst hg
  exact ⟨rfl, .inr ⟨_, 0, #[], rfl, hb, heap_alloc_new w _, Nat.le_refl _, by decide, rfl, rfl⟩⟩
theorem one_news {w : World} {g : Nat} {v : Value} (h : w.cell? ⟨g, 0, none⟩ = some v) : ∀ j u, [v][j]? = some u → w.cell? ((⟨g, 0, none⟩ : Addr).add j) = some u := by
  intro j u hj
  match j, hj with
  | 0, hj =>
    simp at hj
    subst hj
    simpa [Addr.add] using h
theorem ngrown {w0 w w' : World} {row : Option Nat} (hg : Grow w0 w) (h : w.grownBy w' row) (hr : ∀ q, row = some q → w0.heap.size ≤ q) : Grow w0 w' :=
  Below.trans hg ⟨h.os, h.tape, h.output, h.size, fun k hk => h.block k (Nat.lt_of_lt_of_le hk hg.size) (fun e => by have := hr k e.symm; omega)⟩
end Go.Proofs.Ytbccbfmgjeknhaa
