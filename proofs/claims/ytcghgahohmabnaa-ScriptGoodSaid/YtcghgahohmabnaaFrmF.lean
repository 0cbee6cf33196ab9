/- A fate that came in, in my own words. -/
import Derived.Test.YtcghgahohmabnaaFrm
import Derived.Test.YtcghgahohmabnaaFt
namespace Go.Proofs.Ytcghgahohmabnaa
open Go.ChangeShapes Go.WideShapes Go.ChangeAt Go.RowKit
/-- the bounds of a fate that came in -/
structure FateOk (p : Fate) : Prop where
  kind : (Lit.int .i64 p.kind).wf = true
  delay : (Lit.int .i64 p.delay).wf = true
  again : (Lit.int .i64 p.again).wf = true
  pos : (Lit.int .u32 p.pos).wf = true
  bits : (Lit.int .u32 p.bits).wf = true
theorem list5 {α : Type} (cs : List α) (h : cs.length = 5) : ∃ c0 c1 c2 c3 c4, cs = [c0, c1, c2, c3, c4] := by
  match cs, h with
  | [c0, c1, c2, c3, c4], _ => exact ⟨c0, c1, c2, c3, c4, rfl⟩
theorem cellsFate : Try.prog.cellsOf 78 = 5 := by kernel_rfl
set_option maxRecDepth 100000 in
theorem trod_fate {H : Type} {enc : TypeId × Value → H} {W : World} {base : Nat} {spare : Nat → Bool} {held : Bool} {fuel : Nat} {cs : List Value} {x : DataW H × List MemPlace}
    (h : DataW.trod enc Try.prog W base spare held fuel 78 cs = some x) : ∃ f : Fate, cs = (fcells f).toList ∧ FateOk f := by
  obtain ⟨xs, m, _, _, hlen, hl, hf⟩ := DataW.trod_struct Try.underlying78 h
  rw [cellsFate] at hlen
  obtain ⟨c0, c1, c2, c3, c4, rfl⟩ := list5 cs hlen
  simp at hl
  have h0 := field_of hf 0 3 0 1 (by rfl) cellsInt (by omega)
  have h1 := field_of hf 1 2 1 1 (by rfl) cellsInt64 (by omega)
  have h2 := field_of hf 2 2 2 1 (by rfl) cellsInt64 (by omega)
  have h3 := field_of hf 3 31 3 1 (by rfl) cellsU32 (by omega)
  have h4 := field_of hf 4 31 4 1 (by rfl) cellsU32 (by omega)
  obtain ⟨k, e0, _, w0⟩ := DataW.trod_int Try.underlying3 h0
  obtain ⟨d, e1, _, w1⟩ := DataW.trod_int Try.underlying2 h1
  obtain ⟨a, e2, _, w2⟩ := DataW.trod_int Try.underlying2 h2
  obtain ⟨p, e3, _, w3⟩ := DataW.trod_int Try.underlying31 h3
  obtain ⟨b, e4, _, w4⟩ := DataW.trod_int Try.underlying31 h4
  simp at e0 e1 e2 e3 e4
  exact ⟨⟨k, d, a, p, b⟩, by rw [e0, e1, e2, e3, e4], w0, w1, w2, w3, w4⟩
set_option maxRecDepth 100000 in
theorem open_fate {H : Type} {enc : TypeId × Value → H} {W : World} {base : Nat} {spare : Nat → Bool} {held : Bool} {r : Reach} {b0 : Nat} {v : Value} {d : DataW H} {p : List MemPlace}
    (hval : Value.okWide Try.prog W r b0 78 v) (h : DataW.Trod enc Try.prog W base spare held 78 v d p) :
    ∃ f : Fate, v = fv f ∧ FateOk f := by
  obtain ⟨cs, rfl, _⟩ := okWide_struct Try.underlying78 hval
  obtain ⟨fuel, hf⟩ := h
  obtain ⟨f, e, ok⟩ := trod_fate hf
  refine ⟨f, ?_, ok⟩
  rw [of_list (cs := cs) (ds := fcells f) e]
end Go.Proofs.Ytcghgahohmabnaa
