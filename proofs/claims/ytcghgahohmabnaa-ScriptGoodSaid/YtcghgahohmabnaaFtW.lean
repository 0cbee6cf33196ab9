/- The walk of the statement FateFair, whatever the fate; a pair of numbers that came in. -/
import Derived.Test.YtcghgahohmabnaaFtV
namespace Go.Proofs.Ytcghgahohmabnaa
open Go.ChangeShapes Go.WideShapes Go.ChangeAt Go.RowKit
theorem fateFair_any (f : Fate) (lo hi : Int) (B : Option Addr) (b : List UInt8) (cb : Nat) (w : World) (hbl : b.length ≤ cb) (hbc : cb ≤ 9223372036854775807) (hb : Bytes w B b) :
    Calls Try.prog 13 #[fv f, .agg #[.int .i64 lo, .int .i64 hi], .slice B b.length cb] w fun e w' => e = .returned (.bool true) ∧ Grow w w' := by
  cases h : fairB f lo hi with
  | false => exact fateFair_no f lo hi B b cb w h hbl hbc hb
  | true =>
    by_cases hk : f.kind = 0
    · exact fateFair_0 f lo hi B b cb w h hk hbl hbc hb
    · have h2 : f.kind = 2 := by
        unfold fairB at h
        rw [if_neg hk] at h
        simp only [Bool.and_eq_true, beq_iff_eq] at h
        exact h.2.1.1
      exact fateFair_2 f lo hi B b cb w h h2 hbl hbc hb
theorem cellsPair : Try.prog.cellsOf 87 = 2 := by kernel_rfl
theorem list2 {α : Type} (cs : List α) (h : cs.length = 2) : ∃ c0 c1, cs = [c0, c1] := by
  match cs, h with
  | [c0, c1], _ => exact ⟨c0, c1, rfl⟩
theorem okWide_arr {P : Program} {w : World} {r : Reach} {base n : Nat} {t e : TypeId} {v : Value} (ht : P.underlying t = some (.array n e)) (h : Value.okWide P w r base t v) : ∃ cs, v = .agg cs ∧ cs.size = P.cellsOf t := by
  simp only [Value.okWide, ht] at h
  obtain ⟨cs, h1, h2, _⟩ := h
  exact ⟨cs, h1, h2⟩
set_option maxRecDepth 100000 in
theorem open_pair {H : Type} {enc : TypeId × Value → H} {W : World} {base : Nat} {spare : Nat → Bool} {held : Bool} {r : Reach} {b0 : Nat} {v : Value} {d : DataW H} {p : List MemPlace}
    (hval : Value.okWide Try.prog W r b0 87 v) (h : DataW.Trod enc Try.prog W base spare held 87 v d p) : ∃ x y : Int, v = .agg #[.int .i64 x, .int .i64 y] := by
  obtain ⟨cs, rfl, hs⟩ := okWide_arr Try.underlying87 hval
  rw [cellsPair] at hs
  obtain ⟨fuel, hf⟩ := h
  obtain ⟨xs, m, _, _, hlen, hl, hz⟩ := DataW.trod_array Try.underlying87 hf
  obtain ⟨c0, c1, hc⟩ := list2 cs.toList (by simpa using hs)
  have hcs : (Value.agg cs).cells.toList = cs.toList := rfl
  rw [hcs, hc] at hz
  have h0 := hz 0 (by decide)
  have h1 := hz 1 (by decide)
  rw [cellsInt64] at h0 h1
  rw [List.getElem?_eq_getElem (by omega)] at h0 h1
  obtain ⟨x, e0, _, _⟩ := DataW.trod_int Try.underlying2 h0
  obtain ⟨y, e1, _, _⟩ := DataW.trod_int Try.underlying2 h1
  simp at e0 e1
  refine ⟨x, y, ?_⟩
  rw [of_list (cs := cs) (ds := #[.int .i64 x, .int .i64 y]) (by rw [hc, e0, e1])]
end Go.Proofs.Ytcghgahohmabnaa
