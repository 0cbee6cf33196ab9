/- A state that came in (chapter 41). -/
import Derived.Test.YtbccbfmgjeknhaaFrm
import Derived.Test.YtbccbfmgjeknhaaLj
namespace Go.Proofs.Ytbccbfmgjeknhaa
open Go.ChangeShapes Go.WideShapes Go.ChangeAt Go.RowKit
theorem cellsArr64 : Try.prog.cellsOf 32 = 64 := by kernel_rfl
theorem cellsU32' : Try.prog.cellsOf 31 = 1 := by kernel_rfl
theorem cellsI64' : Try.prog.cellsOf 2 = 1 := by kernel_rfl
theorem cellsU64' : Try.prog.cellsOf 30 = 1 := by kernel_rfl
theorem cellsLg : Try.prog.cellsOf 34 = 66 := by kernel_rfl
theorem cellsRst : Try.prog.cellsOf 36 = 68 := by kernel_rfl
theorem two_of {α : Type} : ∀ (cs : List α), 2 ≤ cs.length → ∃ c0 c1 r, cs = c0 :: c1 :: r
  | [], h => by simp at h
  | [_], h => by simp at h
  | c0 :: c1 :: r, _ => ⟨c0, c1, r, rfl⟩
def natOf : Value → Nat
  | .int _ n => n.toNat
  | _ => 0
theorem trod_u32s {H : Type} {enc : TypeId × Value → H} {W : World} {base : Nat} {spare : Nat → Bool} {held : Bool} {fuel : Nat} {cs : List Value} {x : DataW H × List MemPlace}
    (h : DataW.trod enc Try.prog W base spare held fuel 32 cs = some x) : ∃ L : List Nat, cs = L.map u32v ∧ L.length = 64 ∧ ∀ x, x ∈ L → x < 4294967296 := by
  obtain ⟨xs, m, _, _, hlen, hl, hz⟩ := DataW.trod_array Try.underlying32 h
  rw [cellsArr64] at hlen
  have hc : ∀ i (hi : i < cs.length), ∃ n : Nat, n < 4294967296 ∧ cs[i] = u32v n := by
    intro i hi
    have h1 := hz i (by omega)
    rw [cellsU32', Nat.mul_one, List.getElem?_eq_getElem (by omega)] at h1
    obtain ⟨n, e, _, w⟩ := DataW.trod_int Try.underlying31 h1
    rw [List.drop_eq_getElem_cons hi] at e
    simp only [List.take_succ_cons, List.take_zero, List.cons.injEq, and_true] at e
    have hb := bounds_u32 w
    refine ⟨n.toNat, by omega, ?_⟩
    rw [e]
    unfold u32v
    congr 1
    omega
  refine ⟨cs.map natOf, ?_, by rw [List.length_map, hlen], ?_⟩
  · rw [List.map_map]
    refine List.ext_getElem (by simp) (fun i h1 h2 => ?_)
    obtain ⟨n, _, e⟩ := hc i h1
    rw [List.getElem_map, e]
    show u32v n = u32v (natOf (u32v n))
    unfold natOf u32v
    simp
  · intro x hx
    obtain ⟨v, hv, rfl⟩ := List.mem_map.1 hx
    obtain ⟨i, hi, rfl⟩ := List.getElem_of_mem hv
    obtain ⟨n, hn, e⟩ := hc i hi
    rw [e]
    show natOf (u32v n) < _
    unfold natOf u32v
    simpa using hn
theorem trod_lg {H : Type} {enc : TypeId × Value → H} {W : World} {base : Nat} {spare : Nat → Bool} {held : Bool} {fuel : Nat} {cs : List Value} {x : DataW H × List MemPlace}
    (h : DataW.trod enc Try.prog W base spare held fuel 34 cs = some x) : ∃ l : Lg, cs = lcs l ∧ l.Ok := by
  obtain ⟨xs, m, _, _, hlen, hl, hf⟩ := DataW.trod_struct Try.underlying34 h
  rw [cellsLg] at hlen
  obtain ⟨c0, c1, cs, rfl⟩ : ∃ c0 c1 r, cs = c0 :: c1 :: r := two_of cs (by omega)
  simp at hl hlen
  have h0 := field_of hf 0 2 0 1 (by rfl) cellsI64' (by omega)
  have h1 := field_of hf 1 30 1 1 (by rfl) cellsU64' (by omega)
  have h2 := field_of hf 2 32 2 64 (by rfl) cellsArr64 (by omega)
  obtain ⟨a, e0, _, w0⟩ := DataW.trod_int Try.underlying2 h0
  obtain ⟨b, e1, _, w1⟩ := DataW.trod_int Try.underlying30 h1
  rw [List.drop_succ_cons, List.drop_succ_cons, List.drop_zero, List.take_of_length_le (by omega)] at h2
  obtain ⟨L, e2, hL, hlt⟩ := trod_u32s h2
  simp at e0 e1
  have b0 := bounds_i64 w0
  have b1 := bounds_u64 w1
  refine ⟨⟨a, b.toNat, L⟩, ?_, hL, hlt, ?_, b0.1, ?_⟩
  · rw [e0, e1, e2]
    unfold lcs
    dsimp only
    rw [Int.toNat_of_nonneg b1.1]
  · show b.toNat < _
    omega
  · show a ≤ _
    omega
set_option maxRecDepth 100000 in
theorem open_rst {H : Type} {enc : TypeId × Value → H} {W : World} {base : Nat} {spare : Nat → Bool} {held : Bool} {r : Reach} {b0 : Nat} {v : Value} {d : DataW H} {p : List MemPlace}
    (hval : Value.okWide Try.prog W r b0 36 v) (h : DataW.Trod enc Try.prog W base spare held 36 v d p) : ∃ s : St, v = .agg (scs s).toArray ∧ s.Ok := by
  obtain ⟨cs, rfl, _⟩ := okWide_struct Try.underlying36 hval
  obtain ⟨fuel, h⟩ := h
  obtain ⟨xs, m, _, _, hlen, hl, hf⟩ := DataW.trod_struct Try.underlying36 h
  rw [cellsRst] at hlen
  have hcs : (Value.agg cs).cells.toList = cs.toList := rfl
  rw [hcs] at hlen hf
  obtain ⟨c0, c1, rs, hc⟩ : ∃ c0 c1 r, cs.toList = c0 :: c1 :: r := two_of cs.toList (by omega)
  rw [hc] at hlen hf
  simp at hl hlen
  have h0 := field_of hf 0 2 0 1 (by rfl) cellsI64' (by omega)
  have h1 := field_of hf 1 30 1 1 (by rfl) cellsU64' (by omega)
  have h2 := field_of hf 2 34 2 66 (by rfl) cellsLg (by omega)
  obtain ⟨a, e0, _, w0⟩ := DataW.trod_int Try.underlying2 h0
  obtain ⟨b, e1, _, w1⟩ := DataW.trod_int Try.underlying30 h1
  rw [List.drop_succ_cons, List.drop_succ_cons, List.drop_zero, List.take_of_length_le (by omega)] at h2
  obtain ⟨l, e2, hL⟩ := trod_lg h2
  simp at e0 e1
  have b0 := bounds_i64 w0
  have b1 := bounds_u64 w1
  refine ⟨⟨a, b.toNat, l⟩, ?_, b0.1, ?_, ?_, hL⟩
  · rw [of_list (cs := cs) (ds := (scs ⟨a, b.toNat, l⟩).toArray) (by
      rw [hc, e0, e1, e2]
      unfold scs
      dsimp only
      rw [Int.toNat_of_nonneg b1.1])]
  · show a ≤ _
    omega
  · show b.toNat < _
    omega
end Go.Proofs.Ytbccbfmgjeknhaa
