/- Chapter 37: the document's Get. -/
import Derived.Test.YtbccbfmgjeknhaaLu
import Derived.Test.YtbccbfmgjeknhaaLq
namespace Go.Proofs.Ytbccbfmgjeknhaa
open Go.RowKit
theorem results_cell_tmp2' {fn : Func} {p u v : Tmp} {ty : TypeId} (h : fn.results = #[.cell p ty, .tmp u, .tmp v]) (tmps : Array Value) (P : Program) (w : World) :
    (results fn tmps).run P w =
      ((asAddr (tmps.getD p undef)).run P w).andThen fun a w₁ => ((loadVar ty a).run P w₁).andThen fun x w₂ => .ok (.tuple #[x, tmps.getD u undef, tmps.getD v undef]) w₂ := by
  simp only [results, h]
  simp [Sem.run_bind, Result.andThen]
theorem results_cell_tmp2 {P : Program} {fn : Func} {p u v : Tmp} {ty : TypeId} (h : fn.results = #[.cell p ty, .tmp u, .tmp v]) (tmps : Array Value) (w : World) (b o : Nat) (cs : List Value) (d : TypeDesc) (hp : tmps.getD p undef = .pointer (some ⟨b, o, none⟩)) (hc : w.rangeAt b o cs)
    (hu : P.underlying ty = some d) (hd : d.isRow = true) (hi : (P.info? ty).map (·.size) = some cs.length) : (results fn tmps).run P w = .ok (.tuple #[.agg cs.toArray, tmps.getD u undef, tmps.getD v undef]) w := by
  rw [results_cell_tmp2' h, hp]
  simp [asAddr, Result.andThen, run_loadVar_mid w b o ty cs d hc hu hd hi]
def setMany (cs : Array Value) : Nat → List Value → Array Value
  | _, [] => cs
  | o, v :: r => setMany (cs.setIfInBounds o v) (o + 1) r
theorem Box.setMany {g : Nat} : ∀ (vs : List Value) (o : Nat) {w : World} {cs : Array Value}, Box w g cs → Box (w.setCells g o vs) g (setMany cs o vs)
  | [], _, _, _, h => h
  | v :: r, o, _, _, h => Box.setMany r (o + 1) (h.set o v)
theorem setMany_list : ∀ (vs : List Value) (o : Nat) (cs : List Value), o + vs.length ≤ cs.length → setMany cs.toArray o vs = (cs.take o ++ vs ++ cs.drop (o + vs.length)).toArray
  | [], o, cs, _ => by simp [setMany]
  | v :: r, o, cs, h => by
    simp only [List.length_cons] at h
    unfold setMany
    rw [List.setIfInBounds_toArray, setMany_list r (o + 1) (cs.set o v) (by rw [List.length_set]; omega)]
    congr 1
    rw [List.drop_set_of_lt (by omega), List.length_cons, show o + 1 + r.length = o + (r.length + 1) by omega, List.take_succ_eq_append_getElem (by rw [List.length_set]; omega), List.getElem_set_self, List.take_set_of_le (Nat.le_refl o)]
    simp
theorem Box.setCells_all {w : World} {g : Nat} {cs : Array Value} (h : Box w g cs) (vs : List Value) (hl : vs.length = cs.size) : Box (w.setCells g 0 vs) g vs.toArray := by
  have h1 := Box.setMany vs 0 h
  have h2 := setMany_list vs 0 cs.toList (by simp; omega)
  rw [Array.toArray_toList] at h2
  rw [h2] at h1
  rw [List.drop_of_length_le (by simp; omega)] at h1
  simpa using h1
theorem rfix_long (k : Nat) (b : List UInt8) (h1 : 1 ≤ k) (h8 : k ≤ 8) (h : k ≤ b.length) : rfix k (b, 0) = (Buf.num (b.take k), b.drop k, 0) := by
  unfold rfix Buf.rget Buf.getFixed
  rw [if_pos rfl]
  dsimp only
  rw [if_neg (by omega), if_neg (by rw [Int.toNat_natCast]; show ¬ b.length < k; omega), Int.toNat_natCast]
theorem rfix_short (k : Nat) (b : List UInt8) (h1 : 1 ≤ k) (h8 : k ≤ 8) (h : b.length < k) : rfix k (b, 0) = (0, [], 3) := by
  unfold rfix Buf.rget Buf.getFixed
  rw [if_pos rfl]
  dsimp only
  rw [if_neg (by omega), if_pos (by rw [Int.toNat_natCast]; exact h)]
theorem rfix_bad (k : Int) (s : List UInt8 × Int) (h : s.2 ≠ 0) : rfix k s = (0, s) := by
  unfold rfix Buf.rget
  rw [if_neg h]
theorem gF_drop : ∀ (k : Nat) (b : List UInt8), 4 * k ≤ b.length → (gF k (b, 0)).2 = (b.drop (4 * k), 0)
  | 0, b, _ => rfl
  | k + 1, b, h => by
    have ih := gF_drop k b (by omega)
    show (rfix 4 (gF k (b, 0)).2).2 = _
    rw [ih]
    have := rfix_long 4 (b.drop (4 * k)) (by decide) (by decide) (by rw [List.length_drop]; omega)
    rw [show ((4 : Nat) : Int) = 4 from rfl] at this
    rw [this, List.drop_drop]
    rfl
theorem gF_bad : ∀ (k : Nat) (s : List UInt8 × Int), s.2 ≠ 0 → (gF k s).2 = s
  | 0, _, _ => rfl
  | k + 1, s, h => by
    show (rfix 4 (gF k s).2).2 = s
    rw [gF_bad k s h, rfix_bad 4 s h]
theorem gF_short : ∀ (k : Nat) (b : List UInt8), b.length < 4 * k → (gF k (b, 0)).2.2 = 3
  | 0, b, h => by omega
  | k + 1, b, h => by
    show (rfix 4 (gF k (b, 0)).2).2.2 = 3
    by_cases h1 : b.length < 4 * k
    · have ih := gF_short k b h1
      rw [rfix_bad 4 _ (by rw [ih]; decide)]
      exact ih
    · rw [gF_drop k b (by omega)]
      have := rfix_short 4 (b.drop (4 * k)) (by decide) (by decide) (by rw [List.length_drop]; omega)
      rw [show ((4 : Nat) : Int) = 4 from rfl] at this
      rw [this]
theorem gC_long (b : List UInt8) (h : 8 ≤ b.length) : (gC (b, 0)).2 = (b.drop 8, 0) := by
  have := rfix_long 8 b (by decide) (by decide) h
  show (rfix 8 (b, 0)).2 = _
  rw [show ((8 : Nat) : Int) = 8 from rfl] at this
  rw [this]
theorem gS_long (b : List UInt8) (h : 16 ≤ b.length) : (gS (b, 0)).2 = (b.drop 16, 0) := by
  have := rfix_long 8 (b.drop 8) (by decide) (by decide) (by rw [List.length_drop]; omega)
  show (rfix 8 (gC (b, 0)).2).2 = _
  rw [show ((8 : Nat) : Int) = 8 from rfl] at this
  rw [gC_long b (by omega), this, List.drop_drop]
theorem lget_short (b : List UInt8) (n : Nat) (h : b.length < 16 + 4 * n) : (gF n (gS (b, 0)).2).2.2 = 3 := by
  by_cases h1 : b.length < 8
  · have e : (gC (b, 0)).2 = ([], 3) := by
      have := rfix_short 8 b (by decide) (by decide) h1
      show (rfix 8 (b, 0)).2 = _
      rw [show ((8 : Nat) : Int) = 8 from rfl] at this
      rw [this]
    have e2 : (gS (b, 0)).2 = ([], 3) := by
      show (rfix 8 (gC (b, 0)).2).2 = _
      rw [e, rfix_bad 8 _ (by decide)]
    rw [e2, gF_bad n _ (by decide)]
  · by_cases h2 : b.length < 16
    · have e2 : (gS (b, 0)).2 = ([], 3) := by
        have := rfix_short 8 (b.drop 8) (by decide) (by decide) (by rw [List.length_drop]; omega)
        show (rfix 8 (gC (b, 0)).2).2 = _
        rw [show ((8 : Nat) : Int) = 8 from rfl] at this
        rw [gC_long b (by omega), this]
      rw [e2, gF_bad n _ (by decide)]
    · rw [gS_long b (by omega)]
      exact gF_short n _ (by rw [List.length_drop]; omega)
theorem lget_long (b : List UInt8) (n : Nat) (h : 16 + 4 * n ≤ b.length) (k : Nat) (hk : k ≤ n) : (gF k (gS (b, 0)).2).2 = (b.drop (16 + 4 * k), 0) := by
  rw [gS_long b (by omega), gF_drop k _ (by rw [List.length_drop]; omega), List.drop_drop]
/-- what is left behind a ledger -/
def restG (b : List UInt8) (n : Nat) : List UInt8 := if lgetErr (b, 0) n = 0 then (gF n (gS (b, 0)).2).2.1 else []
/-- a slice that is a part of the bytes b at B -/
def Sub (B : Option Addr) (b : List UInt8) (v : Value) (t : List UInt8) : Prop := ∃ A c, v = .slice A t.length c ∧ t.length ≤ c ∧ c ≤ 9223372036854775807 ∧ ∀ W, Bytes W B b → Bytes W A t
theorem Sub.nil (B : Option Addr) (b : List UInt8) : Sub B b (.slice none 0 0) [] := ⟨none, 0, rfl, Nat.le_refl _, by decide, fun _ _ => Bytes.nil _ _⟩
theorem nodesR_nat (n : Nat) (h : n ≤ 64) : nodesR (n : Int) = n := by
  unfold nodesR
  rw [if_neg (by omega), if_neg (by omega), Int.toNat_natCast]
/-- what the document's Get answers -/
def GetA (B : Option Addr) (b : List UInt8) (n : Nat) (r : Ending) : Prop := ∃ v, r = .returned (.tuple #[.agg (lcs (lgetLg (b, 0) n)).toArray, v, .int .i64 (lgetErr (b, 0) n)]) ∧ Sub B b v (restG b n)
end Go.Proofs.Ytbccbfmgjeknhaa
