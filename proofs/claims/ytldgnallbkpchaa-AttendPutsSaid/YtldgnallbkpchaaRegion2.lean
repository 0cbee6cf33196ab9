/- A region that draws its order, whose operations change the memory by a relation R alone: an operation that answers alike in all worlds that R reaches is taken as soon as it may come up. -/
import Derived.Test.YtldgnallbkpchaaRegion
import Derived.OrdersHeld
namespace Go.Proofs.Ytldgnallbkpchaa
open Go.RowKit
section
variable {R : World → World → Prop} {W : List Nat} {P : Program} {ops : Array Oper} {Q : Exit → Act → World → Prop}
/-- whatever order is picked from here on, and each step only adds to the memory -/
def wpAnyR (R : World → World → Prop) (W : List Nat) (P : Program) (ops : Array Oper) (Q : Exit → Act → World → Prop) : Nat → Array Bool → Act → World → Prop
  | 0, listed, a, w => Region.ready .any ops listed = [] ∧ Q .normal a w
  | fuel + 1, listed, a, w =>
    (Region.ready .any ops listed = [] → Q .normal a w) ∧
    ∀ i ∈ Region.ready .any ops listed, wpOp P ops Q i (fun a' w' => (i ∈ W ∨ R w w') ∧ wpAnyR R W P ops Q fuel (listed.setIfInBounds i true) a' w') a w
theorem wpAny_of_R : ∀ (fuel : Nat) (listed : Array Bool) (a : Act) (w : World), wpAnyR R W P ops Q fuel listed a w → wpAny P .any ops Q fuel listed a w
  | 0, _, _, _, h => h
  | fuel + 1, _, _, _, h => ⟨h.1, fun i hi => wpOp_mono (fun a' w' h' => wpAny_of_R fuel _ a' w' h'.2) (h.2 i hi)⟩
theorem wpAnyR_first (hrf : ∀ w, R w w) (htr : ∀ a b c, R a b → R b c → R a c) {i : Nat} {oi : Oper} {v : Value} (hi : ops[i]? = some oi) (hsel : ∀ (j : Nat) (o : Oper) cs b, ops[j]? = some o → o.op ≠ .select cs b)
    (hQ : ∀ c a w, Q (.panic c) (a.put oi.dst v) w → Q (.panic c) a w) (w0 : World) :
    ∀ (fuel : Nat) (listed : Array Bool) (a : Act) (w : World),
      (∀ j oj, ops[j]? = some oj → j ≠ i → listed.getD j true = false → (∀ e ∈ oj.after, Region.binds .any e = true → e.on ≠ i) → oi.apart ops oj = true) →
      (∀ j oj, ops[j]? = some oj → j ∈ W → j ≠ i → listed.getD j true = false → ∃ e ∈ oj.after, Region.binds .any e = true ∧ e.on = i) →
      i ∈ Region.ready .any ops listed → YieldsIf P ops (R w0) oi v a → R w0 w →
      wpAnyR R W P ops Q fuel (listed.setIfInBounds i true) (a.put oi.dst v) w → wpAnyR R W P ops Q (fuel + 1) listed a w := by
  intro fuel
  induction fuel with
  | zero =>
    intro listed a w _ _ hr hy hS H
    refine ⟨fun h => (by rw [h] at hr; cases hr), fun j hj => ?_⟩
    by_cases hji : j = i
    · subst hji; exact hy.wpOp hi hS ⟨.inr (hrf _), H⟩
    · have := ready_mono hj hji
      rw [H.1] at this
      cases this
  | succ fuel ih =>
    intro listed a w hfree hwt hr hy hS H
    refine ⟨fun h => (by rw [h] at hr; cases hr), fun j hj => ?_⟩
    by_cases hji : j = i
    · subst hji; exact hy.wpOp hi hS ⟨.inr (hrf _), H⟩
    · have h1 := H.2 j (ready_mono hj hji)
      obtain ⟨hjun, oj, hoj, hall⟩ := mem_ready.1 hj
      have hnot : ∀ e ∈ oj.after, Region.binds .any e = true → e.on ≠ i := fun e he hb heq => by
        have h1 := hall e he hb
        have h0 := (mem_ready.1 hr).1
        rw [heq] at h1
        rcases Nat.lt_or_ge i listed.size with h' | h'
        · simp [h'] at h0 h1; rw [h0] at h1; cases h1
        · simp [Array.getElem?_eq_none h'] at h1
      have h2 := wpOp_putIf hoj (hfree j oj hoj hji hjun hnot) (fun cs b => hsel i oi cs b hi) (fun cs b => hsel j oj cs b hoj) hQ hy h1
      have hfree' : ∀ k ok, ops[k]? = some ok → k ≠ i → (listed.setIfInBounds j true).getD k true = false →
          (∀ e ∈ ok.after, Region.binds .any e = true → e.on ≠ i) → oi.apart ops ok = true := fun k ok hk hki hun hno => by
        refine hfree k ok hk hki ?_ hno
        by_cases hjk : j = k
        · subst hjk; exact hjun
        · rw [getD_set_ne true hjk] at hun; exact hun
      have hjw : j ∉ W := fun hjW => by
        obtain ⟨e, he, hb, ho⟩ := hwt j oj hoj hjW hji hjun
        exact hnot e he hb ho
      have hwt' : ∀ k ok, ops[k]? = some ok → k ∈ W → k ≠ i → (listed.setIfInBounds j true).getD k true = false → ∃ e ∈ ok.after, Region.binds .any e = true ∧ e.on = i := fun k ok hk hkW hki hun => by
        refine hwt k ok hk hkW hki ?_
        by_cases hjk : j = k
        · subst hjk; exact hjun
        · rw [getD_set_ne true hjk] at hun; exact hun
      refine wpOp_mono (fun a' w' h3 => ⟨h3.2.1, ih (listed.setIfInBounds j true) a' w' hfree' hwt' (ready_mono hr (Ne.symm hji)) h3.1 (htr _ _ _ hS (h3.2.1.resolve_left hjw)) ?_⟩) h2
      rw [Array.setIfInBounds_comm _ _ hji]
      exact h3.2.2
end
section
variable {R : World → World → Prop} {W : List Nat} {P : Program} {l : List Oper} {Q : Exit → Act → World → Prop}
theorem drop_get' {i : Nat} {oi : Oper} {rest : List Oper} (hi : l.drop i = oi :: rest) : l.toArray[i]? = some oi := by
  rw [List.getElem?_toArray]
  have := congrArg (·[0]?) hi
  simpa [List.getElem?_drop] using this
/-- the writing operations that are still to come wait for i -/
def waitB (W : List Nat) (ops : Array Oper) (listed : Array Bool) (i : Nat) : Bool :=
  W.all fun j => j == i || listed.getD j true || (match ops[j]? with | some oj => oj.after.any (fun e => Region.binds .any e && e.on == i) | none => true)
theorem waitB_spec {ops : Array Oper} {listed : Array Bool} {i : Nat} (h : waitB W ops listed i = true) :
    ∀ j oj, ops[j]? = some oj → j ∈ W → j ≠ i → listed.getD j true = false → ∃ e ∈ oj.after, Region.binds .any e = true ∧ e.on = i := by
  intro j oj hoj hjW hji hun
  have h1 := List.all_eq_true.1 h j hjW
  rw [hoj, hun] at h1
  simp only [beq_eq_false_iff_ne.2 hji, Bool.false_or] at h1
  obtain ⟨e, he, hb⟩ := Array.any_eq_true'.1 h1
  simp only [Bool.and_eq_true, beq_iff_eq] at hb
  exact ⟨e, he, hb.1, hb.2⟩
/-- the beginning -/
theorem wpR_region (R : World → World → Prop) (W : List Nat) {id : Nat} {a : Act} {w : World} (hm : P.follows .mixedOrders = true) (h : wpAnyR R W P l.toArray Q l.length (Array.replicate l.length false) a w.drew) : (Code.region id l.toArray true).wp P Q a w :=
  wp_region_any hm (wpAny_of_R (R := R) (W := W) _ _ _ _ h)
/-- a reading operation is taken -/
theorem wpR_take (hrf : ∀ w, R w w) (htr : ∀ a b c, R a b → R b c → R a c) (i : Nat) {oi : Oper} {rest : List Oper} {v : Value} {fuel : Nat} {listed : Array Bool} {a : Act} {w : World} (hi : l.drop i = oi :: rest)
    (hs : (Region.noSelect l.toArray && Region.free .any l.toArray listed i && (Region.ready .any l.toArray listed).contains i && waitB W l.toArray listed i) = true)
    (hQ : ∀ c a w, Q (.panic c) (a.put oi.dst v) w → Q (.panic c) a w) (hw : Region.wanted oi (yielded l.toArray a.tmps) = true) (hy : ∀ w', R w w' → (execOp a.eval oi).run P w' = .ok (.value v) w')
    (h : wpAnyR R W P l.toArray Q fuel (listed.setIfInBounds i true) (a.put oi.dst v) w) : wpAnyR R W P l.toArray Q (fuel + 1) listed a w := by
  simp only [Bool.and_eq_true] at hs
  exact wpAnyR_first hrf htr (drop_get' hi) (Region.noSelect_spec hs.1.1.1) hQ w fuel listed a w (Region.free_spec (drop_get' hi) hs.1.1.2) (waitB_spec hs.2) (by simpa using hs.1.2) (.inl ⟨hw, hy⟩) (hrf w) h
/-- one whose guard says no -/
theorem wpR_skip (hrf : ∀ w, R w w) (htr : ∀ a b c, R a b → R b c → R a c) (i : Nat) {oi : Oper} {rest : List Oper} {fuel : Nat} {listed : Array Bool} {a : Act} {w : World} (hi : l.drop i = oi :: rest)
    (hs : (Region.noSelect l.toArray && Region.free .any l.toArray listed i && (Region.ready .any l.toArray listed).contains i && waitB W l.toArray listed i) = true)
    (hQ : ∀ c a w, Q (.panic c) (a.put oi.dst undef) w → Q (.panic c) a w) (hw : Region.wanted oi (yielded l.toArray a.tmps) = false)
    (h : wpAnyR R W P l.toArray Q fuel (listed.setIfInBounds i true) (a.put oi.dst undef) w) : wpAnyR R W P l.toArray Q (fuel + 1) listed a w := by
  simp only [Bool.and_eq_true] at hs
  exact wpAnyR_first hrf htr (drop_get' hi) (Region.noSelect_spec hs.1.1.1) hQ w fuel listed a w (Region.free_spec (drop_get' hi) hs.1.1.2) (waitB_spec hs.2) (by simpa using hs.1.2) (.inr ⟨hw, rfl⟩) (hrf w) h
/-- one that may change the memory: it is the only one that may come up -/
theorem wpR_call (i : Nat) {oi : Oper} {rest : List Oper} {fuel : Nat} {listed : Array Bool} {a : Act} {w : World} (hi : l.drop i = oi :: rest) (hr : Region.ready .any l.toArray listed = [i])
    (hw : Region.wanted oi (yielded l.toArray a.tmps) = true)
    (h : ∀ K, Hid (∀ a' w', i ∈ W ∨ R w w' → wpAnyR R W P l.toArray Q fuel (listed.setIfInBounds i true) a' w' → K a' w') → oi.wp P a w K Q) : wpAnyR R W P l.toArray Q (fuel + 1) listed a w := by
  refine ⟨fun h0 => (by rw [hr] at h0; cases h0), fun j hj => ?_⟩
  rw [hr] at hj
  obtain rfl : j = i := by simpa using hj
  unfold wpOp
  rw [drop_get' hi]
  simp only [hw, if_true]
  exact .inl (h _ (fun a' w' hg hk => ⟨hg, hk⟩))
/-- all have come up -/
theorem wpR_done {listed : Array Bool} {a : Act} {w : World} (hr : Region.ready .any l.toArray listed = []) (h : Q .normal a w) : ∀ fuel, wpAnyR R W P l.toArray Q fuel listed a w
  | 0 => ⟨hr, h⟩
  | _ + 1 => ⟨fun _ => h, by rw [hr]; simp⟩
end
theorem grow_rf : ∀ w, Grow w w := Grow.refl
theorem grow_tr : ∀ a b c, Grow a b → Grow b c → Grow a c := fun _ _ _ => Grow.trans
end Go.Proofs.Ytldgnallbkpchaa
