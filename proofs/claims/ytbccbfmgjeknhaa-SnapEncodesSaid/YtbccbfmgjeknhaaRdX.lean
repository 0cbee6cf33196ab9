/- The plain law of a byte that is read. -/
import Derived.Test.YtbccbfmgjeknhaaRdr
import Derived.Test.YtbccbfmgjeknhaaWri
namespace Go.Proofs.Ytbccbfmgjeknhaa
open Go.RowKit
theorem rbyte_nil : rbyte ([], 0) = (0, [], 3) := rfl
theorem rbyte_cons (a : UInt8) (l : List UInt8) : rbyte (a :: l, 0) = (a.toNat, l, 0) := by
  show Buf.getFixed (a :: l) 1 = _
  unfold Buf.getFixed
  rw [if_neg (by omega), if_neg (by simp)]
  simp [Buf.num]
theorem rbyte_bad (l : List UInt8) (e : Int) (h : e ≠ 0) : rbyte (l, e) = (0, l, e) := by unfold rbyte rfix; exact rget_bad _ _ (l, e) h
theorem u8of_val (x : Int) (h0 : 0 ≤ x) (h1 : x < 256) : ((u8of x).toNat : Int) = x := by
  unfold u8of
  rw [IntKind.wrap_u8, UInt8.toNat_ofNat']
  omega
theorem Grow.drewN {a b : World} (h : Grow a b) (n : Nat) : Grow a (b.drewN n) := ⟨h.os, h.tape, h.output, h.size, h.block⟩
theorem Kept.drew2 {B : Nat} {S : List Nat} {a b : World} (h : Kept B S a b) : Kept B S a.drew b.drew := ⟨h.os, h.tape, h.output, h.size, h.block⟩
theorem Below.drew2 {B : Nat} {a b : World} (h : Below B a b) : Below B a.drew b.drew := ⟨h.os, h.tape, h.output, h.size, h.block⟩
theorem Grow.of_drewN {a b : World} {n : Nat} (h : Grow (a.drewN n) b) : Grow a b := ⟨h.os, h.tape, h.output, h.size, h.block⟩
theorem Grow.cell' {w w' : World} {b o : Nat} {v : Value} (h : Grow w w') (hc : w.cell? ⟨b, o, none⟩ = some v) : w'.cell? ⟨b, o, none⟩ = some v := (Below.cell (p := ⟨b, o, none⟩) h (World.block_lt_of_cell? w _ hc)).trans hc
theorem getD_one {l : List UInt8} (h : 1 ≤ l.length) : ∃ a r, l = a :: r ∧ l.getD 0 0 = a ∧ l.drop 1 = r := by
  match l with
  | a :: r => exact ⟨a, r, rfl, rfl, rfl⟩
  | [] => simp at h
theorem getD_two {l : List UInt8} (h : 2 ≤ l.length) : ∃ a k r, l = a :: k :: r ∧ l.getD 0 0 = a ∧ l.getD 1 0 = k ∧ l.drop 2 = r := by
  match l with
  | a :: k :: r => exact ⟨a, k, r, rfl, rfl, rfl, rfl⟩
  | [] => simp at h
  | [_] => simp at h
theorem getD_three {l : List UInt8} (h : 3 ≤ l.length) : ∃ a i t r, l = a :: i :: t :: r ∧ l.getD 0 0 = a ∧ l.getD 1 0 = i ∧ l.getD 2 0 = t ∧ l.drop 3 = r := by
  match l with
  | a :: i :: t :: r => exact ⟨a, i, t, r, rfl, rfl, rfl, rfl, rfl⟩
  | [] => simp at h
  | [_] => simp at h
  | [_, _] => simp at h
section
variable {R : World → World → Prop} {W V : List Nat} {P : Program} {ops : Array Oper} {Q : Exit → Act → World → Prop}
/-- as wpAnyR_first; V: operations that wait for i, one behind the other -/
theorem wpAnyR_firstV (hrf : ∀ w, R w w) (htr : ∀ a b c, R a b → R b c → R a c) {i : Nat} {oi : Oper} {v : Value} (hi : ops[i]? = some oi) (hsel : ∀ (j : Nat) (o : Oper) cs b, ops[j]? = some o → o.op ≠ .select cs b)
    (hQ : ∀ c a w, Q (.panic c) (a.put oi.dst v) w → Q (.panic c) a w) (w0 : World) :
    ∀ (fuel : Nat) (listed : Array Bool) (a : Act) (w : World),
      (∀ j oj, ops[j]? = some oj → j ≠ i → listed.getD j true = false → (∀ e ∈ oj.after, Region.binds .any e = true → e.on ≠ i) → oi.apart ops oj = true) →
      (∀ j ∈ V, listed.getD j true = false ∧ ∀ oj, ops[j]? = some oj → ∃ e ∈ oj.after, Region.binds .any e = true ∧ (e.on = i ∨ e.on ∈ V)) →
      (∀ j ∈ W, j ≠ i → listed.getD j true = true ∨ j ∈ V) →
      i ∈ Region.ready .any ops listed → YieldsIf P ops (R w0) oi v a → R w0 w →
      wpAnyR R W P ops Q fuel (listed.setIfInBounds i true) (a.put oi.dst v) w → wpAnyR R W P ops Q (fuel + 1) listed a w := by
  intro fuel
  induction fuel with
  | zero =>
    intro listed a w _ _ _ hr hy hS H
    refine ⟨fun h => (by rw [h] at hr; cases hr), fun j hj => ?_⟩
    by_cases hji : j = i
    · subst hji; exact hy.wpOp hi hS ⟨.inr (hrf _), H⟩
    · have := ready_mono hj hji
      rw [H.1] at this
      cases this
  | succ fuel ih =>
    intro listed a w hfree hV hW hr hy hS H
    refine ⟨fun h => (by rw [h] at hr; cases hr), fun j hj => ?_⟩
    by_cases hji : j = i
    · subst hji; exact hy.wpOp hi hS ⟨.inr (hrf _), H⟩
    · have h1 := H.2 j (ready_mono hj hji)
      obtain ⟨hjun, oj, hoj, hall⟩ := mem_ready.1 hj
      have hnot : ∀ e ∈ oj.after, Region.binds .any e = true → e.on ≠ i := fun e he hb heq => by
        have h1 := hall e he hb
        have h0 := (mem_ready.1 hr).1
        rw [heq] at h1
        rcases Nat.lt_or_ge i listed.size with h' | h'
        · simp [h'] at h0 h1; rw [h0] at h1; cases h1
        · simp [Array.getElem?_eq_none h'] at h1
      have hjV : j ∉ V := fun hj => by
        obtain ⟨_, h2⟩ := hV j hj
        obtain ⟨e, he, hb, ho⟩ := h2 oj hoj
        rcases ho with ho | ho
        · exact hnot e he hb ho
        · have h3 := (hV e.on ho).1
          have h4 := hall e he hb
          rcases Nat.lt_or_ge e.on listed.size with h' | h'
          · simp [h'] at h3 h4; rw [h3] at h4; cases h4
          · simp [Array.getElem?_eq_none h'] at h4
      have h2 := wpOp_putIf hoj (hfree j oj hoj hji hjun hnot) (fun cs b => hsel i oi cs b hi) (fun cs b => hsel j oj cs b hoj) hQ hy h1
      have hfree' : ∀ k ok, ops[k]? = some ok → k ≠ i → (listed.setIfInBounds j true).getD k true = false →
          (∀ e ∈ ok.after, Region.binds .any e = true → e.on ≠ i) → oi.apart ops ok = true := fun k ok hk hki hun hno => by
        refine hfree k ok hk hki ?_ hno
        by_cases hjk : j = k
        · subst hjk; exact hjun
        · rw [getD_set_ne true hjk] at hun; exact hun
      have hjw : j ∉ W := fun hjW => by
        rcases hW j hjW hji with h | h
        · rw [hjun] at h; cases h
        · exact hjV h
      have hV' : ∀ k ∈ V, (listed.setIfInBounds j true).getD k true = false ∧ ∀ oj, ops[k]? = some oj → ∃ e ∈ oj.after, Region.binds .any e = true ∧ (e.on = i ∨ e.on ∈ V) := fun k hk => by
        obtain ⟨h1, h2⟩ := hV k hk
        have hjk : j ≠ k := fun e => hjV (by rw [e]; exact hk)
        exact ⟨by rw [getD_set_ne true hjk]; exact h1, h2⟩
      have hW' : ∀ k ∈ W, k ≠ i → (listed.setIfInBounds j true).getD k true = true ∨ k ∈ V := fun k hk hki => by
        rcases hW k hk hki with h | h
        · left
          by_cases hjk : j = k
          · subst hjk; rw [hjun] at h; cases h
          · rw [getD_set_ne true hjk]; exact h
        · exact .inr h
      refine wpOp_mono (fun a' w' h3 => ⟨h3.2.1, ih (listed.setIfInBounds j true) a' w' hfree' hV' hW' (ready_mono hr (Ne.symm hji)) h3.1 (htr _ _ _ hS (h3.2.1.resolve_left hjw)) ?_⟩) h2
      rw [Array.setIfInBounds_comm _ _ hji]
      exact h3.2.2
def blockB (V W : List Nat) (ops : Array Oper) (listed : Array Bool) (i : Nat) : Bool :=
  (V.all fun j => !listed.getD j true && (match ops[j]? with | some oj => oj.after.any (fun e => Region.binds .any e && (e.on == i || V.contains e.on)) | none => true)) && (W.all fun j => j == i || listed.getD j true || V.contains j)
theorem blockB_spec {listed : Array Bool} {i : Nat} (h : blockB V W ops listed i = true) :
    (∀ j ∈ V, listed.getD j true = false ∧ ∀ oj, ops[j]? = some oj → ∃ e ∈ oj.after, Region.binds .any e = true ∧ (e.on = i ∨ e.on ∈ V)) ∧ (∀ j ∈ W, j ≠ i → listed.getD j true = true ∨ j ∈ V) := by
  unfold blockB at h
  rw [Bool.and_eq_true, List.all_eq_true, List.all_eq_true] at h
  obtain ⟨h1, h2⟩ := h
  constructor
  · intro j hj
    have h := h1 j hj
    rw [Bool.and_eq_true] at h
    refine ⟨by simpa using h.1, fun oj hoj => ?_⟩
    have h3 := h.2
    rw [hoj] at h3
    simp only [Array.any_eq_true'] at h3
    obtain ⟨e, he, hb⟩ := h3
    rw [Bool.and_eq_true, Bool.or_eq_true] at hb
    refine ⟨e, he, hb.1, ?_⟩
    rcases hb.2 with h | h
    · exact .inl (by simpa using h)
    · exact .inr (by simpa using h)
  · intro j hj hji
    have h := h2 j hj
    rw [Bool.or_eq_true, Bool.or_eq_true] at h
    rcases h with (h | h) | h
    · exact absurd (by simpa using h) hji
    · exact .inl h
    · exact .inr (by simpa using h)
end
section
variable {R : World → World → Prop} {W : List Nat} {P : Program} {l : List Oper} {Q : Exit → Act → World → Prop}
/-- a reading operation is taken; V: unlisted operations that wait for it, one behind the other -/
theorem wpR_takeV (V : List Nat) (hrf : ∀ w, R w w) (htr : ∀ a b c, R a b → R b c → R a c) (i : Nat) {oi : Oper} {rest : List Oper} {v : Value} {fuel : Nat} {listed : Array Bool} {a : Act} {w : World} (hi : l.drop i = oi :: rest)
    (hs : (Region.noSelect l.toArray && Region.free .any l.toArray listed i && (Region.ready .any l.toArray listed).contains i && blockB V W l.toArray listed i) = true)
    (hQ : ∀ c a w, Q (.panic c) (a.put oi.dst v) w → Q (.panic c) a w) (hw : Region.wanted oi (yielded l.toArray a.tmps) = true) (hy : ∀ w', R w w' → (execOp a.eval oi).run P w' = .ok (.value v) w')
    (h : wpAnyR R W P l.toArray Q fuel (listed.setIfInBounds i true) (a.put oi.dst v) w) : wpAnyR R W P l.toArray Q (fuel + 1) listed a w := by
  simp only [Bool.and_eq_true] at hs
  exact wpAnyR_firstV hrf htr (drop_get' hi) (Region.noSelect_spec hs.1.1.1) hQ w fuel listed a w (Region.free_spec (drop_get' hi) hs.1.1.2) (blockB_spec hs.2).1 (blockB_spec hs.2).2 (by simpa using hs.1.2) (.inl ⟨hw, hy⟩) (hrf w) h
end
end Go.Proofs.Ytbccbfmgjeknhaa
