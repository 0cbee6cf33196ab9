/- An append of bytes to a slice that was made empty: it only adds to the memory. -/
import Derived.Test.YtldgnallbkpchaaBox
import Derived.Test.YtldgnallbkpchaaFacts
import Derived.Deep.RegionLawGrows
namespace Go.Proofs.Ytldgnallbkpchaa
open Go.RowKit
section
variable {P : Program}
theorem run_append_none (bt : ByteT P) (w : World) {ty : Nat} (A : Addr) {A2 : Option Addr} {c2 : Nat} :
    (Builtin.append_ #[25, 25] ty #[.slice (some A) 0 0, .slice A2 0 c2]).run P w = .ok (.slice (some A) 0 0) w := by
  obtain ⟨i, hi, hz, hs, hby⟩ := bt.info
  cases A2 with
  | none => simp [Builtin.append_, run_underlying bt.und, sizeOf, typeInfo, hi, Builtin.lenOf, Builtin.firstCells, storeCells]
  | some ad =>
    have h := run_loadCells_list (P := P) w ad [] (by simp)
    simp at h
    simp [Builtin.append_, run_underlying bt.und, sizeOf, typeInfo, hi, Builtin.lenOf, Builtin.firstCells, storeCells, h]
theorem run_append_fresh (bt : ByteT P) (w : World) {base ty g : Nat} (hown : Own w base (some ⟨g, 0, none⟩) 0 []) (hbase : base ≤ w.heap.size)
    {A2 : Option Addr} {c2 : Nat} {l2 : List UInt8} (hb : Bytes w A2 l2) (hsum : l2.length ≤ 140737488355328) :
    ∃ A' c' w', (Builtin.append_ #[25, 25] ty #[.slice (some ⟨g, 0, none⟩) 0 0, .slice A2 l2.length c2]).run P w = .ok (.slice A' l2.length c') w' ∧ Own w' base A' c' l2 ∧ Grow w w' := by
  by_cases hl : l2 = []
  · subst hl
    exact ⟨_, _, w, run_append_none bt w _, hown, Grow.refl w⟩
  · obtain ⟨i, hi, hz, hs, hby⟩ := bt.info
    obtain ⟨b, o, rfl, hc⟩ := hb hl
    have h0 : 0 < l2.length := List.length_pos_iff.2 hl
    obtain ⟨v', w', hr, h1, h2⟩ := run_append_arg_grows (P := P) w 25 ty 5 i (.int .u8 0) 1 1 bt.und hi hz hs hby rfl (by omega) ⟨g, 0, none⟩ 0 0 [] (by simp) (by simp)
      ⟨b, o, none⟩ l2.length c2 (l2.map u8) (by simp) (fun j u hu => by
        have hj : j < l2.length := by
          rcases Nat.lt_or_ge j l2.length with h | h
          · exact h
          · rw [List.getElem?_eq_none (by simpa using h)] at hu; cases hu
        rw [u8_map_get l2 j hj] at hu
        injection hu with hu
        subst hu
        have e : (⟨b, o, none⟩ : Addr).add j = ⟨b, o + j, none⟩ := by unfold Addr.add; split <;> simp_all
        rw [e, hc j hj]) (by omega) (by unfold maxLen; omega) (by omega)
    rw [List.nil_append, Nat.zero_add] at h1
    have hg : Grow w w' := ⟨h2.os, h2.tape, h2.output, h2.size, fun k hk => h2.block k hk (by simp)⟩
    rcases h1.2 with ⟨hv, hn⟩ | ⟨g', cap, cur, hv, r⟩
    · omega
    · subst hv
      exact ⟨_, cap, w', hr, Own.mono (show Own w' w.heap.size (some ⟨g', 0, none⟩) cap l2 from h1) hbase, hg⟩
theorem oper_append_fresh (bt : ByteT P) {o : Oper} {a : Act} {w : World} {K : Act → World → Prop} {Q : Exit → Act → World → Prop} (s x : Operand)
    (ho : o.op = .call { callee := .builtin .append, args := #[s, x], argTypes := #[25, 25] }) {base g : Nat} (hown : Own w base (some ⟨g, 0, none⟩) 0 []) (hbase : base ≤ w.heap.size)
    {A2 : Option Addr} {c2 : Nat} {l2 : List UInt8} (hb : Bytes w A2 l2) (hs : a.eval s = .slice (some ⟨g, 0, none⟩) 0 0) (hx : a.eval x = .slice A2 l2.length c2) (hsum : l2.length ≤ 140737488355328)
    (h : ∀ A' c' w', Own w' base A' c' l2 → Grow w w' → K (a.put o.dst (.slice A' l2.length c')) w') : Oper.wp P o a w K Q := by
  obtain ⟨A', c', w', hr, h1, h2⟩ := run_append_fresh bt w (ty := o.type) hown hbase (c2 := c2) hb hsum
  unfold Oper.wp execOp
  simp only [ho, resolve, invoke, builtin, Sem.run_bind, Sem.run_pure, Result.andThen_ok, List.map_toArray, List.map_cons, List.map_nil, hs, hx, hr]
  exact h A' c' w' h1 h2
theorem wpList_append_fresh (bt : ByteT P) {ops : Array Oper} {rest : List Oper} {o : Oper} {a : Act} {w : World} {Q : Exit → Act → World → Prop} (hgd : o.guard = none) (s x : Operand)
    (ho : o.op = .call { callee := .builtin .append, args := #[s, x], argTypes := #[25, 25] }) {base g : Nat} (hown : Own w base (some ⟨g, 0, none⟩) 0 []) (hbase : base ≤ w.heap.size)
    {A2 : Option Addr} {c2 : Nat} {l2 : List UInt8} (hb : Bytes w A2 l2) (hs : a.eval s = .slice (some ⟨g, 0, none⟩) 0 0) (hx : a.eval x = .slice A2 l2.length c2) (hsum : l2.length ≤ 140737488355328)
    (h : ∀ A' c' w', Own w' base A' c' l2 → Grow w w' → wpList P ops Q rest (a.put o.dst (.slice A' l2.length c')) w') : wpList P ops Q (o :: rest) a w :=
  wpList_plain hgd fun _ hK => oper_append_fresh bt s x ho hown hbase hb hs hx hsum fun A' c' w' h1 h2 => hK _ _ (h A' c' w' h1 h2)
end
end Go.Proofs.Ytldgnallbkpchaa
