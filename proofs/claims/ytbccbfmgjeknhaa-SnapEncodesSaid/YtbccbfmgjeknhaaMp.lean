/- Maps from ints: what a look-up, a store of a new key, a clearing and a length do. No function of the program. -/
import Derived.Test.YtbccbfmgjeknhaaRws
import Derived.MapKept
import Derived.Maps.Own
import Derived.Carry
namespace Go.Proofs.Ytbccbfmgjeknhaa
open Go.RowKit Go.MapKept Go.ChangeMaps
/-- block m is a map from ints with these entries -/
def MapI (w : World) (m : Nat) (E : List (Nat × Value)) : Prop := ∃ es clock, w.heap[m]? = some (.map es clock) ∧ es.toList.map (fun e => (e.key, e.val)) = E.map (fun x => (Value.int .i64 (x.1 : Int), x.2))
def keyed (E : List (Nat × Value)) (k : Nat) : Option Value := (E.find? (fun x => x.1 == k)).map (·.2)
theorem MapI.lt {w : World} {m : Nat} {E : List (Nat × Value)} (h : MapI w m E) : m < w.heap.size := by
  obtain ⟨es, clock, h, _⟩ := h
  exact (Array.getElem?_eq_some_iff.1 h).1
theorem MapI.keep {w w' : World} {m : Nat} {E : List (Nat × Value)} (h : MapI w m E) (hb : w'.heap[m]? = w.heap[m]?) : MapI w' m E := by
  obtain ⟨es, clock, h, h2⟩ := h
  exact ⟨es, clock, hb.trans h, h2⟩
theorem MapI.grow {w w' : World} {m : Nat} {E : List (Nat × Value)} (h : MapI w m E) (hg : Grow w w') : MapI w' m E := h.keep (hg.block m h.lt)
theorem MapI.made (w : World) : MapI (w.alloc (.map #[] 0)) w.heap.size [] := ⟨#[], 0, heap_alloc_new w _, rfl⟩
theorem findNow_mapI (q : IntKind) (k : Nat) : ∀ (l : List MapEntry) (E : List (Nat × Value)) (i : Nat), l.map (fun e => (e.key, e.val)) = E.map (fun x => (Value.int .i64 (x.1 : Int), x.2)) →
    ∃ a, Instr.findNow (.int q) (.int .i64 (k : Int)) l i = some a ∧ a.map (·.2) = keyed E k
  | [], [], i, _ => ⟨none, rfl, rfl⟩
  | [], _ :: _, _, h => by simp at h
  | _ :: _, [], _, h => by simp at h
  | e :: l, x :: E, i, h => by
    rw [List.map_cons, List.map_cons, List.cons.injEq, Prod.mk.injEq] at h
    obtain ⟨⟨h1, h2⟩, h3⟩ := h
    obtain ⟨a, ha, hb⟩ := findNow_mapI q k l E (i + 1) h3
    unfold Instr.findNow
    rw [h1]
    by_cases hk : x.1 = k
    · refine ⟨some (i, e.val), ?_, ?_⟩
      · simp [Instr.sameNow, hk]
      · simp [keyed, List.find?_cons, hk, h2]
    · have hne : ((k : Int) == (x.1 : Int)) = false := by simp; omega
      refine ⟨a, ?_, ?_⟩
      · simp only [Instr.sameNow, if_true, hne]
        exact ha
      · rw [hb]
        have : (x.1 == k) = false := by simpa using hk
        simp [keyed, List.find?_cons, this]
section
variable {P : Program} {w : World} {m : Nat} {E : List (Nat × Value)} {t kt e : TypeId}
theorem run_lookI (h : MapI w m E) (ht : P.underlying t = some (.map kt e)) (hk : P.underlying kt = some (.int .i64)) {z : Value} (hz : (zeroValue e).run P w = .ok z w) (k : Nat) (ok : Bool) :
    (Instr.lookup t (.map (some m)) (.int .i64 (k : Int)) ok).run P w = .ok (if ok then .tuple #[(keyed E k).getD z, .bool (keyed E k).isSome] else (keyed E k).getD z) w := by
  obtain ⟨es, clock, hb, hE⟩ := h
  obtain ⟨a, ha, ha2⟩ := findNow_mapI .i64 k es.toList E 0 hE
  have h1 := run_findKey (P := P) (w := w) hk ha
  have h2 := run_checkKey (P := P) (w := w) hk (k := .int .i64 (k : Int)) rfl es.isEmpty 9999
  rw [← ha2]
  cases a with
  | none => cases ok <;> simp [Instr.lookup, run_underlying ht, MapKept.run_getObj_map hb, h1, h2, hz, Result.andThen]
  | some y => cases ok <;> simp [Instr.lookup, run_underlying ht, MapKept.run_getObj_map hb, h1, h2, Result.andThen]
theorem run_storeI (h : MapI w m E) (ht : P.underlying t = some (.map kt e)) (hk : P.underlying kt = some (.int .i64)) (k : Nat) (v : Value) (hn : keyed E k = none) :
    ∃ w', (Instr.mapUpdate t (.map (some m)) (.int .i64 (k : Int)) v).run P w = .ok () w' ∧ MapI w' m (E ++ [(k, v)]) ∧ w.grownBy w' (some m) := by
  obtain ⟨es, clock, hb, hE⟩ := h
  obtain ⟨a, ha, ha2⟩ := findNow_mapI .i64 k es.toList E 0 hE
  rw [hn] at ha2
  have ha3 : a = none := by cases a <;> simp_all
  subst ha3
  have h1 := run_findKey (P := P) (w := w) hk ha
  have h2 := run_checkKey (P := P) (w := w) hk (k := .int .i64 (k : Int)) rfl false 9999
  refine ⟨setBlock w m (.map (es.push { key := .int .i64 (k : Int), val := v, born := clock }) (clock + 1)), ?_, ⟨_, _, heap_setBlock_same hb _, ?_⟩, ⟨rfl, rfl, rfl, by simp [setBlock], fun i _ hi => heap_setBlock_other hb _ (fun e => hi (by rw [e]))⟩⟩
  · simp [Instr.mapUpdate, run_underlying ht, MapKept.run_getObj_map hb, h1, h2, run_setObj_map _ hb, setBlock, Result.andThen]
  · rw [Array.toList_push, List.map_append, List.map_append, hE]
    rfl
theorem run_clearI (h : MapI w m E) (ht : P.underlying t = some (.map kt e)) :
    ∃ w', (∀ ty, (Builtin.clear_ #[t] ty #[.map (some m)]).run P w = .ok (.tuple #[]) w') ∧ MapI w' m [] ∧ w.grownBy w' (some m) := by
  obtain ⟨es, clock, hb, hE⟩ := h
  refine ⟨setBlock w m (.map #[] clock), fun ty => ?_, ⟨_, _, heap_setBlock_same hb _, rfl⟩, ⟨rfl, rfl, rfl, by simp [setBlock], fun i _ hi => heap_setBlock_other hb _ (fun e => hi (by rw [e]))⟩⟩
  simp [Builtin.clear_, run_underlying ht, MapKept.run_getObj_map hb, run_setObj_map _ hb, setBlock, Result.andThen]
theorem run_lenI (h : MapI w m E) (ht : P.underlying t = some (.map kt e)) (ty : TypeId) : (Builtin.len_ #[t] ty #[.map (some m)]).run P w = .ok (.int .i64 (E.length : Nat)) w := by
  obtain ⟨es, clock, hb, hE⟩ := h
  have e1 : es.size = E.length := by
    have := congrArg List.length hE
    simpa using this
  simp [Builtin.len_, run_underlying ht, MapKept.run_getObj_map hb, goInt, Result.andThen, e1]
end
end Go.Proofs.Ytbccbfmgjeknhaa
