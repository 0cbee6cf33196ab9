/- Rows of structs that came in; an append onto a slice of the call's own that leaves the slice itself as it was. No function of the program. -/
import Derived.Test.YtbccbfmgjeknhaaFrm
import Derived.Deep.Slices
import Derived.Deep.MidRow
import Derived.Maps.AppendAt
import Derived.Laws.OwnMore
import Derived.OwnWalk
namespace Go.Proofs.Ytbccbfmgjeknhaa
open Go.ChangeShapes Go.WideShapes Go.ChangeAt Go.RowKit
/-- the address A leads to the elements of L, of K cells each -/
def RowsAt {Y : Type} (cellsY : Y → List Value) (okY : World → Y → Prop) (K : Nat) (w : World) (A : Option Addr) (L : List Y) : Prop :=
  L ≠ [] → ∃ b o, A = some ⟨b, o, none⟩ ∧ ∀ k (h : k < L.length), (∀ i, i < K → w.cell? ⟨b, o + k * K + i, none⟩ = (cellsY L[k])[i]?) ∧ okY w L[k]
theorem open_rows {Y H : Type} {P : Program} {cellsY : Y → List Value} {okY : World → Y → Prop} {K : Nat} {t e : TypeId} (ht : P.underlying t = some (.slice e)) (hK : P.cellsOf e = K) (hK0 : 0 < K) (hlen : ∀ y, (cellsY y).length = K)
    {enc : TypeId × Value → H} {W : World} {base : Nat} {spare : Nat → Bool} {held : Bool}
    (hread : ∀ (n : Nat) (cs : List Value) (x : DataW H × List MemPlace), DataW.trod enc P W base spare held n e cs = some x → ∃ y, cs = cellsY y ∧ okY W y)
    {A : Option Addr} {len cap : Nat} {d : DataW H} {p : List MemPlace} (h : DataW.Trod enc P W base spare held t (.slice A len cap) d p) :
    ∃ L : List Y, len = L.length ∧ L.length ≤ cap ∧ cap ≤ 9223372036854775807 ∧ RowsAt cellsY okY K W A L := by
  obtain ⟨fuel, hf⟩ := h
  rcases Go.Deep.open_slice ht hf with ⟨hcs, _⟩ | ⟨a, len', cap', m, n, D, Pl, hcs, _, hl, hm, hmm, hx, hz⟩
  · simp [Value.cells] at hcs
    obtain ⟨rfl, rfl, rfl⟩ := hcs
    exact ⟨[], rfl, Nat.le_refl _, by omega, fun h => absurd rfl h⟩
  · simp [Value.cells] at hcs
    obtain ⟨rfl, rfl, rfl⟩ := hcs
    have hle : len ≤ m := by rw [hmm]; split <;> omega
    have hall : ∀ i, i < len → ∃ y, (∃ cs', W.cells? base (a.add (i * K)) K = some cs' ∧ cs' = cellsY y) ∧ okY W y := by
      intro i hi
      obtain ⟨cs', h1, h2⟩ := hz i (by omega)
      rw [hK] at h1
      obtain ⟨y, hy, ho⟩ := hread _ _ _ h2
      exact ⟨y, ⟨cs', h1, hy⟩, ho⟩
    have hL : ∃ L : List Y, L.length = len ∧ ∀ i (h : i < L.length), (∃ cs', W.cells? base (a.add (i * K)) K = some cs' ∧ cs' = cellsY L[i]) ∧ okY W L[i] := by
      clear hle hz hmm hf hl hx
      induction len with
      | zero => exact ⟨[], rfl, fun i h => by simp at h⟩
      | succ q ih =>
        obtain ⟨L, h1, h2⟩ := ih (fun i hi => hall i (by omega))
        obtain ⟨y, hy, ho⟩ := hall q (by omega)
        refine ⟨L ++ [y], by simp [h1], fun i hi => ?_⟩
        by_cases hlt : i < L.length
        · rw [List.getElem_append_left hlt]; exact h2 i hlt
        · have : i = L.length := by simp at hi; omega
          subst this
          rw [List.getElem_append_right (Nat.le_refl _)]
          simp only [Nat.sub_self, List.getElem_singleton]
          rw [h1]
          exact ⟨hy, ho⟩
    obtain ⟨L, h1, h2⟩ := hL
    subst h1
    refine ⟨L, rfl, hl, hm, fun hne => ?_⟩
    obtain ⟨b, o, spot⟩ := a
    have h0 : 0 < L.length := by
      rcases Nat.eq_zero_or_pos L.length with h | h
      · rw [List.length_eq_zero_iff] at h; exact absurd h hne
      · exact h
    obtain ⟨⟨cs', hc, he⟩, _⟩ := h2 0 h0
    have hc0 : ∃ v, W.cell? (⟨b, o, spot⟩ : Addr) = some v := by
      obtain ⟨_, hl', hcell⟩ := World.cells?_some hc
      have := hcell 0 hK0
      have e0 : ((⟨b, o, spot⟩ : Addr).add (0 * K)).add 0 = ⟨b, o, spot⟩ := by cases spot <;> simp [Addr.add]
      rw [e0] at this
      rw [this]
      subst he
      exact ⟨_, List.getElem?_eq_getElem (by rw [hlen]; exact hK0)⟩
    obtain ⟨v, hv⟩ := hc0
    have hspot : spot = none := by simpa using World.cell?_spot hv
    subst hspot
    refine ⟨b, o, rfl, fun k hk => ?_⟩
    obtain ⟨⟨cs', hc, he⟩, ho⟩ := h2 k hk
    refine ⟨fun i hi => ?_, ho⟩
    obtain ⟨_, hl', hcell⟩ := World.cells?_some hc
    have := hcell i hi
    have e1 : ((⟨b, o, none⟩ : Addr).add (k * K)).add i = ⟨b, o + k * K + i, none⟩ := by
      have e (x y : Nat) : (⟨b, x, none⟩ : Addr).add y = ⟨b, x + y, none⟩ := by unfold Addr.add; split <;> simp_all
      rw [e, e]
    rw [e1] at this
    rw [this, he]
theorem RowsAt.kept {Y : Type} {cellsY : Y → List Value} {okY : World → Y → Prop} {K : Nat} {w w' : World} {A : Option Addr} {L : List Y} {S : List Nat} (h : RowsAt cellsY okY K w A L) (hK : 0 < K) (hlen : ∀ y, (cellsY y).length = K) (hk : Kept w.heap.size S w w')
    (hS : L ≠ [] → ∀ q, blk A = some q → q ∉ S) (hok : ∀ y, y ∈ L → okY w y → okY w' y) : RowsAt cellsY okY K w' A L := by
  intro hne
  obtain ⟨b, o, rfl, hc⟩ := h hne
  have hS := hS hne b rfl
  have h0 : 0 < L.length := List.length_pos_iff.2 hne
  have hlt : b < w.heap.size := by
    have h1 := (hc 0 h0).1 0 hK
    rw [List.getElem?_eq_getElem (by rw [hlen]; exact hK)] at h1
    exact World.block_lt_of_cell? w _ h1
  have hb := hk.block b hlt hS
  refine ⟨b, o, rfl, fun k hkl => ⟨fun i hi => ?_, hok _ (List.getElem_mem hkl) (hc k hkl).2⟩⟩
  rw [← (hc k hkl).1 i hi]
  exact World.cell?_of_block (w := w) hb
theorem RowsAt.in_ {Y : Type} {cellsY : Y → List Value} {okY : World → Y → Prop} {K : Nat} {w : World} {A : Option Addr} {L : List Y} (h : RowsAt cellsY okY K w A L) (hK : 0 < K) (hlen : ∀ y, (cellsY y).length = K) (hne : L ≠ []) (q : Nat) (hq : blk A = some q) : q < w.heap.size := by
  obtain ⟨b, o, rfl, hc⟩ := h hne
  have e : b = q := by simpa [blk] using hq
  subst e
  have h1 := (hc 0 (List.length_pos_iff.2 hne)).1 0 hK
  rw [List.getElem?_eq_getElem (by rw [hlen]; exact hK)] at h1
  exact World.block_lt_of_cell? w _ h1
theorem Bytes.inn {w : World} {A : Option Addr} {l : List UInt8} (h : Bytes w A l) (hne : l ≠ []) (g : Nat) (hg : blk A = some g) : g < w.heap.size := by
  obtain ⟨b, o, rfl, hc⟩ := h hne
  have h0 : 0 < l.length := List.length_pos_iff.2 hne
  have hb := World.block_lt_of_cell? w _ (hc 0 h0)
  have e : b = g := by simpa [blk] using hg
  subst e
  exact hb
/-- an append onto a slice of the call's own; the slice itself is as it was -/
theorem run_append_keep {P : Program} (w : World) (base : Nat) (t ty e : TypeId) (i : TypeInfo) (z : Value) (size bytes : Nat) (ht : P.underlying t = some (.slice e)) (hi : P.info? e = some i) (hz : i.zero = some z)
    (hsize : i.size = size) (hby : i.bytes = bytes) (hzs : z.cells.size = size) (hsz : 0 < size)
    (g n c : Nat) (xs : List Value) (hown : w.ownsRow base e size (.slice (some ⟨g, 0, none⟩) n c) n xs)
    (ao : Option Addr) (m cc : Nat) (news : List Value) (hl : news.length = m * size) (hnone : ao = none → m = 0 ∧ cc = 0) (hnews : ∀ a, ao = some a → ∀ j u, news[j]? = some u → w.cell? (a.add j) = some u) (h1 : ∀ u ∈ news, u.oneCell' = true)
    (h63 : n + m ≤ maxLen) (hbytes : (n + m) * bytes ≤ 140737488355328) (hbase : base ≤ w.heap.size) :
    ∃ g' c' w', (Builtin.append_ #[t, t] ty #[.slice (some ⟨g, 0, none⟩) n c, .slice ao m cc]).run P w = .ok (.slice (some ⟨g', 0, none⟩) (n + m) c') w' ∧ w'.ownsRow base e size (.slice (some ⟨g', 0, none⟩) (n + m) c') (n + m) (xs ++ news) ∧
      w'.ownsRow base e size (.slice (some ⟨g, 0, none⟩) n c) n xs ∧ w.grownBy w' (some g) := by
  cases ao with
  | none =>
    obtain ⟨rfl, rfl⟩ := hnone rfl
    have hn : news = [] := List.eq_nil_of_length_eq_zero (by simpa using hl)
    subst hn
    exact ⟨g, c, w, run_append_owned_none w base t ty e i size ht hi _ n xs hown, by simpa using hown, hown, World.grownBy.refl _ _⟩
  | some a =>
    have hnews := hnews a rfl
    subst hsize
    subst hby
    have hsmall : n + m ≤ 9223372036854775807 := by simp only [maxLen] at h63; omega
    have hlen : (xs ++ news).length = (n + m) * i.size := by rw [List.length_append, hown.1, hl, Nat.add_mul]
    have hown0 := hown
    rcases hown.2 with ⟨h, _⟩ | ⟨g', cap', cur, h, hbg, hg, hnc, hcm, hcs, htake⟩
    · simp at h
    · simp only [Value.slice.injEq, Option.some.injEq, Addr.mk.injEq, and_true, true_and] at h
      obtain ⟨rfl, rfl⟩ := h
      by_cases hroom : n + m ≤ c
      · have hfit : n * i.size + news.length ≤ cur.size := by rw [hl, hcs, ← Nat.add_mul]; exact Nat.mul_le_mul_right _ hroom
        have hr := run_append_room (P := P) w t ty e i ht hi g n c cur hg a m cc news hl hnews h1 hroom hfit
        have hxl : xs.length = n * i.size := hown.1
        have hh := setRow_heap w g cur (cur.toList.take (n * i.size) ++ news ++ cur.toList.drop (n * i.size + news.length)).toArray e _ hg
        have hsz' : (cur.toList.take (n * i.size) ++ news ++ cur.toList.drop (n * i.size + news.length)).toArray.size = c * i.size := by
          simp only [List.size_toArray, List.length_append, List.length_take, List.length_drop, Array.length_toList]
          omega
        refine ⟨g, c, _, hr, ⟨hlen, .inr ⟨g, c, _, rfl, hbg, hh, hroom, hcm, hsz', ?_⟩⟩, ⟨hxl, .inr ⟨g, c, _, rfl, hbg, hh, hnc, hcm, hsz', ?_⟩⟩, ⟨rfl, rfl, rfl, by simp, fun k _ hk => setRow_other w g k _ (fun e => hk (by simp [e]))⟩⟩
        · rw [htake, ← hlen]
          exact List.take_left
        · rw [htake, ← hxl, List.append_assoc]
          exact List.take_left
      · have holds : ∀ j u, xs[j]? = some u → w.cell? ((⟨g, 0, none⟩ : Addr).add j) = some u := hown.cells (g := g) rfl
        have hr := run_append_grow (P := P) w t ty e i z ht hi hz ⟨g, 0, none⟩ n c xs hown.1 holds a m cc news hl hnews (by omega) (by omega) (growslice_fits (by omega) hbytes)
        have hge := grownCap_ge w (n + m) c e
        have hcm2 : grownCap w (n + m) c e ≤ maxLen := grownCap_le_maxLen w (n + m) c e h63
        have hgb : w.grownBy (w.drew.alloc (.cells (xs.toArray ++ news.toArray ++ Builtin.zeroCells z.cells (grownCap w (n + m) c e - (n + m))) e)) none := ⟨rfl, rfl, rfl, by simp, fun k hk _ => heap_alloc_old w.drew _ hk⟩
        refine ⟨_, _, _, hr, ⟨hlen, .inr ⟨w.heap.size, _, _, rfl, hbase, heap_alloc_new w.drew _, hge, hcm2, ?_, ?_⟩⟩, hown0.kept hgb (.inr (by simp [Value.ownBlock])), ⟨hgb.os, hgb.tape, hgb.output, hgb.size, fun k hk _ => hgb.block k hk (by simp)⟩⟩
        · simp only [Array.size_append, List.size_toArray, size_zeroCells, hzs, hown.1, hl, ← Nat.add_mul]
          congr 1
          omega
        · simp only [Array.toList_append, List.append_assoc]
          rw [← List.append_assoc, ← hlen]
          exact List.take_left
theorem wpList_append_keep {P : Program} {ops : Array Oper} {rest : List Oper} {o : Oper} {a : Act} {w : World} {Q : Exit → Act → World → Prop} (hgd : Region.wanted o (yielded ops a.tmps) = true) (s x : Operand) (t : TypeId)
    (ho : o.op = .call { callee := .builtin .append, args := #[s, x], argTypes := #[t, t] })
    (base : Nat) (e : TypeId) (i : TypeInfo) (z : Value) (size bytes : Nat) (ht : P.underlying t = some (.slice e)) (hi : P.info? e = some i) (hz : i.zero = some z)
    (hsize : i.size = size) (hby : i.bytes = bytes) (hzs : z.cells.size = size) (hsz : 0 < size)
    (g n c : Nat) (xs : List Value) (hs : a.eval s = .slice (some ⟨g, 0, none⟩) n c) (hown : w.ownsRow base e size (.slice (some ⟨g, 0, none⟩) n c) n xs)
    (ao : Option Addr) (m cc : Nat) (news : List Value) (hx : a.eval x = .slice ao m cc) (hl : news.length = m * size) (hnone : ao = none → m = 0 ∧ cc = 0) (hnews : ∀ a, ao = some a → ∀ j u, news[j]? = some u → w.cell? (a.add j) = some u) (h1 : ∀ u ∈ news, u.oneCell' = true)
    (h63 : n + m ≤ maxLen) (hbytes : (n + m) * bytes ≤ 140737488355328) (hbase : base ≤ w.heap.size)
    (h : ∀ g' c' w', w'.ownsRow base e size (.slice (some ⟨g', 0, none⟩) (n + m) c') (n + m) (xs ++ news) → w'.ownsRow base e size (.slice (some ⟨g, 0, none⟩) n c) n xs → w.grownBy w' (some g) → wpList P ops Q rest (a.put o.dst (.slice (some ⟨g', 0, none⟩) (n + m) c')) w') :
    wpList P ops Q (o :: rest) a w := by
  refine wpList_step fun K hK => ?_
  rw [if_pos hgd]
  obtain ⟨g', c', w', hr, h2, h3, h4⟩ := run_append_keep (P := P) w base t o.type e i z size bytes ht hi hz hsize hby hzs hsz g n c xs hown ao m cc news hl hnone hnews h1 h63 hbytes hbase
  unfold Oper.wp execOp
  simp only [ho, resolve, invoke, builtin, Sem.run_bind, Sem.run_pure, Result.andThen_ok, List.map_toArray, List.map_cons, List.map_nil, hs, hx, hr]
  exact hK _ _ (h g' c' w' h2 h3 h4)
/-- nothing is said of a step -/
def AnyW (_ _ : World) : Prop := True
theorem any_rf : ∀ w, AnyW w w := fun _ => trivial
theorem any_tr : ∀ a b c, AnyW a b → AnyW b c → AnyW a c := fun _ _ _ _ _ => trivial
/-- a whole struct, read where it lies -/
theorem exec_load_mid {P : Program} {ρ : Operand → Value} {o : Oper} {w : World} (ty : TypeId) (x : Operand) (ho : o.op = .load ty x)
    (b k : Nat) (hx : ρ x = .pointer (some ⟨b, k, none⟩)) (cs : List Value) (d : TypeDesc) (hc : w.rangeAt b k cs)
    (hu : P.underlying ty = some d) (hd : d.isRow = true) (hi : (P.info? ty).map (·.size) = some cs.length) : (execOp ρ o).run P w = .ok (.value (.agg cs.toArray)) w := by
  unfold execOp
  simp only [ho, hx, Instr.loadAt, Instr.sureAddr, Sem.run_bind, Sem.run_pure, Result.andThen_ok, run_loadVar_mid w b k ty cs d hc hu hd hi]
theorem seg_set {α : Type} (cur vs : List α) (a N : Nat) (h : a + vs.length ≤ N) (hN : N ≤ cur.length) : (cur.take a ++ vs ++ cur.drop (a + vs.length)).take N = (cur.take N).take a ++ vs ++ (cur.take N).drop (a + vs.length) := by
  have h1 : (cur.take a ++ vs).length = a + vs.length := by rw [List.length_append, List.length_take]; omega
  rw [List.take_append, List.take_of_length_le (by omega), h1, List.take_take, Nat.min_eq_left (by omega), List.drop_take]
/-- a whole struct, stored into a row of the call's own -/
theorem store_own {P : Program} {w : World} {base : Nat} {e ty : TypeId} {size g n c : Nat} {xs : List Value} (hown : w.ownsRow base e size (.slice (some ⟨g, 0, none⟩) n c) n xs) (k : Nat) (cells : Array Value)
    (hk : k + cells.size ≤ n * size) (hi : (P.info? ty).map (·.size) = some cells.size) (h1 : ∀ v ∈ cells.toList, v.oneCell' = true) :
    ∃ w', (storeVar ty ⟨g, k, none⟩ (.agg cells)).run P w = .ok () w' ∧ w'.ownsRow base e size (.slice (some ⟨g, 0, none⟩) n c) n (xs.take k ++ cells.toList ++ xs.drop (k + cells.size)) ∧ w.grownBy w' (some g) := by
  rcases hown.2 with ⟨h, _⟩ | ⟨g', cap', cur, h, hbg, hg, hnc, hcm, hcs, htake⟩
  · simp at h
  · simp only [Value.slice.injEq, Option.some.injEq, Addr.mk.injEq, and_true, true_and] at h
    obtain ⟨rfl, rfl⟩ := h
    have hnc' : n * size ≤ c * size := Nat.mul_le_mul_right _ hnc
    have hst := run_storeCells_at P g k e cells.toList 0 cur w hg (by simp; omega) h1
    simp only [Nat.add_zero, Array.length_toList] at hst
    have hxl := hown.1
    refine ⟨w.setRow g (cur.toList.take k ++ cells.toList ++ cur.toList.drop (k + cells.size)).toArray, ?_, ⟨?_, .inr ⟨g, c, _, rfl, hbg, setRow_heap w g cur _ e _ hg, hnc, hcm, ?_, ?_⟩⟩, ⟨rfl, rfl, rfl, by simp, fun k _ hk => setRow_other w g k _ (fun e => hk (by simp [e]))⟩⟩
    · cases hq : P.info? ty with
      | none => simp [hq] at hi
      | some i =>
        have hs : cells.size = i.size := by simp [hq] at hi; omega
        simp [storeVar, sizeOf, typeInfo, hq, Value.cells, hs]
        rw [hs, List.append_assoc] at hst
        exact hst
    · simp only [List.length_append, List.length_take, List.length_drop, Array.length_toList]
      omega
    · simp only [List.size_toArray, List.length_append, List.length_take, List.length_drop, Array.length_toList]
      omega
    · have := seg_set cur.toList cells.toList k (n * size) (by simpa using hk) (by simp; omega)
      simp only [Array.length_toList] at this
      rw [← htake]
      exact this
theorem wp_store_own {P : Program} {op : Oper} {a : Act} {w : World} {K : Act → World → Prop} {Q : Exit → Act → World → Prop} (ty : TypeId) (x y : Operand) (ho : op.op = .store ty x y)
    {base : Nat} {e : TypeId} {size g n c : Nat} {xs : List Value} (hown : w.ownsRow base e size (.slice (some ⟨g, 0, none⟩) n c) n xs) (k : Nat) (cells : Array Value) (hx : a.eval x = .pointer (some ⟨g, k, none⟩)) (hy : a.eval y = .agg cells)
    (hk : k + cells.size ≤ n * size) (hi : (P.info? ty).map (·.size) = some cells.size) (h1 : ∀ v ∈ cells.toList, v.oneCell' = true)
    (h : ∀ w', w'.ownsRow base e size (.slice (some ⟨g, 0, none⟩) n c) n (xs.take k ++ cells.toList ++ xs.drop (k + cells.size)) → w.grownBy w' (some g) → K (a.put op.dst undef) w') : op.wp P a w K Q := by
  obtain ⟨w', hr, h2, h3⟩ := store_own (P := P) (ty := ty) hown k cells hk hi h1
  unfold Oper.wp execOp
  simp only [ho, hx, hy, Instr.storeAt, Instr.sureAddr, Sem.run_bind, Sem.run_pure, Result.andThen_ok, hr]
  exact h w' h2 h3
end Go.Proofs.Ytbccbfmgjeknhaa
