/- The walk of the statement AttendWho: packets that came in; the list copied, doubled, turned round. -/
import Derived.Test.YtpobjcdcimcdnaaAtW
import Derived.Test.YtpobjcdcimcdnaaRws
namespace Go.Proofs.Ytpobjcdcimcdnaa
open Go.ChangeShapes Go.WideShapes Go.ChangeAt Go.RowKit
abbrev pbc (x : PB) : Array Value := pcells x.p x.A x.l.length x.c
abbrev PksIn (w : World) (A : Option Addr) (L : List PB) : Prop := RowsAt (fun x => (pbc x).toList) (fun w (x : PB) => Bytes w x.A x.l) 12 w A L
theorem PksIn.pks {w : World} {A : Option Addr} {L : List PB} (h : PksIn w A L) : Pks w A L := by
  intro hne
  obtain ⟨b, o, rfl, hc⟩ := h hne
  refine ⟨b, o, rfl, fun k hk => ⟨fun i hi => ?_, (hc k hk).2⟩⟩
  rw [(hc k hk).1 i hi]
  simp
theorem open_packets {H : Type} {enc : TypeId × Value → H} {W : World} {base : Nat} {spare : Nat → Bool} {held : Bool} {A : Option Addr} {len cap : Nat} {d : DataW H} {p : List MemPlace}
    (h : DataW.Trod enc Try.prog W base spare held 78 (.slice A len cap) d p) : ∃ L : List PB, len = L.length ∧ L.length ≤ cap ∧ cap ≤ 9223372036854775807 ∧ PksIn W A L ∧ (A = none → cap = 0) := by
  have hnil : A = none → cap = 0 := by
    rintro rfl
    obtain ⟨fuel, hf⟩ := h
    rcases DataW.trod_slice Try.underlying78 hf with ⟨h, _⟩ | ⟨a, len, cap, _, _, _, _, h, _⟩
    · simp [Value.cells] at h; omega
    · simp [Value.cells] at h
  obtain ⟨L, h1, h2, h3, h4⟩ := open_rows (cellsY := fun x : PB => (pbc x).toList) (okY := fun w (x : PB) => Bytes w x.A x.l) Try.underlying78 cellsPacket (by omega) (fun _ => rfl) (fun _ _ _ h => by
    obtain ⟨p, A, l, c, e, _, _, _, hb⟩ := trod_packet h
    exact ⟨⟨p, A, l, c⟩, e, hb⟩) h
  exact ⟨L, h1, h2, h3, h4, hnil⟩
abbrev pkcells (L : List PB) : List Value := L.flatMap fun x => (pbc x).toList
theorem pkcells_len (L : List PB) : (pkcells L).length = L.length * 12 := by
  induction L with
  | nil => rfl
  | cons x L ih =>
    show ((pbc x).toList ++ pkcells L).length = _
    rw [List.length_append, ih, List.length_cons]
    simp
    omega
theorem pkcells_at (L : List PB) : ∀ k (h : k < L.length) i, i < 12 → (pkcells L)[k * 12 + i]? = (pbc L[k])[i]? := by
  induction L with
  | nil => intro k h; simp at h
  | cons x L ih =>
    intro k h i hi
    show ((pbc x).toList ++ pkcells L)[k * 12 + i]? = _
    cases k with
    | zero =>
      rw [List.getElem?_append_left (by simp; omega)]
      simp
    | succ k =>
      have h' : k < L.length := by simpa using h
      rw [List.getElem?_append_right (by simp; omega), show (k + 1) * 12 + i - (pbc x).toList.length = k * 12 + i by simp; omega, ih k h' i hi]
      simp
theorem pkcells_app (L M : List PB) : pkcells (L ++ M) = pkcells L ++ pkcells M := List.flatMap_append
theorem pkcells_take (L : List PB) (k : Nat) (h : k ≤ L.length) : pkcells (L.take k) = (pkcells L).take (k * 12) := by
  have h1 : pkcells L = pkcells (L.take k) ++ pkcells (L.drop k) := by rw [← pkcells_app, List.take_append_drop]
  rw [h1, List.take_left' (by rw [pkcells_len, List.length_take]; congr 1; omega)]
theorem pkcells_drop (L : List PB) (k : Nat) (h : k ≤ L.length) : pkcells (L.drop k) = (pkcells L).drop (k * 12) := by
  have h1 : pkcells L = pkcells (L.take k) ++ pkcells (L.drop k) := by rw [← pkcells_app, List.take_append_drop]
  rw [h1, List.drop_left' (by rw [pkcells_len, List.length_take]; congr 1; omega)]
theorem pkcells_set (L : List PB) (k : Nat) (h : k < L.length) (x : PB) : pkcells (L.set k x) = (pkcells L).take (k * 12) ++ (pbc x).toList ++ (pkcells L).drop (k * 12 + 12) := by
  rw [List.set_eq_take_append_cons_drop, if_pos h, pkcells_app, pkcells_take L k (by omega), List.append_assoc]
  congr 1
  show (pbc x).toList ++ pkcells (L.drop (k + 1)) = _
  rw [pkcells_drop L (k + 1) (by omega)]
  congr 2
  omega
theorem pkcells_one (L : List PB) : ∀ u ∈ pkcells L, u.oneCell' = true := by
  intro u hu
  obtain ⟨x, _, h⟩ := List.mem_flatMap.1 hu
  simp only [List.mem_cons, List.not_mem_nil, or_false] at h
  rcases h with rfl | rfl | rfl | rfl | rfl | rfl | rfl | rfl | rfl | rfl | rfl | rfl <;> rfl
theorem pbc_one (x : PB) : ∀ u ∈ (pbc x).toList, u.oneCell' = true := by
  intro u h
  simp only [List.mem_cons, List.not_mem_nil, or_false] at h
  rcases h with rfl | rfl | rfl | rfl | rfl | rfl | rfl | rfl | rfl | rfl | rfl | rfl <;> rfl
/-- a list of packets of its own -/
abbrev OwnP (w : World) (base : Nat) (v : Value) (L : List PB) : Prop := w.ownsRow base 65 12 v L.length (pkcells L)
theorem OwnP.pks {w : World} {base g n c : Nat} {L : List PB} (h : OwnP w base (.slice (some ⟨g, 0, none⟩) n c) L) (hb : ∀ x, x ∈ L → Bytes w x.A x.l) : Pks w (some ⟨g, 0, none⟩) L := by
  intro _
  refine ⟨g, 0, rfl, fun k hk => ⟨fun i hi => ?_, hb _ (List.getElem_mem hk)⟩⟩
  have hn : n = L.length := by
    rcases h.2 with ⟨h, _⟩ | ⟨g', cap', cur, h, _⟩
    · simp at h
    · simp only [Value.slice.injEq] at h
      exact h.2.1
  subst hn
  rw [Nat.zero_add, World.ownsRow.cellAt h (k * 12 + i) (by omega), pkcells_at L k hk i hi]
theorem OwnP.range {w : World} {base g n c : Nat} {L : List PB} (h : OwnP w base (.slice (some ⟨g, 0, none⟩) n c) L) (k : Nat) (hk : k < L.length) : w.rangeAt g (k * 12) (pbc L[k]).toList := by
  have hn : n = L.length := by
    rcases h.2 with ⟨h, _⟩ | ⟨g', cap', cur, h, _⟩
    · simp at h
    · simp only [Value.slice.injEq] at h
      exact h.2.1
  subst hn
  intro j v hj
  have hj' : j < 12 := by simpa using (List.getElem?_eq_some_iff.1 hj).1
  rw [World.ownsRow.cellAt h (k * 12 + j) (by omega), pkcells_at L k hk j hj', ← hj]
  simp
theorem OwnP.blk {w : World} {base g n c : Nat} {L : List PB} (h : OwnP w base (.slice (some ⟨g, 0, none⟩) n c) L) : base ≤ g ∧ g < w.heap.size := World.ownsRow.lt h g rfl
theorem OwnP.grow {w w' : World} {base : Nat} {v : Value} {L : List PB} (h : OwnP w base v L) (hg : Grow w w') : OwnP w' base v L := by
  obtain ⟨h0, h1 | ⟨g, cap, cur, rfl, hbb, hgg, h1, h2, h3, h4⟩⟩ := h
  · exact ⟨h0, .inl h1⟩
  · exact ⟨h0, .inr ⟨g, cap, cur, rfl, hbb, (hg.block g (Array.getElem?_eq_some_iff.1 hgg).1).trans hgg, h1, h2, h3, h4⟩⟩
theorem rangeAt_grow {w w' : World} {b o : Nat} {cs : List Value} (h : w.rangeAt b o cs) (hg : Grow w w') : w'.rangeAt b o cs := fun j v hj => Grow.cell' hg (h j v hj)
theorem OwnP.len {w : World} {base g n c : Nat} {L : List PB} (h : OwnP w base (.slice (some ⟨g, 0, none⟩) n c) L) : n = L.length := by
  rcases h.2 with ⟨h, _⟩ | ⟨g', cap', cur, h, _⟩
  · simp at h
  · simp only [Value.slice.injEq] at h
    exact h.2.1
theorem pktInfo : (Try.prog.info? 65).map (fun i => (i.zero, i.size, i.bytes)) = some (some (.agg #[.int .i64 0, .int .i64 0, .int .i64 0, .int .u32 0, .int .i64 0, .int .i64 0, .int .i64 0, .int .i64 0, .int .i64 0, .int .i64 0, .int .i64 0, .slice none 0 0]), 12, 112) := by kernel_rfl
theorem pktSize : (Try.prog.info? 65).map (·.size) = some 12 := by kernel_rfl
theorem wp_store_pk {op : Oper} {a : Act} {w : World} {K : Act → World → Prop} {Q : Exit → Act → World → Prop} (x y : Operand) (ho : op.op = .store 65 x y)
    {base g n c : Nat} {P : List PB} (hown : OwnP w base (.slice (some ⟨g, 0, none⟩) n c) P) (k : Nat) (hk : k < P.length) (q : PB) (hx : a.eval x = .pointer (some ⟨g, k * 12, none⟩)) (hy : a.eval y = .agg (pbc q))
    (h : ∀ w', OwnP w' base (.slice (some ⟨g, 0, none⟩) n c) (P.set k q) → w.grownBy w' (some g) → K (a.put op.dst undef) w') : op.wp Try.prog a w K Q := by
  obtain rfl := hown.len
  refine wp_store_own 65 x y ho hown (k * 12) (pbc q) hx hy (by show k * 12 + 12 ≤ P.length * 12; omega) pktSize (pbc_one q) ?_
  intro w' h1 h2
  refine h w' ?_ h2
  unfold OwnP
  rw [List.length_set, pkcells_set P k hk q]
  exact h1
end Go.Proofs.Ytpobjcdcimcdnaa
