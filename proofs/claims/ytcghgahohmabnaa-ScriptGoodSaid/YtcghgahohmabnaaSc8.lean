/- Acts (chapter 46) that are read: the plain law; a list of them that grows. -/
import Derived.Test.YtcghgahohmabnaaSc5
import Derived.Test.YtcghgahohmabnaaFtT
namespace Go.Proofs.Ytcghgahohmabnaa
open Go.RowKit
abbrev noA : ActP := ⟨0, 0, 0, zF⟩
/-- an act and its body -/
abbrev XA := ActP × List UInt8
def agFin (p : ActP) (l : List UInt8) (s : List UInt8 × Int) : XA × List UInt8 × Int :=
  if s.2 ≠ 0 then ((noA, []), [], s.2) else if actB p l = false then ((noA, []), [], 2) else ((p, l), s.1, 0)
def ag1 (b : List UInt8) := rbyte (b, 0)
def ag2 (b : List UInt8) := rbyte (ag1 b).2
def agU (b : List UInt8) := rnum (ag2 b).2
def agT (b : List UInt8) := rbytes 1024 (ag2 b).2
/-- an act, as a reader reads it: the act, the rest, what is wrong -/
def ag (b : List UInt8) : XA × List UInt8 × Int :=
  if (ag1 b).2.2 ≠ 0 then ((noA, []), [], (ag1 b).2.2)
  else if (ag1 b).1 < 1 ∨ 8 < (ag1 b).1 then ((noA, []), [], 7)
  else if (ag1 b).1 = 3 then (if (fg (ag1 b).2.1).2.2 ≠ 0 then ((noA, []), [], (fg (ag1 b).2.1).2.2) else ((⟨3, 0, 0, (fg (ag1 b).2.1).1⟩, []), (fg (ag1 b).2.1).2.1, 0))
  else if (ag1 b).1 = 1 then agFin ⟨1, 0, ((ag2 b).1 : Int), zF⟩ [] (ag2 b).2
  else if (ag1 b).1 = 2 then agFin ⟨2, ((ag2 b).1 : Int), zagI (agU b).1, zF⟩ [] (agU b).2
  else if (ag1 b).1 = 6 then agFin ⟨6, ((ag2 b).1 : Int), 0, zF⟩ (agT b).1 (agT b).2
  else agFin ⟨((ag1 b).1 : Int), ((ag2 b).1 : Int), 0, zF⟩ [] (ag2 b).2
section
variable {b r1 r2 r3 t : List UInt8} {x1 x2 u : Nat} {e1 e2 e3 : Int}
theorem ag_err (h : rbyte (b, 0) = (x1, r1, e1)) (he : e1 ≠ 0) : ag b = ((noA, []), [], e1) := by
  have e : ag1 b = (x1, r1, e1) := h
  unfold ag
  rw [e, if_pos he]
theorem ag_kind (h : rbyte (b, 0) = (x1, r1, 0)) (hk : x1 < 1 ∨ 8 < x1) : ag b = ((noA, []), [], 7) := by
  have e : ag1 b = (x1, r1, 0) := h
  unfold ag
  rw [e, if_neg (by simp), if_pos hk]
theorem ag_3 (h : rbyte (b, 0) = (3, r1, 0)) : ag b = if (fg r1).2.2 ≠ 0 then ((noA, []), [], (fg r1).2.2) else ((⟨3, 0, 0, (fg r1).1⟩, []), (fg r1).2.1, 0) := by
  have e : ag1 b = (3, r1, 0) := h
  unfold ag
  rw [e, if_neg (by simp), if_neg (by simp), if_pos (by simp)]
theorem ag_1 (h : rbyte (b, 0) = (1, r1, 0)) (h2 : rbyte (r1, 0) = (x2, r2, e2)) : ag b = agFin ⟨1, 0, (x2 : Int), zF⟩ [] (r2, e2) := by
  have e : ag1 b = (1, r1, 0) := h
  have f : ag2 b = (x2, r2, e2) := by unfold ag2; rw [e]; exact h2
  unfold ag
  rw [e, f, if_neg (by simp), if_neg (by simp), if_neg (by simp), if_pos (by simp)]
theorem ag_2 (h : rbyte (b, 0) = (2, r1, 0)) (h2 : rbyte (r1, 0) = (x2, r2, e2)) (h3 : rnum (r2, e2) = (u, r3, e3)) : ag b = agFin ⟨2, (x2 : Int), zagI u, zF⟩ [] (r3, e3) := by
  have e : ag1 b = (2, r1, 0) := h
  have f : ag2 b = (x2, r2, e2) := by unfold ag2; rw [e]; exact h2
  have g : agU b = (u, r3, e3) := by unfold agU; rw [f]; exact h3
  unfold ag
  rw [e, f, g, if_neg (by simp), if_neg (by simp), if_neg (by simp), if_neg (by simp), if_pos (by simp)]
theorem ag_6 (h : rbyte (b, 0) = (6, r1, 0)) (h2 : rbyte (r1, 0) = (x2, r2, e2)) (h3 : rbytes 1024 (r2, e2) = (t, r3, e3)) : ag b = agFin ⟨6, (x2 : Int), 0, zF⟩ t (r3, e3) := by
  have e : ag1 b = (6, r1, 0) := h
  have f : ag2 b = (x2, r2, e2) := by unfold ag2; rw [e]; exact h2
  have g : agT b = (t, r3, e3) := by unfold agT; rw [f]; exact h3
  unfold ag
  rw [e, f, g, if_neg (by simp), if_neg (by simp), if_neg (by simp), if_neg (by simp), if_neg (by simp), if_pos (by simp)]
theorem ag_n (h : rbyte (b, 0) = (x1, r1, 0)) (hk : x1 = 4 ∨ x1 = 5 ∨ x1 = 7 ∨ x1 = 8) (h2 : rbyte (r1, 0) = (x2, r2, e2)) : ag b = agFin ⟨(x1 : Int), (x2 : Int), 0, zF⟩ [] (r2, e2) := by
  have e : ag1 b = (x1, r1, 0) := h
  have f : ag2 b = (x2, r2, e2) := by unfold ag2; rw [e]; exact h2
  unfold ag
  rw [e, f]
  dsimp only
  rw [if_neg (by simp), if_neg (by omega), if_neg (by omega), if_neg (by omega), if_neg (by omega), if_neg (by omega)]
end
/-- so many acts, one behind the other -/
def decL : Nat → List UInt8 → List XA × List UInt8 × Int
  | 0, b => ([], b, 0)
  | n + 1, b => if (ag b).2.2 ≠ 0 then ([], [], (ag b).2.2) else
      if (decL n (ag b).2.1).2.2 ≠ 0 then ([], [], (decL n (ag b).2.1).2.2) else ((ag b).1 :: (decL n (ag b).2.1).1, (decL n (ag b).2.1).2.1, 0)
/-- acts behind others -/
def decG (L : List XA) (d : List XA × List UInt8 × Int) : List XA × List UInt8 × Int := if d.2.2 ≠ 0 then ([], [], d.2.2) else (L ++ d.1, d.2.1, 0)
theorem decL_bad : ∀ n b, (decL n b).2.2 ≠ 0 → decL n b = ([], [], (decL n b).2.2)
  | 0, b, h => absurd rfl h
  | n + 1, b, h => by
    unfold decL at h ⊢
    split
    · rfl
    · split
      · rfl
      · rename_i h1 h2
        rw [if_neg h1, if_neg h2] at h
        exact absurd rfl h
theorem decG_nil (n : Nat) (b : List UInt8) : decG [] (decL n b) = decL n b := by
  unfold decG
  split
  · rename_i h; exact (decL_bad n b h).symm
  · rename_i h
    have h : (decL n b).2.2 = 0 := by simpa using h
    rw [List.nil_append, ← h]
theorem decG_bad (L : List XA) (n : Nat) (b : List UInt8) (h : (ag b).2.2 ≠ 0) : decG L (decL (n + 1) b) = ([], [], (ag b).2.2) := by
  have : decL (n + 1) b = ([], [], (ag b).2.2) := by
    show (if (ag b).2.2 ≠ 0 then _ else _) = _
    rw [if_pos h]
  unfold decG
  rw [this, if_pos h]
theorem decG_step (L : List XA) (n : Nat) (b : List UInt8) (h : (ag b).2.2 = 0) : decG L (decL (n + 1) b) = decG (L ++ [(ag b).1]) (decL n (ag b).2.1) := by
  have e : decL (n + 1) b = if (decL n (ag b).2.1).2.2 ≠ 0 then ([], [], (decL n (ag b).2.1).2.2) else ((ag b).1 :: (decL n (ag b).2.1).1, (decL n (ag b).2.1).2.1, 0) := by
    show (if (ag b).2.2 ≠ 0 then _ else _) = _
    rw [if_neg (by simpa using h)]
  rw [e]
  unfold decG
  by_cases hd : (decL n (ag b).2.1).2.2 = 0
  · simp only [ne_eq, hd, not_true_eq_false, if_false, List.append_assoc, List.cons_append, List.nil_append]
  · simp only [ne_eq, hd, not_false_eq_true, if_true]
theorem decG_end (L : List XA) (b : List UInt8) : decG L (decL 0 b) = (L, b, 0) := by
  unfold decG decL
  simp
/-- the acts of bytes, or what is wrong -/
def decA (b : List UInt8) : List XA × Int :=
  if (Buf.getNum b).2.2 ≠ 0 then ([], (Buf.getNum b).2.2) else if 4096 < (Buf.getNum b).1 then ([], 4)
  else if (decL (Buf.getNum b).1 (Buf.getNum b).2.1).2.2 ≠ 0 then ([], (decL (Buf.getNum b).1 (Buf.getNum b).2.1).2.2)
  else if (decL (Buf.getNum b).1 (Buf.getNum b).2.1).2.1 ≠ [] then ([], 5)
  else ((decL (Buf.getNum b).1 (Buf.getNum b).2.1).1, 0)
abbrev xa (x : AB) : XA := (x.p, x.l)
abbrev lcells (L : List AB) : List Value := L.flatMap fun x => (abc x).toList
theorem lcells_snoc (L : List AB) (x : AB) : lcells (L ++ [x]) = lcells L ++ (abc x).toList := by simp [lcells]
theorem lcells_len (L : List AB) : (lcells L).length = L.length * 9 := by
  induction L with
  | nil => rfl
  | cons x L ih =>
    show ((abc x).toList ++ lcells L).length = _
    rw [List.length_append, ih, List.length_cons]
    simp
    omega
theorem lcells_at (L : List AB) : ∀ k (h : k < L.length) i, i < 9 → (lcells L)[k * 9 + i]? = (abc L[k])[i]? := by
  induction L with
  | nil => intro k h; simp at h
  | cons x L ih =>
    intro k h i hi
    show ((abc x).toList ++ lcells L)[k * 9 + i]? = _
    cases k with
    | zero =>
      rw [List.getElem?_append_left (by simp; omega)]
      simp
    | succ k =>
      have h' : k < L.length := by simpa using h
      rw [List.getElem?_append_right (by simp; omega), show (k + 1) * 9 + i - (abc x).toList.length = k * 9 + i by simp; omega, ih k h' i hi]
      simp
/-- a list of its own -/
abbrev OwnL (w : World) (base : Nat) (v : Value) (L : List AB) : Prop := w.ownsRow base 108 9 v L.length (lcells L)
theorem OwnL.form {w : World} {base : Nat} {v : Value} {L : List AB} (h : OwnL w base v L) : ∃ A c, v = .slice A L.length c ∧ L.length ≤ c ∧ c ≤ 9223372036854775807 ∧ (∀ q, v.ownBlock = some q → base ≤ q ∧ q < w.heap.size) ∧
    (L ≠ [] → ∃ g, A = some ⟨g, 0, none⟩ ∧ base ≤ g ∧ ∀ k (h : k < L.length) i, i < 9 → w.cell? ⟨g, k * 9 + i, none⟩ = (abc L[k])[i]?) := by
  obtain ⟨h0, ⟨rfl, h1⟩ | ⟨g, cap, cur, rfl, hb, hg, h1, h2, h3, h4⟩⟩ := h
  · have : L = [] := List.eq_nil_of_length_eq_zero h1
    subst this
    exact ⟨none, 0, rfl, Nat.le_refl _, by omega, fun q hq => by simp [Value.ownBlock] at hq, fun h => absurd rfl h⟩
  · refine ⟨_, cap, rfl, h1, by have : maxLen ≤ 9223372036854775807 := by decide
                                omega, fun q hq => ?_, fun hne => ⟨g, rfl, hb, fun k hk i hi => ?_⟩⟩
    · have : g = q := by simpa [Value.ownBlock] using hq
      subst this
      exact ⟨hb, (Array.getElem?_eq_some_iff.1 hg).1⟩
    · rw [cell_of_row w g _ _ _ (0, 0) hg, ← lcells_at L k hk i hi, ← h4, List.getElem?_take_of_lt (by omega)]
      simp
theorem OwnL.acts {w : World} {base : Nat} {A : Option Addr} {n c : Nat} {L : List AB} (h : OwnL w base (.slice A n c) L) (hok : ∀ x, x ∈ L → x.Ok w) : Acts w A L := by
  intro hne
  obtain ⟨A', c', he, _, _, _, h2⟩ := OwnL.form h
  obtain ⟨g, rfl, _, hc⟩ := h2 hne
  obtain ⟨rfl, _, _⟩ : A = some ⟨g, 0, none⟩ ∧ n = L.length ∧ c = c' := by simpa using he
  refine ⟨g, 0, rfl, fun k hk => ⟨fun i hi => ?_, hok _ (List.getElem_mem hk)⟩⟩
  rw [Nat.zero_add, hc k hk i hi]
  simp
theorem OwnL.keep {w w' : World} {base : Nat} {v : Value} {L : List AB} (h : OwnL w base v L) (hb : ∀ q, v.ownBlock = some q → w'.heap[q]? = w.heap[q]?) : OwnL w' base v L := by
  obtain ⟨h0, h1 | ⟨g, cap, cur, rfl, hbb, hg, h1, h2, h3, h4⟩⟩ := h
  · exact ⟨h0, .inl h1⟩
  · exact ⟨h0, .inr ⟨g, cap, cur, rfl, hbb, (hb g rfl).trans hg, h1, h2, h3, h4⟩⟩
theorem OwnL.nil (w : World) (base : Nat) : OwnL w base (.slice none 0 0) [] := ⟨rfl, .inl ⟨rfl, rfl⟩⟩
theorem actInfo : (Try.prog.info? 108).map (fun i => (i.zero, i.size, i.bytes)) = some (some (.agg #[.int .i64 0, .int .i64 0, .int .i64 0, .int .i64 0, .int .i64 0, .int .i64 0, .int .u32 0, .int .u32 0, .slice none 0 0]), 9, 80) := by kernel_rfl
def GotA (w w' : World) (r : Ending) (N pr : Nat) (T : XA × List UInt8 × Int) : Prop :=
  (∃ q A n c, r = .returned (.tuple #[av q A n c, .int .i64 T.2.2]) ∧ (T.2.2 = 0 → q = T.1.1 ∧ n = T.1.2.length ∧ n ≤ c ∧ Bytes w' A T.1.2 ∧ (T.1.2 ≠ [] → ∃ g, A = some ⟨g, 0, none⟩ ∧ w.heap.size ≤ g) ∧ Rd w' N pr (T.2.1, 0))) ∧ Kept w.heap.size [pr] w w'
end Go.Proofs.Ytcghgahohmabnaa
