/- The document's Split (chapter 41). -/
import Derived.Test.YtbccbfmgjeknhaaCc
import Derived.Test.YtbccbfmgjeknhaaNod
namespace Go.Proofs.Ytbccbfmgjeknhaa
open Go.RowKit
def spl (s : Nat) (r : List (List UInt8) × List UInt8) (x : UInt8) : List (List UInt8) × List UInt8 := if r.2.length = s then (r.1 ++ [r.2], [x]) else (r.1, r.2 ++ [x])
def splF (s : Nat) (b : List UInt8) : List (List UInt8) × List UInt8 := b.foldl (spl s) ([], [])
theorem Bytes.lit' (w : World) (g : Nat) (hg : w.heap.size = g) (l : List UInt8) (cs : Array Value) (t : TypeId) (fr : Nat × Nat) (h : cs = (l.map u8).toArray) : Bytes (w.alloc (.cells cs t fr)) (some ⟨g, 0, none⟩) l := by subst hg; exact Bytes.lit w l cs t fr h
/-- bytes in parts -/
def splitR (s : Nat) (b : List UInt8) : List (List UInt8) := (splF s b).1 ++ [(splF s b).2]
theorem splF_snoc (s : Nat) (b : List UInt8) (k : Nat) (h : k < b.length) : splF s (b.take (k + 1)) = spl s (splF s (b.take k)) b[k] := by
  unfold splF
  rw [List.take_succ_eq_append_getElem h, List.foldl_append]
  rfl
theorem splF_inv (s : Nat) (hs : 1 ≤ s) (b : List UInt8) : (splF s b).1.flatten ++ (splF s b).2 = b ∧ (∀ p, p ∈ (splF s b).1 → p.length = s) ∧ (splF s b).2.length ≤ s ∧ (b ≠ [] → 1 ≤ (splF s b).2.length) ∧ (splF s b).1.length * s + (splF s b).2.length = b.length := by
  have : ∀ (c : List UInt8) (r : List (List UInt8) × List UInt8) (a : List UInt8), r.1.flatten ++ r.2 = a → (∀ p, p ∈ r.1 → p.length = s) → r.2.length ≤ s → (a ≠ [] → 1 ≤ r.2.length) → r.1.length * s + r.2.length = a.length →
      (c.foldl (spl s) r).1.flatten ++ (c.foldl (spl s) r).2 = a ++ c ∧ (∀ p, p ∈ (c.foldl (spl s) r).1 → p.length = s) ∧ (c.foldl (spl s) r).2.length ≤ s ∧ (a ++ c ≠ [] → 1 ≤ (c.foldl (spl s) r).2.length) ∧ (c.foldl (spl s) r).1.length * s + (c.foldl (spl s) r).2.length = (a ++ c).length := by
    intro c
    induction c with
    | nil => intro r a h1 h2 h3 h4 h5; rw [List.append_nil]; exact ⟨h1, h2, h3, h4, h5⟩
    | cons x c ih =>
      intro r a h1 h2 h3 h4 h5
      rw [List.foldl_cons, show a ++ x :: c = (a ++ [x]) ++ c by simp]
      unfold spl
      split
      · rename_i he
        refine ih _ _ ?_ ?_ ?_ ?_ ?_
        · rw [← h1]; simp
        · intro p hp
          rcases List.mem_append.1 hp with h | h
          · exact h2 p h
          · rw [List.mem_singleton.1 h]; exact he
        · simpa using hs
        · intro _; simp
        · simp only [List.length_append, List.length_cons, List.length_nil]
          rw [Nat.add_mul]
          omega
      · rename_i he
        refine ih _ _ ?_ h2 ?_ ?_ ?_
        · rw [← h1]; simp
        · simp only [List.length_append, List.length_cons, List.length_nil]; omega
        · intro _; simp only [List.length_append, List.length_cons, List.length_nil]; omega
        · simp only [List.length_append, List.length_cons, List.length_nil]; omega
  have := this b ([], []) [] rfl (by simp) (by simp) (by simp) (by simp)
  simpa [splF] using this
theorem splitR_flat (s : Nat) (hs : 1 ≤ s) (b : List UInt8) : (splitR s b).flatten = b := by
  have := (splF_inv s hs b).1
  unfold splitR
  rw [List.flatten_append]
  simpa using this
theorem splitR_len (s : Nat) (b : List UInt8) : (splitR s b).length = (splF s b).1.length + 1 := by simp [splitR]
theorem splitR_most (s : Nat) (hs : 1 ≤ s) (b : List UInt8) : (splitR s b).length ≤ b.length + 1 ∧ (b ≠ [] → (splitR s b).length ≤ b.length) := by
  obtain ⟨_, _, _, h4, h5⟩ := splF_inv s hs b
  rw [splitR_len]
  have : (splF s b).1.length ≤ (splF s b).1.length * s := Nat.le_mul_of_pos_right _ hs
  exact ⟨by omega, fun h => by have := h4 h; omega⟩
theorem splitR_part (s : Nat) (hs : 1 ≤ s) (b : List UInt8) : ∀ p, p ∈ splitR s b → p.length ≤ s := by
  obtain ⟨_, h2, h3, _, _⟩ := splF_inv s hs b
  intro p hp
  rcases List.mem_append.1 hp with h | h
  · exact Nat.le_of_eq (h2 p h)
  · rw [List.mem_singleton.1 h]; exact h3
/-- a slice of bytes, as it lies -/
structure SB where
  A : Option Addr
  l : List UInt8
  c : Nat
abbrev sbv (x : SB) : Value := .slice x.A x.l.length x.c
abbrev OwnV (w : World) (base : Nat) (v : Value) (Y : List SB) : Prop := w.ownsRow base 22 1 v Y.length (Y.map sbv)
theorem OwnV.form {w : World} {base : Nat} {v : Value} {Y : List SB} (h : OwnV w base v Y) : ∃ A c, v = .slice A Y.length c ∧ ∀ q, v.ownBlock = some q → base ≤ q ∧ q < w.heap.size := by
  obtain ⟨h0, ⟨rfl, h1⟩ | ⟨g, cap, cur, rfl, hb, hg, h1, h2, h3, h4⟩⟩ := h
  · exact ⟨none, 0, by rw [h1], fun q hq => by simp [Value.ownBlock] at hq⟩
  · refine ⟨_, cap, rfl, fun q hq => ?_⟩
    have : g = q := by simpa [Value.ownBlock] using hq
    subst this
    exact ⟨hb, (Array.getElem?_eq_some_iff.1 hg).1⟩
theorem OwnV.keep {w w' : World} {base : Nat} {v : Value} {Y : List SB} (h : OwnV w base v Y) (hb : ∀ q, v.ownBlock = some q → w'.heap[q]? = w.heap[q]?) : OwnV w' base v Y := by
  obtain ⟨h0, h1 | ⟨g, cap, cur, rfl, hbb, hg, h1, h2, h3, h4⟩⟩ := h
  · exact ⟨h0, .inl h1⟩
  · exact ⟨h0, .inr ⟨g, cap, cur, rfl, hbb, (hb g rfl).trans hg, h1, h2, h3, h4⟩⟩
theorem OwnV.grow {w w' : World} {base : Nat} {v : Value} {Y : List SB} (h : OwnV w base v Y) (hg : Grow w w') : OwnV w' base v Y := by
  obtain ⟨_, _, _, h2⟩ := OwnV.form h
  exact OwnV.keep h (fun q hq => hg.block q (h2 q hq).2)
theorem OwnV.sls {w : World} {base n c : Nat} {A : Option Addr} {Y : List SB} (h : OwnV w base (.slice A n c) Y) (hb : ∀ x, x ∈ Y → Bytes w x.A x.l) : Sls w A (Y.map (·.l)) := by
  intro hne
  obtain ⟨h0, ⟨he, h1⟩ | ⟨g, cap, cur, he, hbb, hg, h1, h2, h3, h4⟩⟩ := h
  · have : Y = [] := List.eq_nil_of_length_eq_zero h1
    subst this
    exact absurd rfl hne
  · obtain ⟨rfl, _, _⟩ : A = some ⟨g, 0, none⟩ ∧ n = Y.length ∧ c = cap := by simpa using he
    refine ⟨g, 0, rfl, fun j hj => ?_⟩
    have hj' : j < Y.length := by simpa using hj
    have e : (Y.map (·.l))[j] = Y[j].l := by simp
    rw [e]
    refine ⟨Y[j].A, Y[j].c, ?_, hb _ (List.getElem_mem hj')⟩
    rw [Nat.zero_add, cell_of_row w g _ _ _ (0, 0) hg]
    have h5 : (cur.toList.take (Y.length * 1))[j]? = (Y.map sbv)[j]? := by rw [h4]
    rw [List.getElem?_take_of_lt (by omega), List.getElem?_map, List.getElem?_eq_getElem hj'] at h5
    simpa using h5
theorem sbInfo : (Try.prog.info? 22).map (fun i => (i.zero, i.size, i.bytes)) = some (some (.slice none 0 0), 1, 24) := by kernel_rfl
theorem OwnV.made' (w : World) (base g : Nat) (hg : w.heap.size = g) (hb : base ≤ g) : OwnV (w.alloc (.cells #[] 22)) base (.slice (some ⟨g, 0, none⟩) 0 0) [] := by
  subst hg
  exact ⟨rfl, .inr ⟨_, 0, #[], rfl, hb, heap_alloc_new w _, Nat.le_refl _, by decide, rfl, rfl⟩⟩
/-- parts that lie apart from what still grows -/
def Apart (w : World) (N : Nat) (Ap : Option Addr) (v : Value) (Y : List SB) : Prop := ∀ x, x ∈ Y → Bytes w x.A x.l ∧ ∀ q, blk x.A = some q → N ≤ q ∧ q < w.heap.size ∧ blk Ap ≠ some q ∧ v.ownBlock ≠ some q
theorem Apart.keep {w w' : World} {N : Nat} {Ap Ap' : Option Addr} {v v' : Value} {Y : List SB} (h : Apart w N Ap v Y) (hs : w.heap.size ≤ w'.heap.size) (hk : ∀ q, q < w.heap.size → blk Ap ≠ some q → v.ownBlock ≠ some q → w'.heap[q]? = w.heap[q]?)
    (h1 : ∀ q, blk Ap' = some q → blk Ap = some q ∨ w.heap.size ≤ q) (h2 : ∀ q, v'.ownBlock = some q → v.ownBlock = some q ∨ w.heap.size ≤ q) : Apart w' N Ap' v' Y := by
  intro x hx
  obtain ⟨hb, hq⟩ := h x hx
  refine ⟨hb.keep (fun b o hA _ => ?_), fun q hA => ?_⟩
  · obtain ⟨_, h4, h5, h6⟩ := hq b (by rw [hA]; rfl)
    exact hk b h4 h5 h6
  · obtain ⟨h3, h4, h5, h6⟩ := hq q hA
    exact ⟨h3, by omega, fun e => by rcases h1 q e with h | h; exact h5 h; omega, fun e => by rcases h2 q e with h | h; exact h6 h; omega⟩
theorem sbv_one (Y : List SB) : ∀ u ∈ Y.map sbv, u.oneCell' = true := by
  intro u hu
  obtain ⟨x, _, rfl⟩ := List.mem_map.1 hu
  rfl
theorem refsplit_none (A : Option Addr) (n c : Nat) (s : Int) (w : World) (hs : s < 1) :
    Calls Try.prog 13 #[.slice A n c, .int .i64 s] w fun r w' => (∃ A' c', r = .returned (.slice A' 0 c')) ∧ Grow w w' := by
  go_enter Try.func13, Try.ntmps13
  go_wp2
  go_ret
  exact ⟨⟨_, _, rfl⟩, (Grow.refl w).alloc _⟩
set_option maxRecDepth 100000 in
set_option maxHeartbeats 4000000 in
theorem refsplit_any (A : Option Addr) (l : List UInt8) (c s : Nat) (w : World) (hs : 1 ≤ s) (hl : l.length ≤ 1000) (hb : Bytes w A l) :
    Calls Try.prog 13 #[.slice A l.length c, .int .i64 s] w fun r w' => (∃ A' c', r = .returned (.slice A' (splitR s l).length c') ∧ Sls w' A' (splitR s l)) ∧ Grow w w' := by
  obtain ⟨i0, hi0, hz0, hs0, hb0⟩ := info_parts sbInfo
  have HI := hide (And.intro hi0 (And.intro hz0 (And.intro hs0 hb0)))
  clear hi0 hz0 hs0 hb0
  have hg0 := ((Grow.refl w).alloc (.cells #[] 22)).alloc (.cells #[] 5)
  have hv0 := hide ((OwnV.made' w w.heap.size w.heap.size rfl (Nat.le_refl _)).grow ((Grow.refl _).alloc (.cells #[] 5)))
  have hp0 := hide (Own.made' (w.alloc (.cells #[] 22)) w.heap.size (w.heap.size + 1) (by simp) (by omega))
  have hsi : ¬ ((s : Int) < 1) := by omega
  go_enter Try.func13, Try.ntmps13
  go_wp2
  go_loopw [5, 6, 7] (fun v pt i wr => ∃ (k : Nat) (Y : List SB) (Ao : Option Addr) (co : Nat) (Ap : Option Addr) (cp : Nat) (P : List UInt8), k ≤ l.length ∧ i = .int .i64 k ∧ v = .slice Ao Y.length co ∧ pt = .slice Ap P.length cp ∧
      Hid (OwnV wr w.heap.size (.slice Ao Y.length co) Y) ∧ Hid (Own wr w.heap.size Ap cp P) ∧ Hid (Apart wr w.heap.size Ap (.slice Ao Y.length co) Y) ∧ Hid (∀ q, blk Ap = some q → blk Ao ≠ some q) ∧ Hid ((Y.map (·.l), P) = splF s (l.take k)) ∧ Y.length ≤ k ∧ P.length ≤ k ∧ Grow w wr) (fun _ _ i _ => l.length - (intOf i).toNat)
  case atStart => exact ⟨0, [], _, 0, _, 0, [], by omega, rfl, rfl, rfl, hv0, hp0, hide (by intro x hx; cases hx), hide (by simp [blk]), hide rfl, by simp, by simp, hg0⟩
  case round =>
    clear hv0 hp0 hg0
    obtain ⟨k, Y, Ao, co, Ap, cp, P, hk, rfl, rfl, rfl, hV, hP, hap, hne, hF, hYk, hPk, hgr⟩ := hrel
    by_cases hlt : k < l.length
    · have hlti : (k : Int) < (l.length : Int) := by omega
      have hsn := hide (splF_snoc s l k hlt)
      obtain ⟨b, o, hA, hcell0⟩ := hb.at_ k hlt
      have hcell := Grow.cell' hgr hcell0
      have hcell0 := hide hcell0
      subst hA
      rw [← hF.out] at hsn
      generalize hxx : l[k] = x at *
      clear hxx
      have hx8 := u8_lt x
      obtain ⟨_, _, _, hVb⟩ := OwnV.form hV.out
      have hVb : ∀ q, blk Ao = some q → w.heap.size ≤ q ∧ q < wr.heap.size := fun q hq => hVb q (by rw [blk_own]; exact hq)
      have hVb := hide hVb
      have hgs := hgr.size
      cases hps : decide (P.length = s) with
      | true =>
        have hpsi : ((P.length : Int) == (s : Int)) = true := by simp at hps; simp [hps]
        have hF2 : Hid (((Y ++ [(⟨Ap, P, cp⟩ : SB)]).map (·.l), [x]) = splF s (l.take (k + 1))) := hide (by
          rw [hsn.out]
          unfold spl
          rw [if_pos (by simpa using hps), List.map_append]
          rfl)
        clear hps hsn
        go_wp2_with (at_builtin; refine Hid.out (?_ : Hid _))
        refine hide ?_
        refine (wpList_append_own_at _ rfl (.tmp 23) (.tmp 25) _ rfl w.heap.size _ i0 _ 1 24 Try.underlying23 HI.out.1 HI.out.2.1 HI.out.2.2.1 HI.out.2.2.2 rfl (by omega) (.slice Ao Y.length co) Y.length (Y.map sbv) rfl (hV.out.grow ((Grow.refl _).alloc _)) ⟨wr.heap.size, 0, none⟩ 1 1 [.slice Ap P.length cp] rfl rfl (one_news ((Box.new wr #[.slice Ap P.length cp] 22 rfl).cell 0)) (by simp [Value.oneCell']) (by unfold maxLen; omega) (by omega) (by simp; omega) ?_)
        intro v' w5 hown5 hgb5 _ hat5
        have hown5' : OwnV w5 w.heap.size v' (Y ++ [⟨Ap, P, cp⟩]) := by
          unfold OwnV
          rw [List.length_append, List.map_append]
          exact hown5
        obtain ⟨A5, c5, rfl, hb5⟩ := OwnV.form hown5'
        rw [blk_own] at hb5 hat5 hgb5
        have hat5 : blk A5 = blk Ao ∨ blk A5 = some (wr.heap.size + 1) := by rw [blk_own] at hat5; simpa using hat5
        have hs5 : wr.heap.size + 1 ≤ w5.heap.size := by have := hgb5.size; simpa using this
        have hk5 : ∀ q, q < wr.heap.size → blk Ao ≠ some q → w5.heap[q]? = wr.heap[q]? := fun q h1 h2 => (hgb5.block q (by simp; omega) (fun e => h2 e.symm)).trans (Below.heap_alloc _ _ _ h1)
        have hg5 : Grow w w5 := ngrown (hgr.alloc _) hgb5 (fun q h => (hVb.out q h).1)
        have hP5 : Bytes w5 Ap P := hP.out.bytes.keep (fun b o hA hlt => hk5 b hlt (hne.out b (by rw [hA]; rfl)))
        have hPb := fun q h => And.intro (hP.out.base (q := q) h) (hP.out.lt (q := q) h)
        have hl5 : (Y ++ [(⟨Ap, P, cp⟩ : SB)]).length = Y.length + 1 := by simp
        have hown5 := hide hown5'
        have hcell5 := Grow.cell' hg5 hcell0.out
        have hblt5 : b < w5.heap.size := World.block_lt_of_cell? w5 _ hcell5
        clear hown5' hV hcell
        go_wp2_with (at_builtin; refine wpList_append_bytes byteT rfl (.tmp 28) (.tmp 33) rfl (Own.alloc (Own.made' w5 w.heap.size w5.heap.size rfl (by omega)) _) (l2 := [x]) (Bytes.lit' _ _ (by simp) [x] #[.int .u8 (x.toNat : Int)] 5 (0, 0) rfl) rfl rfl (by simp) (by simp; omega) ?_)
        intro A7 c7 l7 w7 hl7 hown7 hgb7 hat7
        obtain rfl : l7 = [x] := by simpa using hl7.out
        have hs7 : w5.heap.size + 2 ≤ w7.heap.size := by have := hgb7.size; simpa using this
        have hk7 : ∀ q, q < w5.heap.size → w7.heap[q]? = w5.heap[q]? := fun q h1 => (hgb7.block q (by simp; omega) (by simp [blk]; omega)).trans ((Below.heap_alloc _ _ _ (by simp; omega)).trans (Below.heap_alloc _ _ _ h1))
        have hat7 : ∀ q, blk A7 = some q → w5.heap.size ≤ q := fun q h => by
          rcases hat7 with e | e
          · rw [e] at h; simp [blk] at h; omega
          · rw [e] at h; simp at h; omega
        have hg57 : Grow w5 w7 := ⟨hgb7.os, hgb7.tape, hgb7.output, by omega, hk7⟩
        have hg7 := Grow.trans hg5 hg57
        have hap7 : Hid (Apart w7 w.heap.size A7 (.slice A5 (Y ++ [(⟨Ap, P, cp⟩ : SB)]).length c5) (Y ++ [⟨Ap, P, cp⟩])) := hide (by
          intro z hz
          rcases List.mem_append.1 hz with h | h
          · refine (hap.out.keep (Ap' := A7) (v' := .slice A5 (Y ++ [(⟨Ap, P, cp⟩ : SB)]).length c5) (by omega) (fun q h1 _ h3 => (hk7 q (by omega)).trans (hk5 q h1 (by rw [blk_own] at h3; exact h3))) (fun q h => .inr (by have := hat7 q h; omega)) (fun q h => ?_)) z h
            rw [blk_own] at h ⊢
            rcases hat5 with e | e
            · rw [e] at h; exact .inl h
            · rw [e] at h; simp at h; exact .inr (by omega)
          · rw [List.mem_singleton.1 h]
            refine ⟨hP5.grow hg57, fun q hq => ?_⟩
            obtain ⟨h1, h2⟩ := hPb q hq
            refine ⟨h1, by omega, fun e => by have := hat7 q e; omega, fun e => ?_⟩
            rw [blk_own] at e
            rcases hat5 with e5 | e5
            · rw [e5] at e; exact hne.out q hq e
            · rw [e5] at e; simp at e; omega)
        have hne7 : Hid (∀ q, blk A7 = some q → blk A5 ≠ some q) := hide (fun q hq e => by have h1 := hat7 q hq; have h2 := hb5 q e; omega)
        have hv7 := hide (hown5.out.grow hg57)
        have ho7 := hide hown7
        generalize Y ++ [(⟨Ap, P, cp⟩ : SB)] = Y7 at *
        clear hgb7 hat7 hgb5 hat5 hown7 hk7 hk5 hap hne hP hP5 hPb hown5 hg57 hg5 hb5 hl7
        go_wp2
        go_roundw
        case rel => exact ⟨k + 1, Y7, A5, c5, A7, c7, [x], by omega, by go_num, by first | rfl | simp [hl5], by rfl, hv7, ho7, hap7, hne7, hF2, by omega, by simp, hg7⟩
        case measure => simp [intOf]; omega
      | false =>
        have hpsi : ((P.length : Int) == (s : Int)) = false := by simp at hps; simp; omega
        have hF2 : Hid ((Y.map (·.l), P ++ [x]) = splF s (l.take (k + 1))) := hide (by
          rw [hsn.out]
          unfold spl
          rw [if_neg (by simpa using hps)])
        clear hps hsn
        go_wp2_with (at_builtin; refine wpList_append_bytes byteT rfl (.tmp 28) (.tmp 33) rfl (hP.out.alloc _) (l2 := [x]) (Bytes.lit' _ _ rfl [x] #[.int .u8 (x.toNat : Int)] 5 (0, 0) rfl) rfl rfl (by simp; omega) (by simp; omega) ?_)
        intro A7 c7 l7 w7 hl7 hown7 hgb7 hat7
        have hPb := fun q h => And.intro (hP.out.base (q := q) h) (hP.out.lt (q := q) h)
        have hs7 : wr.heap.size + 1 ≤ w7.heap.size := by have := hgb7.size; simpa using this
        have hk7 : ∀ q, q < wr.heap.size → blk Ap ≠ some q → w7.heap[q]? = wr.heap[q]? := fun q h1 h2 => (hgb7.block q (by simp; omega) (fun e => h2 e.symm)).trans (Below.heap_alloc _ _ _ h1)
        have hat7 : ∀ q, blk A7 = some q → blk Ap = some q ∨ wr.heap.size ≤ q := fun q h => by
          rcases hat7 with e | e
          · rw [e] at h; exact .inl h
          · rw [e] at h; simp at h; exact .inr (by omega)
        have hg7 : Grow w w7 := ngrown (hgr.alloc _) hgb7 (fun q h => (hPb q h).1)
        have hap7 := hide (hap.out.keep (Ap' := A7) (v' := .slice Ao Y.length co) (by omega) (fun q h1 h2 _ => hk7 q h1 h2) hat7 (fun q h => .inl h))
        have hne7 : Hid (∀ q, blk A7 = some q → blk Ao ≠ some q) := hide (fun q hq e => by
          rcases hat7 q hq with h | h
          · exact hne.out q h e
          · have := hVb.out q e; omega)
        have hv7 := hide (hV.out.keep (w' := w7) (fun q hq => by
          rw [blk_own] at hq
          exact hk7 q (hVb.out q hq).2 (fun e => hne.out q e hq)))
        have ho7 := hide hown7
        have hl7n : l7.length = P.length + 1 := by rw [hl7.out]; simp
        rw [← hl7.out] at hF2
        clear hgb7 hat7 hown7 hk7 hap hne hP hPb hl7 hV
        go_wp2
        go_roundw
        case rel => exact ⟨k + 1, Y, Ao, co, A7, c7, l7, by omega, by go_num, rfl, by rfl, hv7, ho7, hap7, hne7, hF2, by omega, by omega, hg7⟩
        case measure => simp [intOf]; omega
    · obtain rfl : k = l.length := by omega
      clear hlt
      obtain ⟨_, _, _, hVb⟩ := OwnV.form hV.out
      have hVb : ∀ q, blk Ao = some q → w.heap.size ≤ q ∧ q < wr.heap.size := fun q hq => hVb q (by rw [blk_own]; exact hq)
      have hgs := hgr.size
      have hFF := hF.out
      rw [List.take_length] at hFF
      have hS : splitR s l = (Y ++ [(⟨Ap, P, cp⟩ : SB)]).map (·.l) := by
        unfold splitR
        rw [← hFF, List.map_append]
        rfl
      have hSl : (splitR s l).length = Y.length + 1 := by rw [hS]; simp
      have hS := hide hS
      have hSl := hide hSl
      clear hF hFF
      go_wp2_with (at_builtin; refine Hid.out (?_ : Hid _))
      refine hide ?_
      refine (wpList_append_own_at _ rfl (.tmp 35) (.tmp 37) _ rfl w.heap.size _ i0 _ 1 24 Try.underlying23 HI.out.1 HI.out.2.1 HI.out.2.2.1 HI.out.2.2.2 rfl (by omega) (.slice Ao Y.length co) Y.length (Y.map sbv) rfl (hV.out.grow ((Grow.refl _).alloc _)) ⟨wr.heap.size, 0, none⟩ 1 1 [.slice Ap P.length cp] rfl rfl (one_news ((Box.new wr #[.slice Ap P.length cp] 22 rfl).cell 0)) (by simp [Value.oneCell']) (by unfold maxLen; omega) (by omega) (by simp; omega) ?_)
      intro v' w5 hown5 hgb5 _ hat5
      have hown5' : OwnV w5 w.heap.size v' (Y ++ [⟨Ap, P, cp⟩]) := by
        unfold OwnV
        rw [List.length_append, List.map_append]
        exact hown5
      obtain ⟨A5, c5, rfl, _⟩ := OwnV.form hown5'
      rw [blk_own] at hgb5
      have hs5 : wr.heap.size + 1 ≤ w5.heap.size := by have := hgb5.size; simpa using this
      have hk5 : ∀ q, q < wr.heap.size → blk Ao ≠ some q → w5.heap[q]? = wr.heap[q]? := fun q h1 h2 => (hgb5.block q (by simp; omega) (fun e => h2 e.symm)).trans (Below.heap_alloc _ _ _ h1)
      have hg5 : Grow w w5 := ngrown (hgr.alloc _) hgb5 (fun q h => (hVb q h).1)
      have hsls : Sls w5 A5 (splitR s l) := by
        rw [hS.out]
        refine hown5'.sls (fun z hz => ?_)
        rcases List.mem_append.1 hz with h | h
        · obtain ⟨h1, h2⟩ := hap.out z h
          exact h1.keep (fun b o hA _ => by
            obtain ⟨_, h4, _, h6⟩ := h2 b (by rw [hA]; rfl)
            rw [blk_own] at h6
            exact hk5 b h4 h6)
        · rw [List.mem_singleton.1 h]
          exact hP.out.bytes.keep (fun b o hA hlt => hk5 b hlt (hne.out b (by rw [hA]; rfl)))
      have hl5 : (Y ++ [(⟨Ap, P, cp⟩ : SB)]).length = Y.length + 1 := by simp
      rw [hl5]
      have hsls := hide hsls
      clear hown5 hown5' hgb5 hat5 hl5
      go_wp2
      go_ret
      exact ⟨⟨A5, c5, by rw [hSl.out]; rfl, hsls.out⟩, hg5⟩
end Go.Proofs.Ytbccbfmgjeknhaa
