/- The plain law of PieceNotes (chapter 42). -/
import Derived.Test.YtbccbfmgjeknhaaNc
namespace Go.Proofs.Ytbccbfmgjeknhaa
open Go.RowKit
/-- a list of packets as parts -/
def Lk (L : List PB) : List (Nat × List UInt8) := L.map (fun x => (x.p.index.toNat, x.l))
structure GoodL (L : List PB) : Prop where
  each : ∀ x, x ∈ L → chunkB x.p x.l.length = true ∧ x.p.no = (hdP L).no ∧ x.p.total = (hdP L).total
  apart : L.Pairwise (fun x y => x.p.index ≠ y.p.index)
theorem hdP_app (L : List PB) (q : PB) (h : L ≠ []) : hdP (L ++ [q]) = hdP L := by
  cases L with
  | nil => exact absurd rfl h
  | cons x L => rfl
theorem Lk_any (L : List PB) (h : ∀ x, x ∈ L → chunkB x.p x.l.length = true) (j : Nat) : (Lk L).any (fun x => x.1 == j) = L.any (fun x => x.p.index == (j : Int)) := by
  unfold Lk
  rw [List.any_map]
  induction L with
  | nil => rfl
  | cons x L ih =>
    rw [List.any_cons, List.any_cons, ih (fun y hy => h y (by simp [hy]))]
    congr 1
    have := (chunkB_index x.p _ (h x (by simp))).1
    rw [Bool.eq_iff_iff]
    simp
    omega
theorem Lk_anyq (L : List PB) (h : ∀ x, x ∈ L → chunkB x.p x.l.length = true) (i : Int) (hi : 0 ≤ i) : (Lk L).any (fun x => x.1 == i.toNat) = L.any (fun x => x.p.index == i) := by
  rw [Lk_any L h]
  rw [show ((i.toNat : Nat) : Int) = i by omega]
theorem GoodL.nil : GoodL [] := ⟨by simp, List.Pairwise.nil⟩
theorem note_law (sf no tot : Int) (L : List PB) (q : PB) (hL : GoodL L) (hst : L ≠ [] → no = (hdP L).no ∧ tot = (hdP L).total) :
    pcheck sf no tot (Lk L) q.p q.l.length = (rnote sf L q).2 ∧ ((rnote sf L q).2 ≠ 0 → (rnote sf L q).1 = L) ∧
      ((rnote sf L q).2 = 0 → GoodL (rnote sf L q).1 ∧ (rnote sf L q).1 ≠ [] ∧ Lk (rnote sf L q).1 = (if q.p.no = no then Lk L else []) ++ [(q.p.index.toNat, q.l)] ∧ (hdP (rnote sf L q).1).no = q.p.no ∧ (hdP (rnote sf L q).1).total = q.p.total ∧ (rnote sf L q).1.length ≤ L.length + 1) := by
  unfold pcheck rnote
  by_cases hc : chunkB q.p q.l.length = false
  · rw [if_pos hc, if_pos hc]
    exact ⟨rfl, fun _ => rfl, fun h => by cases h⟩
  · rw [if_neg hc, if_neg hc]
    have hc : chunkB q.p q.l.length = true := by simpa using hc
    have hi := (chunkB_index q.p _ hc).1
    by_cases ht : q.p.to ≠ sf
    · rw [if_pos ht, if_pos ht]
      exact ⟨rfl, fun _ => rfl, fun h => by cases h⟩
    · rw [if_neg ht, if_neg ht]
      have hq1 : GoodL [q] := ⟨by simp [hdP, hc], List.pairwise_singleton _ _⟩
      by_cases hn : L = []
      · subst hn
        rw [if_pos (.inl rfl), if_neg (by simp), if_neg (by simp), if_neg (by simp), if_neg (by simp)]
        exact ⟨rfl, fun h => absurd rfl h, fun _ => ⟨hq1, by simp, by simp [Lk], rfl, rfl, by simp⟩⟩
      · obtain ⟨e1, e2⟩ := hst hn
        have hLk : Lk L ≠ [] := by simpa [Lk] using hn
        subst e1 e2
        by_cases h11 : q.p.no < (hdP L).no
        · rw [if_neg (by rintro (h | h); exact hLk h; omega), if_pos h11, if_pos ⟨hn, h11⟩]
          exact ⟨rfl, fun _ => rfl, fun h => by cases h⟩
        · by_cases hgt : (hdP L).no < q.p.no
          · rw [if_pos (.inr hgt), if_neg (show ¬ (L ≠ [] ∧ q.p.no < (hdP L).no) from fun h => h11 h.2), if_neg (show ¬ (L ≠ [] ∧ q.p.no = (hdP L).no ∧ q.p.total ≠ (hdP L).total) from fun h => by have := h.2.1; omega), if_pos ⟨hn, hgt⟩]
            exact ⟨rfl, fun h => absurd rfl h, fun _ => ⟨hq1, by simp, by rw [if_neg (by omega)]; simp [Lk], rfl, rfl, by simp⟩⟩
          · have heq : q.p.no = (hdP L).no := by omega
            rw [if_neg (by rintro (h | h); exact hLk h; omega), if_neg h11, if_neg (show ¬ (L ≠ [] ∧ q.p.no < (hdP L).no) from fun h => h11 h.2)]
            by_cases h5 : q.p.total ≠ (hdP L).total
            · rw [if_pos h5, if_pos ⟨hn, heq, h5⟩]
              exact ⟨rfl, fun _ => rfl, fun h => by cases h⟩
            · rw [if_neg h5, if_neg (show ¬ (L ≠ [] ∧ q.p.no = (hdP L).no ∧ q.p.total ≠ (hdP L).total) from fun h => h5 h.2.2), if_neg (show ¬ (L ≠ [] ∧ (hdP L).no < q.p.no) from fun h => hgt h.2), Lk_anyq L (fun x hx => (hL.each x hx).1) _ hi]
              by_cases h12 : L.any (fun x => x.p.index == q.p.index) = true
              · rw [if_pos h12, if_pos h12]
                exact ⟨rfl, fun _ => rfl, fun h => by cases h⟩
              · rw [if_neg h12, if_neg h12]
                have h5 : q.p.total = (hdP L).total := by simpa using h5
                refine ⟨rfl, fun h => absurd rfl h, fun _ => ⟨⟨fun x hx => ?_, ?_⟩, by simp, by rw [if_pos heq]; simp [Lk], by rw [hdP_app L q hn]; exact heq.symm, by rw [hdP_app L q hn]; exact h5.symm, by simp⟩⟩
                · rw [hdP_app L q hn]
                  rcases List.mem_append.1 hx with h | h
                  · exact hL.each x h
                  · rw [List.mem_singleton.1 h]; exact ⟨hc, heq, h5⟩
                · rw [List.pairwise_append]
                  refine ⟨hL.apart, List.pairwise_singleton _ _, fun x hx y hy e => ?_⟩
                  rw [List.mem_singleton.1 hy] at e
                  exact h12 (List.any_eq_true.2 ⟨x, hx, by simpa using e⟩)
theorem miss_same (L : List PB) (h : ∀ x, x ∈ L → chunkB x.p x.l.length = true) (T : Nat) : missL (Lk L) T = missR L T := by
  unfold missL missR
  congr 1
  funext j
  rw [Lk_any L h]
theorem count_cons' (K : List Nat) (k : Nat) (hk : K.contains k = false) : ∀ n, (List.range n).countP (fun j => (k :: K).contains j) = (List.range n).countP (fun j => K.contains j) + (if k < n then 1 else 0)
  | 0 => by simp
  | n + 1 => by
    have ih := count_cons' K k hk n
    rw [List.range_succ, List.countP_append, List.countP_append, ih]
    simp only [List.countP_cons, List.countP_nil, List.contains_cons]
    by_cases hn : n = k
    · subst hn
      rw [hk]
      simp
    · have : (n == k) = false := by simpa using hn
      rw [this, Bool.false_or]
      by_cases h1 : k < n
      · rw [if_pos h1, if_pos (show k < n + 1 by omega)]; omega
      · rw [if_neg h1, if_neg (show ¬ k < n + 1 by omega)]; omega
theorem count_all (K : List Nat) (T : Nat) (hK : K.Pairwise (· ≠ ·)) (hT : ∀ k, k ∈ K → k < T) : (List.range T).countP (fun j => K.contains j) = K.length := by
  induction K with
  | nil => simp
  | cons k K ih =>
    rw [List.pairwise_cons] at hK
    rw [count_cons' K k (by simp; exact fun h => hK.1 k h rfl), ih hK.2 (fun j hj => hT j (by simp [hj])), if_pos (hT k (by simp)), List.length_cons]
theorem part_rw (L : List PB) (h : ∀ x, x ∈ L → chunkB x.p x.l.length = true) (hp : L.Pairwise (fun x y => x.p.index ≠ y.p.index)) (k : Nat) : part (Lk L) k = rwT L k L.length := by
  unfold rwT
  rw [List.take_length]
  induction L with
  | nil => rfl
  | cons x L ih =>
    rw [List.pairwise_cons] at hp
    have h0 := (chunkB_index x.p _ (h x (by simp))).1
    have ih := ih (fun y hy => h y (by simp [hy])) hp.2
    unfold part Lk at ih ⊢
    rw [List.map_cons, List.find?_cons, List.filter_cons]
    by_cases hk : x.p.index = (k : Int)
    · have e1 : (x.p.index.toNat == k) = true := by simp; omega
      have e2 : (x.p.index == (k : Int)) = true := by simpa using hk
      rw [e1, e2]
      have hnone : L.filter (fun y => y.p.index == (k : Int)) = [] := by
        rw [List.filter_eq_nil_iff]
        intro y hy e
        exact hp.1 y hy (by rw [hk]; exact (by simpa using e : y.p.index = (k : Int)).symm)
      simp [hnone]
    · have e1 : (x.p.index.toNat == k) = false := by simp; omega
      have e2 : (x.p.index == (k : Int)) = false := by simpa using hk
      rw [e1, e2]
      simpa using ih
theorem whole_law (L : List PB) (hL : GoodL L) (hn : L ≠ []) (T : Nat) (hT : (hdP L).total = (T : Int)) : wholeR (Lk L) T = if missR L T = [] then (rwB L T, true) else ([], false) := by
  have hch := fun x hx => (hL.each x hx).1
  have hpos : 0 < L.length := List.length_pos_iff.2 hn
  have hKl : (L.map fun x => x.p.index.toNat).length = L.length := by simp
  have hcnt := count_all (L.map fun x => x.p.index.toNat) T (by
    rw [List.pairwise_map]
    refine List.Pairwise.imp_of_mem ?_ hL.apart
    intro x y hx hy hne e
    have h1 := (chunkB_index x.p _ (hch x hx)).1
    have h2 := (chunkB_index y.p _ (hch y hy)).1
    exact hne (by omega)) (by
    intro k hk
    obtain ⟨x, hx, rfl⟩ := List.mem_map.1 hk
    have h1 := chunkB_index x.p _ (hch x hx)
    have h2 := (hL.each x hx).2.2
    omega)
  rw [hKl] at hcnt
  have hpred : ∀ j : Nat, (L.map fun x => x.p.index.toNat).contains j = L.any (fun x => x.p.index == (j : Int)) := by
    intro j
    rw [← Lk_any L hch j]
    unfold Lk
    rw [List.any_map, Bool.eq_iff_iff, List.contains_iff_mem, List.any_eq_true]
    simp
  simp only [hpred] at hcnt
  have hml : (missR L T).length + L.length = T := by
    unfold missR
    rw [← hcnt, ← List.countP_eq_length_filter]
    have := List.length_eq_countP_add_countP (l := List.range T) (fun j : Nat => L.any (fun x => x.p.index == (j : Int)))
    rw [List.length_range] at this
    have e : (fun j : Nat => !(L.any fun x => x.p.index == (j : Int))) = (fun j : Nat => decide ¬ (L.any (fun x => x.p.index == (j : Int)) = true)) := by
      funext j
      cases L.any (fun x => x.p.index == (j : Int)) <;> simp
    rw [e]
    omega
  have hlk : (Lk L).length = L.length := by simp [Lk]
  unfold wholeR
  rw [hlk]
  by_cases hm : missR L T = []
  · rw [hm] at hml
    rw [if_neg (by simp at hml; omega), if_pos hm]
    congr 1
    unfold parts rwB
    rw [← List.flatMap_def]
    congr 1
    funext k
    exact part_rw L hch hL.apart k
  · have : 0 < (missR L T).length := List.length_pos_iff.2 hm
    rw [if_pos (.inr (by omega)), if_neg hm]
/-- cells tell blocks apart -/
theorem Pc.apart_cell {w : World} {N p m : Nat} {sf no tot : Int} {X : List PE} (h : Pc w N p m sf no tot X) {b o : Nat} {v : Value} (hc : w.cell? ⟨b, o, none⟩ = some v) : b ≠ m ∧ (b = p → ∃ i, o = i ∧ (pcc sf no tot m)[i]? = some v) := by
  constructor
  · rintro rfl
    obtain ⟨es, clock, hb, _⟩ := h.map
    simp [World.cell?, hb] at hc
  · rintro rfl
    exact ⟨o, rfl, by rw [← hc, h.box.cell o]⟩
theorem Pc.apart_bytes {w : World} {N p m : Nat} {sf no tot : Int} {X : List PE} (h : Pc w N p m sf no tot X) {A : Option Addr} {l : List UInt8} (hb : Bytes w A l) (hne : l ≠ []) (q : Nat) (hq : blk A = some q) : q ≠ p ∧ q ≠ m := by
  obtain ⟨b, o, rfl, hc⟩ := hb hne
  have e : b = q := by simpa [blk] using hq
  subst e
  have h0 := hc 0 (List.length_pos_iff.2 hne)
  obtain ⟨h1, h2⟩ := h.apart_cell h0
  refine ⟨fun e => ?_, h1⟩
  obtain ⟨i, _, hi⟩ := h2 e
  match i, hi with
  | 0, hi => simp at hi
  | 1, hi => simp at hi
  | 2, hi => simp at hi
  | 3, hi => simp at hi
  | i + 4, hi => simp at hi
theorem Pc.apart_pks {w : World} {N p m : Nat} {sf no tot : Int} {X : List PE} (h : Pc w N p m sf no tot X) {b o : Nat} {x : PB} (hc : ∀ i, i < 12 → w.cell? ⟨b, o + i, none⟩ = (pbc x)[i]?) : b ≠ p ∧ b ≠ m := by
  have h0 := hc 4 (by omega)
  simp at h0
  obtain ⟨h1, h2⟩ := h.apart_cell h0
  refine ⟨fun e => ?_, h1⟩
  obtain ⟨i, e2, hi⟩ := h2 e
  have : i < 4 := by
    have := (Array.getElem?_eq_some_iff.1 hi).1
    simpa using this
  omega
theorem Pks.keptPc {w w' : World} {N p m : Nat} {sf no tot : Int} {X : List PE} {A : Option Addr} {L : List PB} (h : Pks w A L) (hp : Pc w N p m sf no tot X) (hk : Kept w.heap.size [p, m] w w') : Pks w' A L := by
  intro hne
  obtain ⟨b, o, rfl, hc⟩ := h hne
  refine ⟨b, o, rfl, fun k hkl => ?_⟩
  obtain ⟨h1, h2⟩ := hc k hkl
  have hap := hp.apart_pks (b := b) (o := o + k * 12) (x := L[k]) h1
  have hlt : b < w.heap.size := World.block_lt_of_cell? w _ (h1 0 (by omega))
  have hb := hk.block b hlt (by simp; omega)
  refine ⟨fun i hi => (World.cell?_of_block (w := w) hb).trans (h1 i hi), h2.keptS hk (fun hl q hq => by have := hp.apart_bytes h2 hl q hq; simp; omega)⟩
end Go.Proofs.Ytbccbfmgjeknhaa
