/- Piece.Whole (chapter 42). -/
import Derived.Test.YtbccbfmgjeknhaaPe
namespace Go.Proofs.Ytbccbfmgjeknhaa
open Go.RowKit
/-- the part k, or none -/
def pe (X : List PE) (k : Nat) : PE := (X.find? (fun x => x.k == k)).getD ⟨k, none, [], 0⟩
def part (L : List (Nat × List UInt8)) (k : Nat) : List UInt8 := ((L.find? (fun x => x.1 == k)).map (·.2)).getD []
theorem pe_part (X : List PE) (k : Nat) : (pe X k).l = part (X.map kl) k := by
  unfold pe part
  induction X with
  | nil => rfl
  | cons x X ih =>
    rw [List.map_cons, List.find?_cons, List.find?_cons]
    by_cases h : x.k = k
    · simp [h]
    · have : (x.k == k) = false := by simpa using h
      simp only [this]
      exact ih
theorem pe_keyed (X : List PE) (k : Nat) : (keyed (X.map ent) k).getD (.slice none 0 0) = .slice (pe X k).A (pe X k).l.length (pe X k).c := by
  unfold pe keyed
  induction X with
  | nil => rfl
  | cons x X ih =>
    rw [List.map_cons, List.find?_cons, List.find?_cons]
    by_cases h : x.k = k
    · simp [h]
    · have : (x.k == k) = false := by simpa using h
      simp only [this]
      exact ih
theorem pe_bytes {w : World} {N p m : Nat} {sf no tot : Int} {X : List PE} (h : Pc w N p m sf no tot X) (k : Nat) : Bytes w (pe X k).A (pe X k).l := by
  unfold pe
  cases hf : X.find? (fun x => x.k == k) with
  | none => exact Bytes.nil _ _
  | some x => exact (h.own x (List.mem_of_find?_eq_some hf)).1
theorem part_len {L : List (Nat × List UInt8)} (h : ∀ x, x ∈ L → x.2.length ≤ 1000) (k : Nat) : (part L k).length ≤ 1000 := by
  unfold part
  cases hf : L.find? (fun x => x.1 == k) with
  | none => simp
  | some x => exact h x (List.mem_of_find?_eq_some hf)
def parts (L : List (Nat × List UInt8)) (T : Nat) : List (List UInt8) := (List.range T).map (part L)
theorem parts_len (L : List (Nat × List UInt8)) (T : Nat) : (parts L T).length = T := by simp [parts]
theorem parts_flat {L : List (Nat × List UInt8)} (h : ∀ x, x ∈ L → x.2.length ≤ 1000) : ∀ T, (parts L T).flatten.length ≤ 1000 * T
  | 0 => by simp [parts]
  | T + 1 => by
    have h1 := parts_flat h T
    have h2 := part_len h T
    have e : parts L (T + 1) = parts L T ++ [part L T] := by simp [parts, List.range_succ]
    rw [e, List.flatten_append, List.length_append]
    simp only [List.flatten_cons, List.flatten_nil, List.append_nil]
    omega
/-- all of them together -/
def wholeR (L : List (Nat × List UInt8)) (T : Nat) : List UInt8 × Bool := if L.length = 0 ∨ L.length < T then ([], false) else ((parts L T).flatten, true)
/-- slices of bytes in a row -/
abbrev pev (X : List PE) (k : Nat) : Value := .slice (pe X k).A (pe X k).l.length (pe X k).c
abbrev OwnS (w : World) (base : Nat) (v : Value) (X : List PE) (k : Nat) : Prop := w.ownsRow base 22 1 v k ((List.range k).map (pev X))
theorem OwnS.sls {w : World} {base k n c : Nat} {A : Option Addr} {X : List PE} (h : OwnS w base (.slice A n c) X k) (hb : ∀ j, Bytes w (pe X j).A (pe X j).l) : Sls w A (parts (X.map kl) k) := by
  intro hne
  obtain ⟨h0, ⟨he, h1⟩ | ⟨g, cap, cur, he, hbb, hg, h1, h2, h3, h4⟩⟩ := h
  · subst h1
    exact absurd rfl hne
  · obtain ⟨rfl, _, _⟩ : A = some ⟨g, 0, none⟩ ∧ n = k ∧ c = cap := by simpa using he
    refine ⟨g, 0, rfl, fun j hj => ?_⟩
    have hj' : j < k := by rw [parts_len] at hj; exact hj
    have e : (parts (X.map kl) k)[j] = (pe X j).l := by rw [pe_part]; simp [parts]
    rw [e]
    refine ⟨(pe X j).A, (pe X j).c, ?_, hb j⟩
    rw [Nat.zero_add, cell_of_row w g _ _ _ (0, 0) hg]
    have h5 : (cur.toList.take (k * 1))[j]? = ((List.range k).map (pev X))[j]? := by rw [h4]
    rw [List.getElem?_take_of_lt (by omega), List.getElem?_map, List.getElem?_range hj'] at h5
    simpa using h5
theorem OwnS.form {w : World} {base k : Nat} {v : Value} {X : List PE} (h : OwnS w base v X k) : ∃ A c, v = .slice A k c ∧ ∀ q, v.ownBlock = some q → base ≤ q ∧ q < w.heap.size := by
  obtain ⟨h0, ⟨rfl, h1⟩ | ⟨g, cap, cur, rfl, hb, hg, h1, h2, h3, h4⟩⟩ := h
  · subst h1
    exact ⟨none, 0, rfl, fun q hq => by simp [Value.ownBlock] at hq⟩
  · refine ⟨_, cap, rfl, fun q hq => ?_⟩
    have : g = q := by simpa [Value.ownBlock] using hq
    subst this
    exact ⟨hb, (Array.getElem?_eq_some_iff.1 hg).1⟩
theorem OwnS.grow {w w' : World} {base k : Nat} {v : Value} {X : List PE} (h : OwnS w base v X k) (hg : Grow w w') : OwnS w' base v X k := by
  obtain ⟨h0, h1 | ⟨g, cap, cur, rfl, hbb, hgg, h1, h2, h3, h4⟩⟩ := h
  · exact ⟨h0, .inl h1⟩
  · exact ⟨h0, .inr ⟨g, cap, cur, rfl, hbb, (hg.block g (Array.getElem?_eq_some_iff.1 hgg).1).trans hgg, h1, h2, h3, h4⟩⟩
theorem slInfo : (Try.prog.info? 22).map (fun i => (i.zero, i.size, i.bytes)) = some (some (.slice none 0 0), 1, 24) := by kernel_rfl
set_option maxRecDepth 100000 in
set_option maxHeartbeats 2000000 in
theorem pwhole_any {N p m T : Nat} {sf no : Int} {X : List PE} (w : World) (h : Pc w N p m sf no (T : Int) X) (hT : T ≤ 255) (hX : ∀ x, x ∈ X.map kl → x.2.length ≤ 1000) :
    Calls Try.prog 27 #[.pointer (some ⟨p, 0, none⟩)] w fun r w' => (∃ A c, r = .returned (.tuple #[.slice A (wholeR (X.map kl) T).1.length c, .bool (wholeR (X.map kl) T).2]) ∧ Own w' w.heap.size A c (wholeR (X.map kl) T).1) ∧ Grow w w' := by
  have hS := hide (fun W (g : Grow w W) => psome_any W (h.grow g))
  have hM := hide (fun W (g : Grow w W) => h.map.grow g)
  have hB := hide (fun W (g : Grow w W) => (h.box.grow g).cell)
  have hby := hide (fun j => pe_bytes h j)
  have hfl := parts_flat hX T
  have hW := hide (show wholeR (X.map kl) T = if (X.map kl).length = 0 ∨ (X.map kl).length < T then ([], false) else ((parts (X.map kl) T).flatten, true) from rfl)
  have hlk := hide (show (X.map kl).length = X.length by simp)
  rw [hlk.out] at hW
  clear h hX
  generalize wholeR (X.map kl) T = R at *
  cases hE : X.isEmpty with
  | true =>
    rw [hE] at hS
    have hW2 := hide (hW.out.trans (if_pos (.inl (by cases X <;> simp_all))))
    clear hE
    go_enter Try.func27, Try.ntmps27
    go_wp2_with fail
    refine wpR_region (Grow) [] (by kernel_rfl) ?_
    refine wpR_take grow_rf grow_tr 0 rfl (by kernel_rfl) (fun _ _ _ h => h) rfl (v := ?_) ?_ ?_
    rotate_left
    · (intro w' hG; go_simp; try with_reducible rfl)
    try simp only [Act.put, List.setIfInBounds_toArray, List.set_cons_zero, List.set_cons_succ]
    refine wpR_call 1 rfl (by kernel_rfl) rfl fun K hK => ?_
    go_simp
    refine (hS.out _ (Grow.refl w).drew).mono ?_
    rintro r w3 ⟨rfl, rfl⟩
    refine hK.out _ _ (.inr (Grow.refl _)) ?_
    clear hK
    try simp only [Act.put, List.setIfInBounds_toArray, List.set_cons_zero, List.set_cons_succ]
    refine wpR_take grow_rf grow_tr 2 rfl (by kernel_rfl) (fun _ _ _ h => h) rfl (v := ?_) ?_ ?_
    rotate_left
    · (intro w' hG; go_simp; try with_reducible rfl)
    try simp only [Act.put, List.setIfInBounds_toArray, List.set_cons_zero, List.set_cons_succ]
    refine wpR_take grow_rf grow_tr 3 rfl (by kernel_rfl) (fun _ _ _ h => h) rfl (v := ?_) ?_ ?_
    rotate_left
    · (intro w' hG; go_simp; try with_reducible rfl)
    try simp only [Act.put, List.setIfInBounds_toArray, List.set_cons_zero, List.set_cons_succ]
    refine wpR_skip grow_rf grow_tr 4 rfl (by kernel_rfl) (fun _ _ _ h => h) rfl ?_
    try simp only [Act.put, List.setIfInBounds_toArray, List.set_cons_zero, List.set_cons_succ]
    refine wpR_skip grow_rf grow_tr 5 rfl (by kernel_rfl) (fun _ _ _ h => h) rfl ?_
    try simp only [Act.put, List.setIfInBounds_toArray, List.set_cons_zero, List.set_cons_succ]
    refine wpR_skip grow_rf grow_tr 6 rfl (by kernel_rfl) (fun _ _ _ h => h) rfl ?_
    try simp only [Act.put, List.setIfInBounds_toArray, List.set_cons_zero, List.set_cons_succ]
    refine wpR_skip grow_rf grow_tr 7 rfl (by kernel_rfl) (fun _ _ _ h => h) rfl ?_
    try simp only [Act.put, List.setIfInBounds_toArray, List.set_cons_zero, List.set_cons_succ]
    refine wpR_skip grow_rf grow_tr 8 rfl (by kernel_rfl) (fun _ _ _ h => h) rfl ?_
    try simp only [Act.put, List.setIfInBounds_toArray, List.set_cons_zero, List.set_cons_succ]
    refine wpR_skip grow_rf grow_tr 9 rfl (by kernel_rfl) (fun _ _ _ h => h) rfl ?_
    try simp only [Act.put, List.setIfInBounds_toArray, List.set_cons_zero, List.set_cons_succ]
    refine wpR_skip grow_rf grow_tr 10 rfl (by kernel_rfl) (fun _ _ _ h => h) rfl ?_
    try simp only [Act.put, List.setIfInBounds_toArray, List.set_cons_zero, List.set_cons_succ]
    refine wpR_skip grow_rf grow_tr 11 rfl (by kernel_rfl) (fun _ _ _ h => h) rfl ?_
    try simp only [Act.put, List.setIfInBounds_toArray, List.set_cons_zero, List.set_cons_succ]
    refine wpR_skip grow_rf grow_tr 12 rfl (by kernel_rfl) (fun _ _ _ h => h) rfl ?_
    try simp only [Act.put, List.setIfInBounds_toArray, List.set_cons_zero, List.set_cons_succ]
    refine wpR_skip grow_rf grow_tr 13 rfl (by kernel_rfl) (fun _ _ _ h => h) rfl ?_
    try simp only [Act.put, List.setIfInBounds_toArray, List.set_cons_zero, List.set_cons_succ]
    refine wpR_take grow_rf grow_tr 14 rfl (by kernel_rfl) (fun _ _ _ h => h) rfl (v := ?_) ?_ ?_
    rotate_left
    · (intro w' hG; go_simp; try with_reducible rfl)
    try simp only [Act.put, List.setIfInBounds_toArray, List.set_cons_zero, List.set_cons_succ]
    refine wpR_done (by kernel_rfl) ?_ _
    have hR := hW2.out
    subst hR
    clear hW hW2
    go_wp2
    refine bodyPost_ret (results_tmp2 rfl _ _ _) rfl ?_
    exact ⟨⟨none, 0, rfl, Own.nil_ _ _⟩, (Grow.refl w).drew⟩
  | false =>
    rw [hE, Bool.not_false] at hS
    have hXl : 0 < X.length := by cases X <;> simp_all
    clear hE
    have hXl0 := hide hXl
    clear hXl
    have hJ := hide (fun B c W (h : Sls W B (parts (X.map kl) T)) => join_any B (parts (X.map kl) T) c W h (by rw [parts_len]; omega) (by omega))
    simp only [parts_len] at hJ
    generalize hFd : (parts (X.map kl) T).flatten = F at *
    clear hFd hfl
    have hlen := fun (W : World) (h : Grow w.drew W) => run_lenI (P := Try.prog) (hM.out W (Grow.of_drew h)) Try.underlying101 3
    rw [show (X.map ent).length = X.length by simp] at hlen
    have Rp := fun (W : World) (h : Grow w.drew W) => hB.out W (Grow.of_drew h)
    generalize X.length = n at *
    go_enter Try.func27, Try.ntmps27
    go_wp2_with fail
    refine wpR_region (Grow) [] (by kernel_rfl) ?_
    refine wpR_take grow_rf grow_tr 0 rfl (by kernel_rfl) (fun _ _ _ h => h) rfl (v := ?_) ?_ ?_
    rotate_left
    · (intro w' hG; go_simp; try with_reducible rfl)
    try simp only [Act.put, List.setIfInBounds_toArray, List.set_cons_zero, List.set_cons_succ]
    refine wpR_call 1 rfl (by kernel_rfl) rfl fun K hK => ?_
    go_simp
    refine (hS.out _ (Grow.refl w).drew).mono ?_
    rintro r w3 ⟨rfl, rfl⟩
    refine hK.out _ _ (.inr (Grow.refl _)) ?_
    clear hK
    try simp only [Act.put, List.setIfInBounds_toArray, List.set_cons_zero, List.set_cons_succ]
    refine wpR_take grow_rf grow_tr 2 rfl (by kernel_rfl) (fun _ _ _ h => h) rfl (v := ?_) ?_ ?_
    rotate_left
    · (intro w' hG; go_simp; try with_reducible rfl)
    try simp only [Act.put, List.setIfInBounds_toArray, List.set_cons_zero, List.set_cons_succ]
    refine wpR_take grow_rf grow_tr 3 rfl (by kernel_rfl) (fun _ _ _ h => h) rfl (v := ?_) ?_ ?_
    rotate_left
    · (intro w' hG; go_simp; try with_reducible rfl)
    try simp only [Act.put, List.setIfInBounds_toArray, List.set_cons_zero, List.set_cons_succ]
    refine wpR_take grow_rf grow_tr 4 rfl (by kernel_rfl) (fun _ _ _ h => h) rfl (v := ?_) ?_ ?_
    rotate_left
    · (intro w' hG; go_simp; try with_reducible rfl)
    try simp only [Act.put, List.setIfInBounds_toArray, List.set_cons_zero, List.set_cons_succ]
    refine wpR_take grow_rf grow_tr 5 rfl (by kernel_rfl) (fun _ _ _ h => h) rfl (v := ?_) ?_ ?_
    rotate_left
    · (intro w' hG; go_simp; try with_reducible rfl)
    try simp only [Act.put, List.setIfInBounds_toArray, List.set_cons_zero, List.set_cons_succ]
    refine wpR_take grow_rf grow_tr 6 rfl (by kernel_rfl) (fun _ _ _ h => h) rfl (v := ?_) ?_ ?_
    rotate_left
    · (intro w' hG; go_simp; try with_reducible rfl)
    try simp only [Act.put, List.setIfInBounds_toArray, List.set_cons_zero, List.set_cons_succ]
    refine wpR_take grow_rf grow_tr 7 rfl (by kernel_rfl) (fun _ _ _ h => h) rfl (v := ?_) ?_ ?_
    rotate_left
    · (intro w' hG; go_simp; try with_reducible rfl)
    try simp only [Act.put, List.setIfInBounds_toArray, List.set_cons_zero, List.set_cons_succ]
    refine wpR_take grow_rf grow_tr 8 rfl (by kernel_rfl) (fun _ _ _ h => h) rfl (v := ?_) ?_ ?_
    rotate_left
    · (intro w' hG; go_simp; try with_reducible rfl)
    try simp only [Act.put, List.setIfInBounds_toArray, List.set_cons_zero, List.set_cons_succ]
    refine wpR_take grow_rf grow_tr 9 rfl (by kernel_rfl) (fun _ _ _ h => h) rfl (v := ?_) ?_ ?_
    rotate_left
    · (intro w' hG; go_simp; try with_reducible rfl)
    try simp only [Act.put, List.setIfInBounds_toArray, List.set_cons_zero, List.set_cons_succ]
    refine wpR_take grow_rf grow_tr 10 rfl (by kernel_rfl) (fun _ _ _ h => h) rfl (v := ?_) ?_ ?_
    rotate_left
    · (intro w' hG; go_simp; try with_reducible rfl)
    try simp only [Act.put, List.setIfInBounds_toArray, List.set_cons_zero, List.set_cons_succ]
    refine wpR_take grow_rf grow_tr 11 rfl (by kernel_rfl) (fun _ _ _ h => h) rfl (v := ?_) ?_ ?_
    rotate_left
    · (intro w' hG; go_simp; try with_reducible rfl)
    try simp only [Act.put, List.setIfInBounds_toArray, List.set_cons_zero, List.set_cons_succ]
    refine wpR_take grow_rf grow_tr 12 rfl (by kernel_rfl) (fun _ _ _ h => h) rfl (v := ?_) ?_ ?_
    rotate_left
    · (intro w' hG; go_simp; try with_reducible rfl)
    try simp only [Act.put, List.setIfInBounds_toArray, List.set_cons_zero, List.set_cons_succ]
    refine wpR_take grow_rf grow_tr 13 rfl (by kernel_rfl) (fun _ _ _ h => h) rfl (v := ?_) ?_ ?_
    rotate_left
    · (intro w' hG; go_simp; try with_reducible rfl)
    try simp only [Act.put, List.setIfInBounds_toArray, List.set_cons_zero, List.set_cons_succ]
    refine wpR_take grow_rf grow_tr 14 rfl (by kernel_rfl) (fun _ _ _ h => h) rfl (v := ?_) ?_ ?_
    rotate_left
    · (intro w' hG; go_simp; try with_reducible rfl)
    try simp only [Act.put, List.setIfInBounds_toArray, List.set_cons_zero, List.set_cons_succ]
    refine wpR_done (by kernel_rfl) ?_ _
    have hg1 : Grow w w.drew := (Grow.refl w).drew
    clear hlen Rp
    by_cases hnT : n < T
    · have hR := hW.out.trans (if_pos (.inr hnT))
      subst hR
      clear hW
      go_wp2
      refine bodyPost_ret (results_tmp2 rfl _ _ _) rfl ?_
      exact ⟨⟨none, 0, rfl, Own.nil_ _ _⟩, hg1⟩
    · have hR := hW.out.trans (if_neg (by have := hXl0.out; omega))
      subst hR
      clear hW
      simp only [hnT, decide_false]
      clear hnT
      obtain ⟨i0, hi0, hz0, hs0, hb0⟩ := info_parts slInfo
      have HI := hide (And.intro hi0 (And.intro hz0 (And.intro hs0 hb0)))
      clear hi0 hz0 hs0 hb0
      have hc := hB.out _ hg1
      have hn0 := hide (show OwnS w.drew w.heap.size (.slice none 0 0) X 0 from World.ownsRow_nil _ _ _ _)
      generalize w.drew = w1 at *
      go_wp2
      clear hc
      go_loopw [4, 25] (fun v i wr => ∃ (k : Nat) (A : Option Addr) (c : Nat), k ≤ T ∧ i = .int .i64 k ∧ v = .slice A k c ∧ Hid (OwnS wr w.heap.size (.slice A k c) X k) ∧ Grow w wr) (fun _ i _ => T - (intOf i).toNat)
      case atStart => exact ⟨0, none, 0, by omega, rfl, rfl, hn0, hg1⟩
      case round =>
        clear hn0 hg1
        obtain ⟨k, A, c, hk, rfl, rfl, hown, hgr⟩ := hrel
        by_cases hlt : k < T
        · have hlti : (k : Int) < (T : Int) := by omega
          have hc := hB.out wr hgr
          have hL := run_lookI (P := Try.prog) (hM.out wr hgr) Try.underlying101 Try.underlying3 (zeroSl wr) k false
          rw [pe_keyed] at hL
          have hV : Hid ((List.range (k + 1)).map (pev X) = (List.range k).map (pev X) ++ [.slice (pe X k).A (pe X k).l.length (pe X k).c]) := hide (by rw [List.range_succ, List.map_append]; rfl)
          generalize (pe X k) = x at *
          go_wp2_with (at_builtin; refine Hid.out (?_ : Hid _))
          refine hide ?_
          refine (wpList_append_own _ rfl (.tmp 28) (.tmp 35) _ rfl w.heap.size _ i0 _ 1 24 Try.underlying23 HI.out.1 HI.out.2.1 HI.out.2.2.1 HI.out.2.2.2 rfl (by omega) (.slice A k c) k ((List.range k).map (pev X)) rfl (hown.out.grow ((Grow.refl _).alloc _)) ⟨wr.heap.size, 0, none⟩ 1 1 [.slice x.A x.l.length x.c] rfl rfl (one_news ((Box.new wr #[.slice x.A x.l.length x.c] 22 rfl).cell 0)) (by simp [Value.oneCell']) (by unfold maxLen; omega) (by omega) (by have := hgr.size; simp; omega) ?_)
          intro v' w5 hown5 hgb5 _
          obtain ⟨_, _, _, hob⟩ := OwnS.form hown.out
          have hg5 : Grow w w5 := ngrown (hgr.alloc _) hgb5 (fun q h => (hob q h).1)
          rw [← hV.out] at hown5
          obtain ⟨A5, c5, rfl, _⟩ := OwnS.form (X := X) hown5
          have ho5 : Hid (OwnS w5 w.heap.size (.slice A5 (k + 1) c5) X (k + 1)) := hide hown5
          clear hown5 hgb5 hob hown hc hL
          go_wp2
          go_roundw
          case rel => exact ⟨k + 1, A5, c5, by omega, by go_num, rfl, ho5, hg5⟩
          case measure => simp [intOf]; omega
        · obtain rfl : k = T := by omega
          clear hlt
          have hJ2 := hide (hJ.out A c wr (hown.out.sls (fun j => (hby.out j).grow hgr)))
          go_wp2_with fail
          refine hJ2.out.mono ?_
          rintro r w6 ⟨A6, c6, rfl, hown6, hg6⟩
          go_wp2
          refine bodyPost_ret (results_tmp2 rfl _ _ _) rfl ?_
          exact ⟨⟨A6, c6, rfl, hown6.mono hgr.size⟩, Grow.trans hgr hg6⟩
end Go.Proofs.Ytbccbfmgjeknhaa
