/- Piece.No, Missing, Whole, Reset (chapter 42); pieces that are nil. -/
import Derived.Test.YtbccbfmgjeknhaaPd
import Derived.Test.YtbccbfmgjeknhaaNod
namespace Go.Proofs.Ytbccbfmgjeknhaa
open Go.RowKit
theorem pno_nil (w : World) : Calls Try.prog 31 #[.pointer none] w fun r w' => r = .returned (.tuple #[.int .i64 0, .bool false]) ∧ w = w' := by
  go_enter Try.func31, Try.ntmps31
  go_wp2_with fail
  refine (psome_nil _).mono ?_
  rintro r w1 ⟨rfl, rfl⟩
  go_wp2
  refine bodyPost_ret (results_tmp2 rfl _ _ _) rfl ?_
  exact ⟨rfl, rfl⟩
theorem pno_any {N p m : Nat} {sf no tot : Int} {X : List PE} (w : World) (h : Pc w N p m sf no tot X) :
    Calls Try.prog 31 #[.pointer (some ⟨p, 0, none⟩)] w fun r w' => r = .returned (.tuple #[.int .i64 (if X.isEmpty then 0 else no), .bool (!X.isEmpty)]) ∧ w = w' := by
  have hS := hide (psome_any w h)
  have hc := h.box.cell
  generalize X.isEmpty = b at *
  go_enter Try.func31, Try.ntmps31
  go_wp2_with fail
  refine hS.out.mono ?_
  rintro r w1 ⟨rfl, rfl⟩
  cases b with
  | true =>
    go_wp2
    refine bodyPost_ret (results_tmp2 rfl _ _ _) rfl ?_
    exact ⟨rfl, rfl⟩
  | false =>
    go_wp2
    refine bodyPost_ret (results_tmp2 rfl _ _ _) rfl ?_
    exact ⟨rfl, rfl⟩
theorem pmissing_nil (w : World) : Calls Try.prog 34 #[.pointer none] w fun r w' => r = .returned (.slice none 0 0) ∧ w = w' := by
  go_enter Try.func34, Try.ntmps34
  go_wp2_with fail
  refine (psome_nil _).mono ?_
  rintro r w1 ⟨rfl, rfl⟩
  go_wp2
  go_ret
  exact ⟨rfl, rfl⟩
theorem pwhole_nil (w : World) : Calls Try.prog 27 #[.pointer none] w fun r w' => r = .returned (.tuple #[.slice none 0 0, .bool false]) ∧ Grow w w' := by
  go_enter Try.func27, Try.ntmps27
  go_wp2_with fail
  refine wpR_region (Grow) [] (by kernel_rfl) ?_
  refine wpR_take grow_rf grow_tr 0 rfl (by kernel_rfl) (fun _ _ _ h => h) rfl (v := ?_) ?_ ?_
  rotate_left
  · (intro w' hG; go_simp; try with_reducible rfl)
  try simp only [Act.put, List.setIfInBounds_toArray, List.set_cons_zero, List.set_cons_succ]
  refine wpR_call 1 rfl (by kernel_rfl) rfl fun K hK => ?_
  go_simp
  refine (psome_nil _).mono ?_
  rintro r w3 ⟨rfl, rfl⟩
  refine hK.out _ _ (.inr (Grow.refl _)) ?_
  clear hK
  try simp only [Act.put, List.setIfInBounds_toArray, List.set_cons_zero, List.set_cons_succ]
  refine wpR_take grow_rf grow_tr 2 rfl (by kernel_rfl) (fun _ _ _ h => h) rfl (v := ?_) ?_ ?_
  rotate_left
  · (intro w' hG; go_simp; try with_reducible rfl)
  try simp only [Act.put, List.setIfInBounds_toArray, List.set_cons_zero, List.set_cons_succ]
  refine wpR_take grow_rf grow_tr 3 rfl (by kernel_rfl) (fun _ _ _ h => h) rfl (v := ?_) ?_ ?_
  rotate_left
  · (intro w' hG; go_simp; try with_reducible rfl)
  try simp only [Act.put, List.setIfInBounds_toArray, List.set_cons_zero, List.set_cons_succ]
  refine wpR_skip grow_rf grow_tr 4 rfl (by kernel_rfl) (fun _ _ _ h => h) rfl ?_
  try simp only [Act.put, List.setIfInBounds_toArray, List.set_cons_zero, List.set_cons_succ]
  refine wpR_skip grow_rf grow_tr 5 rfl (by kernel_rfl) (fun _ _ _ h => h) rfl ?_
  try simp only [Act.put, List.setIfInBounds_toArray, List.set_cons_zero, List.set_cons_succ]
  refine wpR_skip grow_rf grow_tr 6 rfl (by kernel_rfl) (fun _ _ _ h => h) rfl ?_
  try simp only [Act.put, List.setIfInBounds_toArray, List.set_cons_zero, List.set_cons_succ]
  refine wpR_skip grow_rf grow_tr 7 rfl (by kernel_rfl) (fun _ _ _ h => h) rfl ?_
  try simp only [Act.put, List.setIfInBounds_toArray, List.set_cons_zero, List.set_cons_succ]
  refine wpR_skip grow_rf grow_tr 8 rfl (by kernel_rfl) (fun _ _ _ h => h) rfl ?_
  try simp only [Act.put, List.setIfInBounds_toArray, List.set_cons_zero, List.set_cons_succ]
  refine wpR_skip grow_rf grow_tr 9 rfl (by kernel_rfl) (fun _ _ _ h => h) rfl ?_
  try simp only [Act.put, List.setIfInBounds_toArray, List.set_cons_zero, List.set_cons_succ]
  refine wpR_skip grow_rf grow_tr 10 rfl (by kernel_rfl) (fun _ _ _ h => h) rfl ?_
  try simp only [Act.put, List.setIfInBounds_toArray, List.set_cons_zero, List.set_cons_succ]
  refine wpR_skip grow_rf grow_tr 11 rfl (by kernel_rfl) (fun _ _ _ h => h) rfl ?_
  try simp only [Act.put, List.setIfInBounds_toArray, List.set_cons_zero, List.set_cons_succ]
  refine wpR_skip grow_rf grow_tr 12 rfl (by kernel_rfl) (fun _ _ _ h => h) rfl ?_
  try simp only [Act.put, List.setIfInBounds_toArray, List.set_cons_zero, List.set_cons_succ]
  refine wpR_skip grow_rf grow_tr 13 rfl (by kernel_rfl) (fun _ _ _ h => h) rfl ?_
  try simp only [Act.put, List.setIfInBounds_toArray, List.set_cons_zero, List.set_cons_succ]
  refine wpR_take grow_rf grow_tr 14 rfl (by kernel_rfl) (fun _ _ _ h => h) rfl (v := ?_) ?_ ?_
  rotate_left
  · (intro w' hG; go_simp; try with_reducible rfl)
  try simp only [Act.put, List.setIfInBounds_toArray, List.set_cons_zero, List.set_cons_succ]
  refine wpR_done (by kernel_rfl) ?_ _
  go_wp2
  refine bodyPost_ret (results_tmp2 rfl _ _ _) rfl ?_
  exact ⟨rfl, (Grow.refl w).drew⟩
theorem preset_nil (w : World) : Calls Try.prog 35 #[.pointer none] w fun r w' => r = .returned (.tuple #[]) ∧ w = w' := by
  go_enter Try.func35, Try.ntmps35
  go_wp2
  refine bodyPost_ret (results_none rfl _ _ _) rfl ?_
  exact ⟨rfl, rfl⟩
theorem pcheck_nil (q : Pkt) (A : Option Addr) (n c : Nat) (w : World) : Calls Try.prog 57 #[.pointer none, pv q A n c] w fun r w' => r = .returned (.int .i64 1) ∧ Grow w w' := by
  go_enter Try.func57, Try.ntmps57
  go_wp2
  go_ret
  exact ⟨rfl, (Grow.refl w).alloc _⟩
theorem pnote_nil (q : Pkt) (A : Option Addr) (n c : Nat) (w : World) : Calls Try.prog 25 #[.pointer none, pv q A n c] w fun r w' => r = .returned (.int .i64 1) ∧ Grow w w' := by
  go_enter Try.func25, Try.ntmps25
  go_wp2_with fail
  refine (pcheck_nil q A n c _).mono ?_
  rintro r w1 ⟨rfl, hb1⟩
  have hg1 := Grow.trans ((Grow.refl w).alloc _) hb1
  go_wp2
  go_ret
  exact ⟨rfl, hg1⟩
theorem preset_any {N p m : Nat} {sf no tot : Int} {X : List PE} (w : World) (h : Pc w N p m sf no tot X) :
    Calls Try.prog 35 #[.pointer (some ⟨p, 0, none⟩)] w fun r w' => r = .returned (.tuple #[]) ∧ Pc w' N p m sf 0 0 [] ∧ Kept w.heap.size [p, m] w w' := by
  obtain ⟨w1, hcl, hm1, hgb1⟩ := run_clearI (P := Try.prog) h.map Try.underlying101
  have h1 := h.turn [] hm1 hgb1 (by simp)
  have k1 := grownBy_kept hgb1 [p, m] (by simp)
  have hc := h.box.cell
  have hc1 := h1.box.cell
  have hf1 := h1.box.fz
  have hb1 := hide h1.box
  have h1 := hide h1
  clear hm1 hgb1 h
  go_enter Try.func35, Try.ntmps35
  go_wp2
  go_end0
  have b2 := hb1.out.set 1 (.int .i64 0)
  have b3 := b2.set 2 (.int .i64 0)
  simp only [List.setIfInBounds_toArray, List.set_cons_zero, List.set_cons_succ] at b3
  have k3 : Kept w1.heap.size [p] w1 (World.setCell (World.setCell w1 ⟨p, 1, none⟩ (.int .i64 0)) ⟨p, 2, none⟩ (.int .i64 0)) := Kept.setCell (p := ⟨p, 2, none⟩) (Kept.setCell (p := ⟨p, 1, none⟩) (Kept.refl _ _ _) (.inr (by simp)) _) (.inr (by simp)) _
  exact ⟨rfl, h1.out.setHead b3 k3, k1.trans (k3.mono k1.size (fun a _ h => by rw [List.mem_singleton.1 h]; simp))⟩
theorem OwnI.none_ (w : World) (base : Nat) : OwnI w base (.slice none 0 0) [] := World.ownsRow_nil w base _ _
/-- which are not there -/
def missL (L : List (Nat × List UInt8)) (T : Nat) : List Nat := (List.range T).filter (fun k => !(L.any fun x => x.1 == k))
theorem missL_succ (L : List (Nat × List UInt8)) (k : Nat) : missL L (k + 1) = missL L k ++ (if (L.any fun x => x.1 == k) = true then [] else [k]) := by
  unfold missL
  rw [List.range_succ, List.filter_append]
  congr 1
  cases h : L.any fun x => x.1 == k <;> simp [h]
theorem missL_len (L : List (Nat × List UInt8)) (k : Nat) : (missL L k).length ≤ k := by
  have := List.length_filter_le (fun k => !(L.any fun x => x.1 == k)) (List.range k)
  rw [List.length_range] at this
  exact this
set_option maxRecDepth 100000 in
set_option maxHeartbeats 2000000 in
theorem pmissing_any {N p m T : Nat} {sf no : Int} {X : List PE} (w : World) (h : Pc w N p m sf no (T : Int) X) (hT : T ≤ 1000) :
    Calls Try.prog 34 #[.pointer (some ⟨p, 0, none⟩)] w fun r w' => (∃ A c, r = .returned (.slice A (if X.isEmpty then [] else missL (X.map kl) T).length c) ∧ IntsAt w' A (if X.isEmpty then [] else missL (X.map kl) T)) ∧ Grow w w' := by
  have hS := hide (psome_any w h)
  have hM := hide (fun W (g : Grow w W) => h.map.grow g)
  have hB := hide (fun W (g : Grow w W) => (h.box.grow g).cell)
  have hK := hide (fun k => keyed_any X k)
  have hML := hide (fun k => missL_succ (X.map kl) k)
  have hMl := hide (fun k => missL_len (X.map kl) k)
  have hc := h.box.cell
  clear h
  cases hX : X.isEmpty with
  | true =>
    rw [hX] at hS
    clear hX
    go_enter Try.func34, Try.ntmps34
    go_wp2_with fail
    refine hS.out.mono ?_
    rintro r w1 ⟨rfl, rfl⟩
    go_wp2
    go_ret
    exact ⟨⟨none, ⟨0, rfl⟩, fun h => absurd rfl h⟩, Grow.refl w⟩
  | false =>
    rw [hX] at hS
    rw [if_neg (by simp)]
    clear hX
    obtain ⟨i0, hi0, hz0, hs0, hb0⟩ := info_parts intInfo
    have HI := hide (And.intro hi0 (And.intro hz0 (And.intro hs0 hb0)))
    clear hi0 hz0 hs0 hb0
    have hg0 := Grow.refl w
    have hn0 := hide (OwnI.none_ w w.heap.size)
    generalize X.map kl = L at *
    go_enter Try.func34, Try.ntmps34
    go_wp2_with fail
    refine hS.out.mono ?_
    rintro r w1 ⟨rfl, rfl⟩
    go_wp2
    clear hc
    go_loopw [3, 14] (fun v i wr => ∃ (k : Nat) (A : Option Addr) (c : Nat) (M : List Nat), k ≤ T ∧ i = .int .i64 k ∧ v = .slice A M.length c ∧ Hid (M = missL L k) ∧ M.length ≤ 1000 ∧ Hid (OwnI wr w.heap.size (.slice A M.length c) M) ∧ Grow w wr) (fun _ i _ => T - (intOf i).toNat)
    case atStart => exact ⟨0, none, 0, [], by omega, rfl, rfl, hide rfl, by simp, hn0, hg0⟩
    case round =>
      clear hn0 hg0
      obtain ⟨k, A, c, M, hk, rfl, rfl, hMM, hM64, hown, hgr⟩ := hrel
      by_cases hlt : k < T
      · have hlti : (k : Int) < (T : Int) := by omega
        have hc := hB.out wr hgr
        have hL := run_lookI (P := Try.prog) (hM.out wr hgr) Try.underlying101 Try.underlying3 (zeroSl wr) k true
        rw [hK.out k] at hL
        have hsn := hide (hML.out k)
        rw [← hMM.out] at hsn
        have hlen := hMl.out k
        rw [← hMM.out] at hlen
        generalize (keyed (X.map ent) k).getD (.slice none 0 0) = v0 at hL
        cases hb : L.any (fun x => x.1 == k) with
        | true =>
          rw [hb] at hL hsn
          have hM2 : Hid (M = missL L (k + 1)) := hide (by rw [hsn.out, if_pos rfl, List.append_nil])
          clear hb hsn
          go_wp2
          go_roundw
          case rel => exact ⟨k + 1, A, c, M, by omega, by go_num, rfl, hM2, hM64, hown, hgr⟩
          case measure => simp [intOf]; omega
        | false =>
          rw [hb] at hL hsn
          have hM2 : Hid (M ++ [k] = missL L (k + 1)) := hide (by rw [hsn.out, if_neg (by simp)])
          clear hb hsn
          go_wp2_with (at_builtin; refine Hid.out (?_ : Hid _))
          refine hide ?_
          refine (wpList_append_own _ rfl (.tmp 28) (.tmp 30) _ rfl w.heap.size _ i0 _ 1 8 Try.underlying70 HI.out.1 HI.out.2.1 HI.out.2.2.1 HI.out.2.2.2 rfl (by omega) (.slice A M.length c) M.length (M.map nv) rfl (hown.out.grow ((Grow.refl _).alloc _)) ⟨wr.heap.size, 0, none⟩ 1 1 [nv k] rfl rfl (one_news ((Box.new wr #[nv k] 3 rfl).cell 0)) (by simp [Value.oneCell']) (by unfold maxLen; omega) (by omega) (by have := hgr.size; simp; omega) ?_)
          intro v' w5 hown5 hgb5 _
          obtain ⟨_, _, _, hob, _⟩ := OwnI.form hown.out
          have hg5 : Grow w w5 := ngrown (hgr.alloc _) hgb5 (fun q h => (hob q h).1)
          have hown5' : OwnI w5 w.heap.size v' (M ++ [k]) := by
            unfold OwnI
            rw [List.length_append, List.map_append]
            exact hown5
          obtain ⟨A5, c5, rfl, _, _⟩ := OwnI.form hown5'
          have ho5 := hide hown5'
          have hl5 : (M ++ [k]).length ≤ 1000 := by simp; omega
          generalize M ++ [k] = M5 at *
          clear hown5 hown5' hgb5 hob hown hc hL
          go_wp2
          go_roundw
          case rel => exact ⟨k + 1, A5, c5, M5, by omega, by go_num, rfl, hM2, hl5, ho5, hg5⟩
          case measure => simp [intOf]; omega
      · obtain rfl : k = T := by omega
        clear hlt
        have hMM := hMM.out
        subst hMM
        go_wp2
        go_ret
        obtain ⟨A', c', he, _, hin⟩ := OwnI.form hown.out
        obtain ⟨rfl, _⟩ : A = A' ∧ c = c' := by simpa using he
        exact ⟨⟨A, ⟨c, rfl⟩, hin⟩, hgr⟩
end Go.Proofs.Ytbccbfmgjeknhaa
