/- The walk of the statement AttendWho. -/
import Derived.Test.YtpobjcdcimcdnaaAttV
namespace Go.Proofs.Ytpobjcdcimcdnaa
open Go.RowKit
theorem Grow.cell'' {w w' : World} {a : Addr} {v : Value} (h : Grow w w') (hc : w.cell? a = some v) : w'.cell? a = some v := (Below.cell (p := a) h (World.block_lt_of_cell? w _ hc)).trans hc
set_option maxRecDepth 100000 in
set_option maxHeartbeats 4000000 in
theorem attendWho_any (no : Int) (A : Option Addr) (L : List PB) (c : Nat) (w : World) (hl : L.length ≤ c) (hcm : c ≤ 9223372036854775807) (hi : PksIn w A L) (hnil : A = none → c = 0) :
    Calls Try.prog 12 #[.int .i64 no, .slice A L.length c] w fun e w' => e = .returned (.bool true) ∧ Grow w w' := by
  obtain ⟨i0, hi0, hz0, hs0, hb0⟩ := info_parts pktInfo
  have HI := hide (And.intro hi0 (And.intro hz0 (And.intro hs0 hb0)))
  clear hi0 hz0 hs0 hb0
  obtain ⟨M, hM⟩ : ∃ M, Hid (M = L.take 20) := ⟨_, hide rfl⟩
  have hlen : M.length = min 20 L.length := by rw [hM.out, List.length_take]
  have hmin : (if 20 < (L.length : Int) then (20 : Int) else (L.length : Int)) = ((M.length : Nat) : Int) := by split <;> omega
  have hmc : M.length ≤ c := by omega
  have hM20 : M.length ≤ 20 := by omega
  have hkey := hide (fun ad (h : A = some ad) j u (hu : (pkcells M)[j]? = some u) => (show w.cell? (ad.add j) = some u from by
    have hj : j < M.length * 12 := by rw [← pkcells_len]; exact (List.getElem?_eq_some_iff.1 hu).1
    have hLne : L ≠ [] := by rintro rfl; rw [List.length_nil] at hlen; omega
    obtain ⟨b, o, hA, hc⟩ := hi.pks hLne
    rw [h] at hA
    injection hA with hA
    subst hA
    have hk : j / 12 < M.length := by omega
    have hkL : j / 12 < L.length := by omega
    have h1 := pkcells_at M (j / 12) hk (j % 12) (by omega)
    rw [show j / 12 * 12 + j % 12 = j by omega] at h1
    have h2 : M[j / 12] = L[j / 12] := by simp [hM.out]
    have h3 := (hc (j / 12) hkL).1 (j % 12) (by omega)
    rw [Addr.add_mid, show o + j = o + j / 12 * 12 + j % 12 by omega, h3, ← hu, h1, h2]))
  have hbody := hide (fun x (hx : x ∈ M) => (show Bytes w x.A x.l from by
    rw [hM.out] at hx
    have hx := List.mem_of_mem_take hx
    obtain ⟨k, hk, rfl⟩ := List.getElem_of_mem hx
    obtain ⟨_, _, _, hc⟩ := hi.pks (by rintro rfl; simp at hk)
    exact (hc k hk).2))
  have hnone := hide (fun h : A = none => (show M.length = 0 ∧ c = 0 from by have := hnil h; omega))
  clear hi hnil
  go_enter Try.func12, Try.ntmps12
  go_wp2_with (at_builtin; refine Hid.out (?_ : Hid _))
  refine hide ?_
  refine (wpList_append_keep rfl (.tmp 8) (.tmp 13) 78 rfl w.heap.size _ i0 _ 12 112 Try.underlying78 HI.out.1 HI.out.2.1 HI.out.2.2.1 HI.out.2.2.2 rfl (by omega) w.heap.size 0 0 [] rfl (World.ownsRow_made w #[] 0 (Nat.le_refl _) (by decide) rfl) A M.length c (pkcells M) (by rw [hlen]; rfl) (pkcells_len M) hnone.out (fun ad h j u hu => Grow.cell'' ((Grow.refl w).alloc _) (hkey.out ad h j u hu)) (pkcells_one M) (by unfold maxLen; omega) (by omega) (by simp) ?_)
  intro g1 c1 w1 hown1 _ hgb1
  have hg1 : Grow w w1 := ngrown ((Grow.refl w).alloc _) hgb1 (fun q h => by injection h with h; omega)
  rw [Nat.zero_add, List.nil_append] at hown1
  rw [Nat.zero_add]
  have hown1 : OwnP w1 w.heap.size (.slice (some ⟨g1, 0, none⟩) M.length c1) M := hown1
  have hp1 := hown1.pks (fun x hx => (hbody.out x hx).grow hg1)
  have hW := hide (whoOf_same no (M ++ M) M (fun x => by simp))
  have hWs := hide (fun P (h : ∀ x, x ∈ P ↔ x ∈ M) => whoOf_same no P M h)
  have HR := hide (fun W h => refwho_any no (some ⟨g1, 0, none⟩) M c1 W h (by omega))
  have H1 := hide (fun W h => who_any no (some ⟨g1, 0, none⟩) M c1 W h (by omega))
  have H2 := hide (fun A2 c2 W h => who_any no A2 (M ++ M) c2 W h (by rw [List.length_append]; omega))
  have H3 : Hid (∀ (P : List PB) (W : World), Pks W (some ⟨g1, 0, none⟩) P → P.length = M.length → (∀ x, x ∈ P ↔ x ∈ M) → Calls Try.prog 63 #[.int .i64 no, .slice (some ⟨g1, 0, none⟩) M.length c1] W fun r w' => r = .returned (.int .u64 (whoOf no M : Nat)) ∧ Grow W w') := hide (by
    intro P W h hl hx
    have h1 := who_any no (some ⟨g1, 0, none⟩) P c1 W h (by omega)
    rw [hl, hWs.out P hx] at h1
    exact h1)
  rw [hW.out] at H2
  generalize hs : whoOf no M = s at *
  have hown1 := hide hown1
  clear hgb1 hW hs hlen hmin hmc hl hM hkey hnone hcm
  go_wp2_with fail
  refine (HR.out _ hp1).mono ?_
  rintro r w2 ⟨rfl, hb2⟩
  have hp2 := hp1.grow hb2
  have hown2 := hide (hown1.out.grow hb2)
  have hg2 := Grow.trans hg1 hb2
  clear hown1 hp1 hg1 hb2
  go_wp2_with fail
  refine (H1.out _ hp2).mono ?_
  rintro r w3 ⟨rfl, hb3⟩
  have hp3 := hp2.grow hb3
  have hown3 := hide (hown2.out.grow hb3)
  have hg3 := Grow.trans hg2 hb3
  clear hown2 hp2 hg2 hb3
  go_wp2_with (at_builtin; refine Hid.out (?_ : Hid _))
  refine hide ?_
  refine (wpList_append_keep rfl (.tmp 25) (.tmp 26) 78 rfl w.heap.size _ i0 _ 12 112 Try.underlying78 HI.out.1 HI.out.2.1 HI.out.2.2.1 HI.out.2.2.2 rfl (by omega) g1 M.length c1 (pkcells M) rfl hown3.out (some ⟨g1, 0, none⟩) M.length c1 (pkcells M) rfl (pkcells_len M) (by simp) (fun ad h j u hu => by injection h with h; subst h; exact World.ownsRow.cells hown3.out (g := g1) rfl j u hu) (pkcells_one M) (by unfold maxLen; omega) (by omega) hg3.size ?_)
  intro g2 c2 w4 hown4 hown4' hgb4
  have hg4 : Grow w w4 := ngrown hg3 hgb4 (fun q h => by injection h with h; have := hown3.out.blk; omega)
  have hp4 : Pks w4 (some ⟨g2, 0, none⟩) (M ++ M) := OwnP.pks (base := w.heap.size) (n := M.length + M.length) (c := c2) (by
    unfold OwnP
    rw [pkcells_app, List.length_append]
    exact hown4) (fun x hx => (hbody.out x (by simpa using hx)).grow hg4)
  have H2' := hide (H2.out _ c2 w4 hp4)
  rw [List.length_append] at H2'
  have hown4 : Hid (OwnP w4 w.heap.size (.slice (some ⟨g1, 0, none⟩) M.length c1) M) := hide hown4'
  clear hown3 hp3 hgb4 hown4' hp4 H2 hg3
  go_wp2_with fail
  refine H2'.out.mono ?_
  rintro r w5 ⟨rfl, hb5⟩
  have hown5 := hide (hown4.out.grow hb5)
  have hg5 := Grow.trans hg4 hb5
  clear hown4 hg4 hb5 H2'
  go_wp2
  go_loopw [6, 7] (fun i j wr => ∃ (k : Nat) (P : List PB), k ≤ M.length ∧ i = .int .i64 k ∧ j = .int .i64 ((M.length : Int) - 1 - (k : Int)) ∧ P.length = M.length ∧ Hid (∀ x, x ∈ P ↔ x ∈ M) ∧ Hid (OwnP wr w.heap.size (.slice (some ⟨g1, 0, none⟩) M.length c1) P) ∧ Grow w wr) (fun i _ _ => M.length - (intOf i).toNat)
  case atStart => exact ⟨0, M, by omega, rfl, by go_num, rfl, hide (fun _ => Iff.rfl), hown5, hg5⟩
  case round =>
    obtain ⟨k, P, hk, rfl, rfl, hP, hmem, hown, hgr⟩ := hrel
    clear hown5 hg5
    by_cases hlt : (k : Int) < (M.length : Int) - 1 - (k : Int)
    · obtain ⟨j, hj⟩ : ∃ j : Nat, (M.length : Int) - 1 - (k : Int) = (j : Int) := ⟨M.length - 1 - k, by omega⟩
      rw [hj] at hlt ⊢
      have hkj : k < j := by omega
      have hjl : j + k + 1 = M.length := by omega
      have hkP : k < P.length := by omega
      have hjP : j < P.length := by omega
      have hki : (k : Int) < (M.length : Int) := by omega
      have hji : (j : Int) < (M.length : Int) := by omega
      have hjl := hide hjl
      clear hj
      go_wp2_with fail
      have r1 := hide (fun (W : World) (h : OwnP W w.heap.size (.slice (some ⟨g1, 0, none⟩) M.length c1) P) => OwnP.range h j hjP)
      have r2 := hide (fun (W : World) (h : OwnP W w.heap.size (.slice (some ⟨g1, 0, none⟩) M.length c1) P) => OwnP.range h k hkP)
      obtain ⟨x, hx⟩ : ∃ x, Hid (x = P[j]) := ⟨_, hide rfl⟩
      obtain ⟨y, hy⟩ : ∃ y, Hid (y = P[k]) := ⟨_, hide rfl⟩
      rw [← hx.out] at r1
      rw [← hy.out] at r2
      have hPh := hide hP
      clear hP
      have hown := hide hown.out.drew
      refine wpR_region (AnyW) [] (by kernel_rfl) ?_
      refine wpR_take any_rf any_tr 0 rfl (by kernel_rfl) (fun _ _ _ h => h) rfl (v := ?_) ?_ ?_
      rotate_left
      · (intro w' hG; go_simp; try with_reducible rfl)
      try simp only [Act.put, List.setIfInBounds_toArray, List.set_cons_zero, List.set_cons_succ]
      refine wpR_take any_rf any_tr 1 rfl (by kernel_rfl) (fun _ _ _ h => h) rfl (v := ?_) ?_ ?_
      rotate_left
      · (intro w' hG; go_simp; try with_reducible rfl)
      try simp only [Act.put, List.setIfInBounds_toArray, List.set_cons_zero, List.set_cons_succ]
      refine wpR_take any_rf any_tr 2 rfl (by kernel_rfl) (fun _ _ _ h => h) rfl (v := ?_) ?_ ?_
      rotate_left
      · (intro w' hG; go_simp; try with_reducible rfl)
      try simp only [Act.put, List.setIfInBounds_toArray, List.set_cons_zero, List.set_cons_succ]
      refine wpR_take any_rf any_tr 3 rfl (by kernel_rfl) (fun _ _ _ h => h) rfl (v := ?_) ?_ ?_
      rotate_left
      · (intro w' hG; go_simp; try with_reducible rfl)
      try simp only [Act.put, List.setIfInBounds_toArray, List.set_cons_zero, List.set_cons_succ]
      refine wpR_take any_rf any_tr 4 rfl (by kernel_rfl) (fun _ _ _ h => h) rfl (v := ?_) ?_ ?_
      rotate_left
      · (intro w' hG; go_simp; try with_reducible rfl)
      try simp only [Act.put, List.setIfInBounds_toArray, List.set_cons_zero, List.set_cons_succ]
      refine wpR_take any_rf any_tr 5 rfl (by kernel_rfl) (fun _ _ _ h => h) rfl (v := ?_) ?_ ?_
      rotate_left
      · (intro w' hG; go_simp; try with_reducible rfl)
      try simp only [Act.put, List.setIfInBounds_toArray, List.set_cons_zero, List.set_cons_succ]
      refine wpR_take any_rf any_tr 6 rfl (by kernel_rfl) (fun _ _ _ h => h) rfl (v := ?_) ?_ ?_
      rotate_left
      · (intro w' hG; go_simp; try with_reducible rfl)
      try simp only [Act.put, List.setIfInBounds_toArray, List.set_cons_zero, List.set_cons_succ]
      refine wpR_take any_rf any_tr 8 rfl (by kernel_rfl) (fun _ _ _ h => h) rfl (v := ?_) ?_ ?_
      rotate_left
      · (intro w' hG; go_simp; try with_reducible rfl)
      try simp only [Act.put, List.setIfInBounds_toArray, List.set_cons_zero, List.set_cons_succ]
      refine wpR_take any_rf any_tr 9 rfl (by kernel_rfl) (fun _ _ _ h => h) rfl (v := ?_) ?_ ?_
      rotate_left
      · (intro w' hG; go_simp; try with_reducible rfl)
      try simp only [Act.put, List.setIfInBounds_toArray, List.set_cons_zero, List.set_cons_succ]
      refine wpR_take any_rf any_tr 10 rfl (by kernel_rfl) (fun _ _ _ h => h) rfl (v := ?_) ?_ ?_
      rotate_left
      · (intro w' hG; go_simp; try with_reducible rfl)
      try simp only [Act.put, List.setIfInBounds_toArray, List.set_cons_zero, List.set_cons_succ]
      refine wpR_two 7 11 rfl rfl (by kernel_rfl) rfl rfl (fun K hK => ?_) (fun K hK => ?_)
      · refine wp_load_mid 65 (.tmp 48) rfl g1 (j * 12) rfl (pbc x).toList _ (r1.out _ hown.out) Try.underlying65 rfl pktSize ?_
        refine hK.out _ _ (.inr (trivial)) ?_
        clear hK
        try simp only [Act.put, List.setIfInBounds_toArray, List.set_cons_zero, List.set_cons_succ]
        refine wpR_call 11 rfl (by kernel_rfl) rfl fun K hK => ?_
        refine wp_load_mid 65 (.tmp 52) rfl g1 (k * 12) rfl (pbc y).toList _ (r2.out _ hown.out) Try.underlying65 rfl pktSize ?_
        refine hK.out _ _ (.inr (trivial)) ?_
        clear hK
        try simp only [Act.put, List.setIfInBounds_toArray, List.set_cons_zero, List.set_cons_succ]
        refine wpR_take any_rf any_tr 12 rfl (by kernel_rfl) (fun _ _ _ h => h) rfl (v := ?_) ?_ ?_
        rotate_left
        · (intro w' hG; go_simp; try with_reducible rfl)
        try simp only [Act.put, List.setIfInBounds_toArray, List.set_cons_zero, List.set_cons_succ]
        refine wpR_call 13 rfl (by kernel_rfl) rfl fun K hK => ?_
        refine wp_store_pk (.tmp 54) (.tmp 49) rfl hown.out k hkP x rfl rfl ?_
        intro w6 hown6 hgb6
        have hg6 : Grow w w6 := ngrown hgr.drew hgb6 (fun q h => by injection h with h; have := OwnP.blk hown.out; omega)
        clear hown hgb6 r1 r2
        refine hK.out _ _ (.inr (trivial)) ?_
        clear hK
        try simp only [Act.put, List.setIfInBounds_toArray, List.set_cons_zero, List.set_cons_succ]
        refine wpR_take any_rf any_tr 14 rfl (by kernel_rfl) (fun _ _ _ h => h) rfl (v := ?_) ?_ ?_
        rotate_left
        · (intro w' hG; go_simp; try with_reducible rfl)
        try simp only [Act.put, List.setIfInBounds_toArray, List.set_cons_zero, List.set_cons_succ]
        refine wpR_call 15 rfl (by kernel_rfl) rfl fun K hK => ?_
        refine wp_store_pk (.tmp 55) (.tmp 53) rfl hown6 j (by simpa using hjP) y rfl rfl ?_
        intro w7 hown7 hgb7
        have hg7 : Grow w w7 := ngrown hg6 hgb7 (fun q h => by injection h with h; have := OwnP.blk hown6; omega)
        have hown7 := hide hown7
        have hm7 : Hid (∀ z, z ∈ (P.set k x).set j y ↔ z ∈ M) := hide (fun z => by rw [hx.out, hy.out]; exact (swap_mem P k j hkP hjP (by omega) z).trans (hmem.out z))
        have hl7 : ((P.set k x).set j y).length = M.length := by rw [List.length_set, List.length_set]; exact hPh.out
        clear hown6 hgb7 hg6
        refine hK.out _ _ (.inr (trivial)) ?_
        clear hK
        try simp only [Act.put, List.setIfInBounds_toArray, List.set_cons_zero, List.set_cons_succ]
        refine wpR_done (by kernel_rfl) ?_ _
        generalize (P.set k x).set j y = P7 at *
        clear hx hy hPh hmem
        go_wp2
        go_roundw
        case rel => exact ⟨k + 1, P7, by omega, by go_num, by have := hjl.out; go_num, hl7, hm7, hown7, hg7⟩
        case measure => simp [intOf]; omega
      · refine wp_load_mid 65 (.tmp 52) rfl g1 (k * 12) rfl (pbc y).toList _ (r2.out _ hown.out) Try.underlying65 rfl pktSize ?_
        refine hK.out _ _ (.inr (trivial)) ?_
        clear hK
        try simp only [Act.put, List.setIfInBounds_toArray, List.set_cons_zero, List.set_cons_succ]
        refine wpR_call 7 rfl (by kernel_rfl) rfl fun K hK => ?_
        refine wp_load_mid 65 (.tmp 48) rfl g1 (j * 12) rfl (pbc x).toList _ (r1.out _ hown.out) Try.underlying65 rfl pktSize ?_
        refine hK.out _ _ (.inr (trivial)) ?_
        clear hK
        try simp only [Act.put, List.setIfInBounds_toArray, List.set_cons_zero, List.set_cons_succ]
        refine wpR_take any_rf any_tr 12 rfl (by kernel_rfl) (fun _ _ _ h => h) rfl (v := ?_) ?_ ?_
        rotate_left
        · (intro w' hG; go_simp; try with_reducible rfl)
        try simp only [Act.put, List.setIfInBounds_toArray, List.set_cons_zero, List.set_cons_succ]
        refine wpR_call 13 rfl (by kernel_rfl) rfl fun K hK => ?_
        refine wp_store_pk (.tmp 54) (.tmp 49) rfl hown.out k hkP x rfl rfl ?_
        intro w6 hown6 hgb6
        have hg6 : Grow w w6 := ngrown hgr.drew hgb6 (fun q h => by injection h with h; have := OwnP.blk hown.out; omega)
        clear hown hgb6 r1 r2
        refine hK.out _ _ (.inr (trivial)) ?_
        clear hK
        try simp only [Act.put, List.setIfInBounds_toArray, List.set_cons_zero, List.set_cons_succ]
        refine wpR_take any_rf any_tr 14 rfl (by kernel_rfl) (fun _ _ _ h => h) rfl (v := ?_) ?_ ?_
        rotate_left
        · (intro w' hG; go_simp; try with_reducible rfl)
        try simp only [Act.put, List.setIfInBounds_toArray, List.set_cons_zero, List.set_cons_succ]
        refine wpR_call 15 rfl (by kernel_rfl) rfl fun K hK => ?_
        refine wp_store_pk (.tmp 55) (.tmp 53) rfl hown6 j (by simpa using hjP) y rfl rfl ?_
        intro w7 hown7 hgb7
        have hg7 : Grow w w7 := ngrown hg6 hgb7 (fun q h => by injection h with h; have := OwnP.blk hown6; omega)
        have hown7 := hide hown7
        have hm7 : Hid (∀ z, z ∈ (P.set k x).set j y ↔ z ∈ M) := hide (fun z => by rw [hx.out, hy.out]; exact (swap_mem P k j hkP hjP (by omega) z).trans (hmem.out z))
        have hl7 : ((P.set k x).set j y).length = M.length := by rw [List.length_set, List.length_set]; exact hPh.out
        clear hown6 hgb7 hg6
        refine hK.out _ _ (.inr (trivial)) ?_
        clear hK
        try simp only [Act.put, List.setIfInBounds_toArray, List.set_cons_zero, List.set_cons_succ]
        refine wpR_done (by kernel_rfl) ?_ _
        generalize (P.set k x).set j y = P7 at *
        clear hx hy hPh hmem
        go_wp2
        go_roundw
        case rel => exact ⟨k + 1, P7, by omega, by go_num, by have := hjl.out; go_num, hl7, hm7, hown7, hg7⟩
        case measure => simp [intOf]; omega
    · go_wp2_with fail
      refine (H3.out P _ (OwnP.pks hown.out (fun x hx => (hbody.out x ((hmem.out x).1 hx)).grow hgr)) hP hmem.out).mono ?_
      rintro r w6 ⟨rfl, hb6⟩
      have hg6 := Grow.trans hgr hb6
      clear hP
      go_wp2_with fail
      refine (works12_any _).mono ?_
      rintro r w7 ⟨rfl, hb7⟩
      have hg7 := Grow.trans hg6 hb7
      go_wp2
      go_ret
      exact ⟨rfl, hg7⟩
end Go.Proofs.Ytpobjcdcimcdnaa
