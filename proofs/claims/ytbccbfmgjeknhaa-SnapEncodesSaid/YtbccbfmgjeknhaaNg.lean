/- Chapter 41: the document's Good. -/
import Derived.Test.YtbccbfmgjeknhaaLq
namespace Go.Proofs.Ytbccbfmgjeknhaa
open Go.RowKit
theorem scs_at (s : St) (k : Nat) (hk : k < s.l.of.length) : (scs s).toArray[4 + k]? = some (u32v s.l.of[k]) := by
  have h := scs_l s (2 + k) (u32v s.l.of[k]) (by have := lcs_at s.l k hk; rwa [List.getElem?_toArray] at this)
  rwa [show 2 + (2 + k) = 4 + k by omega] at h
set_option maxRecDepth 100000 in
set_option maxHeartbeats 2000000 in
theorem refgood41_any (s : St) (n : Int) (w : World) (h : s.Ok) (hn0 : -9223372036854775808 ≤ n) (hn1 : n ≤ 9223372036854775807) : Calls Try.prog 19 #[.agg (scs s).toArray, .int .i64 n] w fun r w' => r = .returned (.bool (goodB s n)) ∧ Grow w w' := by
  have hbx := Box.new w (scs s).toArray 36 rfl
  have hcells := hide (fun k (hk : k < s.l.of.length) => (hbx.cell (4 + k)).trans (scs_at s k hk))
  have hT := hide (fun W => refltotal_any s.l W h.l)
  have hra : (w.alloc (.cells (scs s).toArray 36)).rangeAt w.heap.size 2 (lcs s.l) := range_of hbx _ (scs_l s)
  have hszL : (Try.prog.info? 34).map (·.size) = some (lcs s.l).length := by rw [lcs_len s.l h.l]; kernel_rfl
  have hszL := hide hszL
  have hra := hide hra
  have hc0 : (w.alloc (.cells (scs s).toArray 36)).cell? ⟨w.heap.size, 0, none⟩ = some (.int .i64 s.no) := hbx.cell 0
  have hc1 : (w.alloc (.cells (scs s).toArray 36)).cell? ⟨w.heap.size, 1, none⟩ = some (.int .u64 (s.set : Int)) := hbx.cell 1
  have hc2 : (w.alloc (.cells (scs s).toArray 36)).cell? ⟨w.heap.size, 2, none⟩ = some (.int .i64 s.l.count) := hbx.cell 2
  have hg := (Grow.refl w).alloc (.cells (scs s).toArray 36)
  have hG := hide (show goodB s n = (manyB n && (decide (0 ≤ s.no) && (decide (s.no ≤ 1152921504606846976) && (decide (s.set < 2 ^ n.toNat) && sumsB s.l n.toNat)))) from rfl)
  have hlen := h.l.len
  have hset := h.set
  clear hbx h
  generalize goodB s n = b at *
  generalize hC : scs s = C at *
  generalize hW : w.alloc (.cells C.toArray 36) = w1 at *
  have hc2 := hide hc2
  have hcc0 := hide hc0
  have hcc1 := hide hc1
  clear hC
  cases hm : manyB n with
  | false =>
    rw [hm, Bool.false_and] at hG
    have hb := hG.out
    subst hb
    have hnn : n < 1 ∨ (¬ n < 1 ∧ 64 < n) := by simp [manyB] at hm; omega
    clear hm hG hc0 hc1 hcc0 hcc1
    rcases hnn with hn | ⟨hn, hn6⟩
    all_goals
      go_enter Try.func19, Try.ntmps19
      go_wp2
      go_ret
      exact ⟨rfl, hg⟩
  | true =>
    rw [hm, Bool.true_and] at hG
    obtain ⟨N, rfl, hN1, hN64⟩ : ∃ N : Nat, n = (N : Int) ∧ 1 ≤ N ∧ N ≤ 64 := by
      simp [manyB] at hm
      exact ⟨n.toNat, by omega, by omega, by omega⟩
    rw [Int.toNat_natCast] at hG
    clear hm
    have hn1' : ¬ (N : Int) < 1 := by omega
    have hn6 : ¬ (64 : Int) < (N : Int) := by omega
    by_cases h0 : 0 ≤ s.no
    · rw [decide_eq_true h0, Bool.true_and] at hG
      have h0' : ¬ s.no < 0 := by omega
      by_cases h6 : s.no ≤ 1152921504606846976
      · rw [decide_eq_true h6, Bool.true_and] at hG
        have h6' : ¬ 1152921504606846976 < s.no := by omega
        have HB := hide (fun W => beyond_any s.set N W hset (by omega) (by omega))
        rw [beyond_eq s.set N hN64 hset] at HB
        by_cases hs : s.set < 2 ^ N
        · rw [decide_eq_true hs, Bool.true_and] at hG
          rw [decide_eq_true hs] at HB
          have hS := hide (hG.out.trans (show sumsB s.l N = ((s.l.of.drop N).all (· == 0) && (decide (0 ≤ s.l.count) && s.l.count == (s.l.of.sum : Int))) from rfl))
          clear hs h0 h6 hG
          go_enter Try.func19, Try.ntmps19
          go_wp2_with fail
          refine (HB.out _).mono ?_
          rintro r0 w2 ⟨rfl, hg2⟩
          clear hW hc0 hc1 hcc0 hcc1 HB
          have hcells := hide (fun k (hk : k < s.l.of.length) => Grow.cell' hg2 (hcells.out k hk))
          have hc2 := hide (Grow.cell' hg2 hc2.out)
          have hra := hide (rangeAt_grow' hra.out hg2)
          have hg := hg.trans hg2
          clear hg2
          go_wp2
          go_loopw [5] (fun i wr => ∃ k : Nat, N ≤ k ∧ k ≤ 64 ∧ i = .int .i64 k ∧ Hid (∀ j (hj : N + j < s.l.of.length), N + j < k → s.l.of[N + j] = 0) ∧ wr = w2) (fun i _ => 64 - (intOf i).toNat)
          case atStart => exact ⟨N, by omega, hN64, rfl, hide (fun j _ h => by omega), rfl⟩
          case round =>
            obtain ⟨k, hNk, hk, rfl, hz, rfl⟩ := hrel
            by_cases hlt : k < 64
            · have hki : (k : Int) < 64 := by omega
              have hkL : k < s.l.of.length := by omega
              have hcell := hcells.out k hkL
              obtain ⟨j0, rfl⟩ : ∃ j0, k = N + j0 := ⟨k - N, by omega⟩
              have hnot := hide (all_drop_not s.l.of N j0 hkL)
              have hz2 := hide (fun (e : s.l.of[N + j0] = 0) j (hj : N + j < s.l.of.length) (hjk : N + j < N + j0 + 1) => (show s.l.of[N + j] = 0 from by
                by_cases h : N + j < N + j0
                · exact hz.out j hj h
                · have : j = j0 := by omega
                  subst this
                  exact e))
              generalize s.l.of[N + j0] = x at *
              generalize N + j0 = k at *
              by_cases hx : x = 0
              · have hz3 := hide (hz2.out hx)
                subst hx
                clear hnot hz2
                go_wp2
                go_roundw
                case rel => exact ⟨k + 1, by omega, by omega, by go_num, hz3, by simp⟩
                case measure => simp [intOf]; omega
              · have hxb : ((x : Int) != 0) = true := by simp; exact hx
                have hf := hide (hnot.out hx)
                have hb : b = false := by rw [hS.out, hf.out]; rfl
                subst hb
                clear hx hz2 hnot
                go_wp2
                go_ret
                exact ⟨rfl, hg⟩
            · obtain rfl : k = 64 := by omega
              have ht := hide (all_drop s.l.of N (fun j hj => hz.out j hj (by omega)))
              rw [ht.out, Bool.true_and] at hS
              have hcc := hc2.out
              have Rc := fun (W : World) (h : Grow wr.drew W) => Grow.cell' (Grow.of_drew h) hcc
              have Rr := hide (fun (W : World) (h : Grow wr.drew W) => rangeAt_grow' hra.out (Grow.of_drew h))
              clear hlt hz ht hcells
              cases hcd : decide (0 ≤ s.l.count) with
              | true =>
                rw [hcd, Bool.true_and] at hS
                have hb := hS.out
                subst hb
                clear hS
                have hce : 0 ≤ s.l.count := by simpa using hcd
                clear hcd
                go_wp2_with fail
                refine wpR_region (Grow) [] (by kernel_rfl) ?_
                refine wpR_take grow_rf grow_tr 0 rfl (by kernel_rfl) (fun _ _ _ h => h) rfl (v := ?_) ?_ ?_
                rotate_left
                · (intro w' hG; go_simp; try with_reducible rfl)
                try simp only [Act.put, List.setIfInBounds_toArray, List.set_cons_zero, List.set_cons_succ]
                refine wpR_take grow_rf grow_tr 1 rfl (by kernel_rfl) (fun _ _ _ h => h) rfl (v := ?_) ?_ ?_
                rotate_left
                · (intro w' hG; go_simp; try with_reducible rfl)
                try simp only [Act.put, List.setIfInBounds_toArray, List.set_cons_zero, List.set_cons_succ]
                refine wpR_take grow_rf grow_tr 2 rfl (by kernel_rfl) (fun _ _ _ h => h) rfl (v := ?_) ?_ ?_
                rotate_left
                · (intro w' hG; go_simp; try with_reducible rfl)
                try simp only [Act.put, List.setIfInBounds_toArray, List.set_cons_zero, List.set_cons_succ]
                refine wpR_take grow_rf grow_tr 3 rfl (by kernel_rfl) (fun _ _ _ h => h) rfl (v := ?_) ?_ ?_
                rotate_left
                · (intro w' hG; go_simp; try with_reducible rfl)
                try simp only [Act.put, List.setIfInBounds_toArray, List.set_cons_zero, List.set_cons_succ]
                refine wpR_take grow_rf grow_tr 4 rfl (by kernel_rfl) (fun _ _ _ h => h) rfl (v := ?_) ?_ ?_
                rotate_left
                · (intro w' hG; go_simp; try with_reducible rfl)
                try simp only [Act.put, List.setIfInBounds_toArray, List.set_cons_zero, List.set_cons_succ]
                refine wpR_take grow_rf grow_tr 5 rfl (by kernel_rfl) (fun _ _ _ h => h) rfl (v := ?_) ?_ ?_
                rotate_left
                · (intro w' hG; go_simp; try with_reducible rfl)
                try simp only [Act.put, List.setIfInBounds_toArray, List.set_cons_zero, List.set_cons_succ]
                refine wpR_take grow_rf grow_tr 6 rfl (by kernel_rfl) (fun _ _ _ h => h) rfl (v := ?_) ?_ ?_
                rotate_left
                · (intro w' hG; go_simp; try with_reducible rfl)
                try simp only [Act.put, List.setIfInBounds_toArray, List.set_cons_zero, List.set_cons_succ]
                refine wpR_take grow_rf grow_tr 7 rfl (by kernel_rfl) (fun _ _ _ h => h) rfl (v := ?_) ?_ ?_
                rotate_left
                · (intro w' hG; go_simp; try with_reducible rfl)
                try simp only [Act.put, List.setIfInBounds_toArray, List.set_cons_zero, List.set_cons_succ]
                refine wpR_take grow_rf grow_tr 8 rfl (by kernel_rfl) (fun _ _ _ h => h) rfl (v := ?_) ?_ ?_
                rotate_left
                · (intro w' hG; go_simp; try with_reducible rfl)
                try simp only [Act.put, List.setIfInBounds_toArray, List.set_cons_zero, List.set_cons_succ]
                refine wpR_take grow_rf grow_tr 9 rfl (by kernel_rfl) (fun _ _ _ h => h) rfl (v := ?_) ?_ ?_
                rotate_left
                · (intro w' hG; refine exec_load_mid 34 (.tmp 47) ?_ w.heap.size 2 ?_ (lcs s.l) _ (Rr.out w' hG) Try.underlying34 rfl hszL.out <;> rfl)
                try simp only [Act.put, List.setIfInBounds_toArray, List.set_cons_zero, List.set_cons_succ]
                refine wpR_call 10 rfl (by kernel_rfl) rfl fun K hK => ?_
                go_simp
                refine (hT.out _).mono ?_
                rintro r0 w3 ⟨rfl, hg3⟩
                refine hK.out _ _ (.inr (hg3)) ?_
                clear hK
                try simp only [Act.put, List.setIfInBounds_toArray, List.set_cons_zero, List.set_cons_succ]
                have hg3 : Grow w w3 := Grow.trans hg (Grow.of_drew hg3)
                refine wpR_take grow_rf grow_tr 11 rfl (by kernel_rfl) (fun _ _ _ h => h) rfl (v := ?_) ?_ ?_
                rotate_left
                · (intro w' hG; go_simp; try with_reducible rfl)
                try simp only [Act.put, List.setIfInBounds_toArray, List.set_cons_zero, List.set_cons_succ]
                refine wpR_take grow_rf grow_tr 12 rfl (by kernel_rfl) (fun _ _ _ h => h) rfl (v := ?_) ?_ ?_
                rotate_left
                · (intro w' hG; go_simp; try with_reducible rfl)
                try simp only [Act.put, List.setIfInBounds_toArray, List.set_cons_zero, List.set_cons_succ]
                refine wpR_take grow_rf grow_tr 13 rfl (by kernel_rfl) (fun _ _ _ h => h) rfl (v := ?_) ?_ ?_
                rotate_left
                · (intro w' hG; go_simp; try with_reducible rfl)
                try simp only [Act.put, List.setIfInBounds_toArray, List.set_cons_zero, List.set_cons_succ]
                refine wpR_done (by kernel_rfl) ?_ _
                clear Rc
                go_wp2
                go_ret
                exact ⟨rfl, hg3⟩
              | false =>
                rw [hcd, Bool.false_and] at hS
                have hb := hS.out
                subst hb
                clear hS
                go_wp2_with fail
                refine wpR_region (Grow) [] (by kernel_rfl) ?_
                refine wpR_take grow_rf grow_tr 0 rfl (by kernel_rfl) (fun _ _ _ h => h) rfl (v := ?_) ?_ ?_
                rotate_left
                · (intro w' hG; go_simp; try with_reducible rfl)
                try simp only [Act.put, List.setIfInBounds_toArray, List.set_cons_zero, List.set_cons_succ]
                refine wpR_take grow_rf grow_tr 1 rfl (by kernel_rfl) (fun _ _ _ h => h) rfl (v := ?_) ?_ ?_
                rotate_left
                · (intro w' hG; go_simp; try with_reducible rfl)
                try simp only [Act.put, List.setIfInBounds_toArray, List.set_cons_zero, List.set_cons_succ]
                refine wpR_take grow_rf grow_tr 2 rfl (by kernel_rfl) (fun _ _ _ h => h) rfl (v := ?_) ?_ ?_
                rotate_left
                · (intro w' hG; go_simp; try with_reducible rfl)
                try simp only [Act.put, List.setIfInBounds_toArray, List.set_cons_zero, List.set_cons_succ]
                refine wpR_take grow_rf grow_tr 3 rfl (by kernel_rfl) (fun _ _ _ h => h) rfl (v := ?_) ?_ ?_
                rotate_left
                · (intro w' hG; go_simp; try with_reducible rfl)
                try simp only [Act.put, List.setIfInBounds_toArray, List.set_cons_zero, List.set_cons_succ]
                refine wpR_take grow_rf grow_tr 4 rfl (by kernel_rfl) (fun _ _ _ h => h) rfl (v := ?_) ?_ ?_
                rotate_left
                · (intro w' hG; go_simp; try with_reducible rfl)
                try simp only [Act.put, List.setIfInBounds_toArray, List.set_cons_zero, List.set_cons_succ]
                refine wpR_skip grow_rf grow_tr 5 rfl (by kernel_rfl) (fun _ _ _ h => h) rfl ?_
                try simp only [Act.put, List.setIfInBounds_toArray, List.set_cons_zero, List.set_cons_succ]
                refine wpR_skip grow_rf grow_tr 6 rfl (by kernel_rfl) (fun _ _ _ h => h) rfl ?_
                try simp only [Act.put, List.setIfInBounds_toArray, List.set_cons_zero, List.set_cons_succ]
                refine wpR_skip grow_rf grow_tr 7 rfl (by kernel_rfl) (fun _ _ _ h => h) rfl ?_
                try simp only [Act.put, List.setIfInBounds_toArray, List.set_cons_zero, List.set_cons_succ]
                refine wpR_skip grow_rf grow_tr 8 rfl (by kernel_rfl) (fun _ _ _ h => h) rfl ?_
                try simp only [Act.put, List.setIfInBounds_toArray, List.set_cons_zero, List.set_cons_succ]
                refine wpR_skip grow_rf grow_tr 9 rfl (by kernel_rfl) (fun _ _ _ h => h) rfl ?_
                try simp only [Act.put, List.setIfInBounds_toArray, List.set_cons_zero, List.set_cons_succ]
                refine wpR_skip grow_rf grow_tr 10 rfl (by kernel_rfl) (fun _ _ _ h => h) rfl ?_
                try simp only [Act.put, List.setIfInBounds_toArray, List.set_cons_zero, List.set_cons_succ]
                refine wpR_skip grow_rf grow_tr 11 rfl (by kernel_rfl) (fun _ _ _ h => h) rfl ?_
                try simp only [Act.put, List.setIfInBounds_toArray, List.set_cons_zero, List.set_cons_succ]
                refine wpR_take grow_rf grow_tr 12 rfl (by kernel_rfl) (fun _ _ _ h => h) rfl (v := ?_) ?_ ?_
                rotate_left
                · (intro w' hG; go_simp; try with_reducible rfl)
                try simp only [Act.put, List.setIfInBounds_toArray, List.set_cons_zero, List.set_cons_succ]
                refine wpR_take grow_rf grow_tr 13 rfl (by kernel_rfl) (fun _ _ _ h => h) rfl (v := ?_) ?_ ?_
                rotate_left
                · (intro w' hG; go_simp; try with_reducible rfl)
                try simp only [Act.put, List.setIfInBounds_toArray, List.set_cons_zero, List.set_cons_succ]
                refine wpR_done (by kernel_rfl) ?_ _
                clear Rc
                go_wp2
                go_ret
                exact ⟨rfl, hg.drew⟩
        · rw [decide_eq_false hs, Bool.false_and] at hG
          rw [decide_eq_false hs] at HB
          have hb := hG.out
          subst hb
          clear hs h0 h6 hG
          go_enter Try.func19, Try.ntmps19
          go_wp2_with fail
          refine (HB.out _).mono ?_
          rintro r0 w2 ⟨rfl, hg2⟩
          clear hW
          go_wp2
          go_ret
          exact ⟨rfl, hg.trans hg2⟩
      · rw [decide_eq_false h6, Bool.false_and] at hG
        have hb := hG.out
        subst hb
        have h6' : 1152921504606846976 < s.no := by omega
        clear h6 hG h0
        go_enter Try.func19, Try.ntmps19
        go_wp2
        go_ret
        exact ⟨rfl, hg⟩
    · rw [decide_eq_false h0, Bool.false_and] at hG
      have hb := hG.out
      subst hb
      have h0' : s.no < 0 := by omega
      clear h0 hG
      go_enter Try.func19, Try.ntmps19
      go_wp2
      go_ret
      exact ⟨rfl, hg⟩
end Go.Proofs.Ytbccbfmgjeknhaa
