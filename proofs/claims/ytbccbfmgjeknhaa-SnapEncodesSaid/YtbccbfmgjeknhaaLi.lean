/- States (chapter 41): snap.sums. -/
import Derived.Test.YtbccbfmgjeknhaaLh
namespace Go.Proofs.Ytbccbfmgjeknhaa
open Go.RowKit
theorem rangeAt_grow' {w w' : World} {b o : Nat} {cs : List Value} (h : w.rangeAt b o cs) (hg : Grow w w') : w'.rangeAt b o cs := fun j v hj => Grow.cell' hg (h j v hj)
def sumsB (l : Lg) (n : Nat) : Bool := (l.of.drop n).all (· == 0) && (decide (0 ≤ l.count) && l.count == (l.of.sum : Int))
theorem lcs_c0 (l : Lg) : (lcs l).toArray[0]? = some (.int .i64 l.count) := rfl
theorem lcs_c1 (l : Lg) : (lcs l).toArray[1]? = some (.int .u64 (l.sum : Int)) := rfl
theorem all_drop (L : List Nat) (n : Nat) (h : ∀ j (hj : n + j < L.length), L[n + j] = 0) : (L.drop n).all (· == 0) = true := by
  rw [List.all_eq_true]
  intro x hx
  obtain ⟨j, hj, rfl⟩ := List.getElem_of_mem hx
  rw [List.length_drop] at hj
  rw [List.getElem_drop]
  simpa using h j (by omega)
theorem all_drop_not (L : List Nat) (n j : Nat) (hj : n + j < L.length) (h : L[n + j] ≠ 0) : (L.drop n).all (· == 0) = false := by
  rw [Bool.eq_false_iff]
  intro hh
  rw [List.all_eq_true] at hh
  have := hh L[n + j] (List.mem_iff_getElem.2 ⟨j, by rw [List.length_drop]; omega, by rw [List.getElem_drop]⟩)
  exact h (by simpa using this)
theorem run_slice_low (g n : Nat) (hn : n < 64) (W : World) : (Instr.sliceAt 32 (.pointer (some ⟨g, 2, none⟩)) (some (.int .i64 (n : Int))) none none).run Try.prog W = .ok (.slice (some ⟨g, 2 + n, none⟩) (64 - n) (64 - n)) W := by
  obtain ⟨i0, hi0, hz0, hs0, hb0⟩ := info_parts u32Info
  have h3 : ¬ (64 = n) := by omega
  have h5 : n ≤ 64 := by omega
  simp [Instr.sliceAt, run_underlying Try.underlying32, sizeOf, typeInfo, hi0, hs0, Instr.sureAddr, Instr.sliceBounds, Instr.sliceBound, asIntOf, h3, h5, Result.andThen, Addr.add_mid]
set_option maxRecDepth 100000 in
set_option maxHeartbeats 1000000 in
theorem sums_any (l : Lg) (n : Nat) (w : World) (h : l.Ok) (h1 : 1 ≤ n) (hn : n ≤ 64) : Calls Try.prog 62 #[.agg (lcs l).toArray, .int .i64 n] w fun r w' => r = .returned (.bool (sumsB l n)) ∧ Grow w w' := by
  have hbx := Box.new w (lcs l).toArray 34 rfl
  have hcells := hide (fun k (hk : k < l.of.length) => (hbx.cell (2 + k)).trans (lcs_at l k hk))
  have hT := hide (fun W => ltotal_any l W h)
  have hra : (w.alloc (.cells (lcs l).toArray 34)).rangeAt w.heap.size 0 (lcs l) := range_of hbx _ (fun j v hj => by rw [Nat.zero_add, List.getElem?_toArray]; exact hj)
  have hszL : (Try.prog.info? 34).map (·.size) = some (lcs l).length := by rw [lcs_len l h]; kernel_rfl
  have hszL := hide hszL
  have hra := hide hra
  have hcc : (w.alloc (.cells (lcs l).toArray 34)).cell? ⟨w.heap.size, 0, none⟩ = some (.int .i64 l.count) := (hbx.cell 0).trans (lcs_c0 l)
  have hg := (Grow.refl w).alloc (.cells (lcs l).toArray 34)
  have hS := hide (show sumsB l n = ((l.of.drop n).all (· == 0) && (decide (0 ≤ l.count) && l.count == (l.of.sum : Int))) from rfl)
  have hlen := h.len
  clear hbx h
  generalize sumsB l n = b at *
  generalize hC : lcs l = C at *
  generalize hW : w.alloc (.cells C.toArray 34) = w1 at *
  have hcc := hide hcc
  go_enter Try.func62, Try.ntmps62
  by_cases hn64 : n = 64
  · subst hn64
    go_wp2
    clear hW
    go_loopw [11] (fun i wr => ∃ k : Nat, k ≤ 64 - 64 ∧ i = .int .i64 k ∧ Hid (∀ j (hj : 64 + j < l.of.length), j < k → l.of[64 + j] = 0) ∧ wr = w1) (fun i _ => 64 - (intOf i).toNat)
    case atStart => exact ⟨0, by omega, rfl, hide (fun j _ h => by omega), rfl⟩
    case round =>
      obtain ⟨k, hk, rfl, hz, rfl⟩ := hrel
      by_cases hlt : k < 64 - 64
      · omega
      · obtain rfl : k = 64 - 64 := by omega
        have ht := hide (all_drop l.of 64 (fun j hj => hz.out j hj (by omega)))
        rw [ht.out, Bool.true_and] at hS
        have hcc := hcc.out
        have Rc := fun (W : World) (h : Grow wr.drew W) => Grow.cell' (Grow.of_drew h) hcc
        have Rr := hide (fun (W : World) (h : Grow wr.drew W) => rangeAt_grow' hra.out (Grow.of_drew h))
        clear hlt hz ht hcells
        cases hc0 : decide (0 ≤ l.count) with
        | true =>
          rw [hc0, Bool.true_and] at hS
          have hb := hS.out
          subst hb
          clear hS
          have hc1 : 0 ≤ l.count := by simpa using hc0
          clear hc0
          go_wp2_with fail
          refine wpR_region (Grow) [] (by kernel_rfl) ?_
          refine wpR_take grow_rf grow_tr 0 rfl (by kernel_rfl) (fun _ _ _ h => h) rfl (v := ?_) ?_ ?_
          rotate_left
          · (intro w' hG; go_simp; try with_reducible rfl)
          try simp only [Act.put, List.setIfInBounds_toArray, List.set_cons_zero, List.set_cons_succ]
          refine wpR_take grow_rf grow_tr 1 rfl (by kernel_rfl) (fun _ _ _ h => h) rfl (v := ?_) ?_ ?_
          rotate_left
          · (intro w' hG; go_simp; try with_reducible rfl)
          try simp only [Act.put, List.setIfInBounds_toArray, List.set_cons_zero, List.set_cons_succ]
          refine wpR_take grow_rf grow_tr 2 rfl (by kernel_rfl) (fun _ _ _ h => h) rfl (v := ?_) ?_ ?_
          rotate_left
          · (intro w' hG; go_simp; try with_reducible rfl)
          try simp only [Act.put, List.setIfInBounds_toArray, List.set_cons_zero, List.set_cons_succ]
          refine wpR_take grow_rf grow_tr 3 rfl (by kernel_rfl) (fun _ _ _ h => h) rfl (v := ?_) ?_ ?_
          rotate_left
          · (intro w' hG; go_simp; try with_reducible rfl)
          try simp only [Act.put, List.setIfInBounds_toArray, List.set_cons_zero, List.set_cons_succ]
          refine wpR_take grow_rf grow_tr 4 rfl (by kernel_rfl) (fun _ _ _ h => h) rfl (v := ?_) ?_ ?_
          rotate_left
          · (intro w' hG; go_simp; try with_reducible rfl)
          try simp only [Act.put, List.setIfInBounds_toArray, List.set_cons_zero, List.set_cons_succ]
          refine wpR_take grow_rf grow_tr 5 rfl (by kernel_rfl) (fun _ _ _ h => h) rfl (v := ?_) ?_ ?_
          rotate_left
          · (intro w' hG; go_simp; try with_reducible rfl)
          try simp only [Act.put, List.setIfInBounds_toArray, List.set_cons_zero, List.set_cons_succ]
          refine wpR_take grow_rf grow_tr 6 rfl (by kernel_rfl) (fun _ _ _ h => h) rfl (v := ?_) ?_ ?_
          rotate_left
          · (intro w' hG; refine exec_load_mid 34 (.tmp 2) ?_ w.heap.size 0 ?_ C _ (Rr.out w' hG) Try.underlying34 rfl hszL.out <;> rfl)
          try simp only [Act.put, List.setIfInBounds_toArray, List.set_cons_zero, List.set_cons_succ]
          refine wpR_call 7 rfl (by kernel_rfl) rfl fun K hK => ?_
          go_simp
          refine (hT.out _).mono ?_
          rintro r0 w3 ⟨rfl, hg3⟩
          refine hK.out _ _ (.inr (hg3)) ?_
          clear hK
          try simp only [Act.put, List.setIfInBounds_toArray, List.set_cons_zero, List.set_cons_succ]
          have hg3 : Grow w w3 := Grow.trans hg (Grow.of_drew hg3)
          refine wpR_take grow_rf grow_tr 8 rfl (by kernel_rfl) (fun _ _ _ h => h) rfl (v := ?_) ?_ ?_
          rotate_left
          · (intro w' hG; go_simp; try with_reducible rfl)
          try simp only [Act.put, List.setIfInBounds_toArray, List.set_cons_zero, List.set_cons_succ]
          refine wpR_take grow_rf grow_tr 9 rfl (by kernel_rfl) (fun _ _ _ h => h) rfl (v := ?_) ?_ ?_
          rotate_left
          · (intro w' hG; go_simp; try with_reducible rfl)
          try simp only [Act.put, List.setIfInBounds_toArray, List.set_cons_zero, List.set_cons_succ]
          refine wpR_take grow_rf grow_tr 10 rfl (by kernel_rfl) (fun _ _ _ h => h) rfl (v := ?_) ?_ ?_
          rotate_left
          · (intro w' hG; go_simp; try with_reducible rfl)
          try simp only [Act.put, List.setIfInBounds_toArray, List.set_cons_zero, List.set_cons_succ]
          refine wpR_done (by kernel_rfl) ?_ _
          clear Rc
          go_wp2
          go_ret
          exact ⟨rfl, hg3⟩
        | false =>
          rw [hc0, Bool.false_and] at hS
          have hb := hS.out
          subst hb
          clear hS
          go_wp2_with fail
          refine wpR_region (Grow) [] (by kernel_rfl) ?_
          refine wpR_take grow_rf grow_tr 0 rfl (by kernel_rfl) (fun _ _ _ h => h) rfl (v := ?_) ?_ ?_
          rotate_left
          · (intro w' hG; go_simp; try with_reducible rfl)
          try simp only [Act.put, List.setIfInBounds_toArray, List.set_cons_zero, List.set_cons_succ]
          refine wpR_take grow_rf grow_tr 1 rfl (by kernel_rfl) (fun _ _ _ h => h) rfl (v := ?_) ?_ ?_
          rotate_left
          · (intro w' hG; go_simp; try with_reducible rfl)
          try simp only [Act.put, List.setIfInBounds_toArray, List.set_cons_zero, List.set_cons_succ]
          refine wpR_take grow_rf grow_tr 2 rfl (by kernel_rfl) (fun _ _ _ h => h) rfl (v := ?_) ?_ ?_
          rotate_left
          · (intro w' hG; go_simp; try with_reducible rfl)
          try simp only [Act.put, List.setIfInBounds_toArray, List.set_cons_zero, List.set_cons_succ]
          refine wpR_take grow_rf grow_tr 3 rfl (by kernel_rfl) (fun _ _ _ h => h) rfl (v := ?_) ?_ ?_
          rotate_left
          · (intro w' hG; go_simp; try with_reducible rfl)
          try simp only [Act.put, List.setIfInBounds_toArray, List.set_cons_zero, List.set_cons_succ]
          refine wpR_skip grow_rf grow_tr 4 rfl (by kernel_rfl) (fun _ _ _ h => h) rfl ?_
          try simp only [Act.put, List.setIfInBounds_toArray, List.set_cons_zero, List.set_cons_succ]
          refine wpR_skip grow_rf grow_tr 5 rfl (by kernel_rfl) (fun _ _ _ h => h) rfl ?_
          try simp only [Act.put, List.setIfInBounds_toArray, List.set_cons_zero, List.set_cons_succ]
          refine wpR_skip grow_rf grow_tr 6 rfl (by kernel_rfl) (fun _ _ _ h => h) rfl ?_
          try simp only [Act.put, List.setIfInBounds_toArray, List.set_cons_zero, List.set_cons_succ]
          refine wpR_skip grow_rf grow_tr 7 rfl (by kernel_rfl) (fun _ _ _ h => h) rfl ?_
          try simp only [Act.put, List.setIfInBounds_toArray, List.set_cons_zero, List.set_cons_succ]
          refine wpR_skip grow_rf grow_tr 8 rfl (by kernel_rfl) (fun _ _ _ h => h) rfl ?_
          try simp only [Act.put, List.setIfInBounds_toArray, List.set_cons_zero, List.set_cons_succ]
          refine wpR_take grow_rf grow_tr 9 rfl (by kernel_rfl) (fun _ _ _ h => h) rfl (v := ?_) ?_ ?_
          rotate_left
          · (intro w' hG; go_simp; try with_reducible rfl)
          try simp only [Act.put, List.setIfInBounds_toArray, List.set_cons_zero, List.set_cons_succ]
          refine wpR_take grow_rf grow_tr 10 rfl (by kernel_rfl) (fun _ _ _ h => h) rfl (v := ?_) ?_ ?_
          rotate_left
          · (intro w' hG; go_simp; try with_reducible rfl)
          try simp only [Act.put, List.setIfInBounds_toArray, List.set_cons_zero, List.set_cons_succ]
          refine wpR_done (by kernel_rfl) ?_ _
          clear Rc
          go_wp2
          go_ret
          exact ⟨rfl, hg.drew⟩
  · have hni : (n : Int) < 64 := by omega
    have hsl := run_slice_low w.heap.size n (by omega) w1
    have h64 : ((64 - n : Nat) : Int) = 64 - (n : Int) := by omega
    clear hn64
    go_wp2
    clear hW hsl
    go_loopw [11] (fun i wr => ∃ k : Nat, k ≤ 64 - n ∧ i = .int .i64 k ∧ Hid (∀ j (hj : n + j < l.of.length), j < k → l.of[n + j] = 0) ∧ wr = w1) (fun i _ => 64 - (intOf i).toNat)
    case atStart => exact ⟨0, by omega, rfl, hide (fun j _ h => by omega), rfl⟩
    case round =>
      obtain ⟨k, hk, rfl, hz, rfl⟩ := hrel
      by_cases hlt : k < 64 - n
      · have hki : (k : Int) < ((64 - n : Nat) : Int) := by omega
        have hkL : n + k < l.of.length := by omega
        have hcell := hcells.out (n + k) hkL
        rw [show 2 + (n + k) = 2 + n + k by omega] at hcell
        have hnot := hide (all_drop_not l.of n k hkL)
        have hz2 := hide (fun (e : l.of[n + k] = 0) j (hj : n + j < l.of.length) (hjk : j < k + 1) => (show l.of[n + j] = 0 from by
          by_cases h : j < k
          · exact hz.out j hj h
          · have : j = k := by omega
            subst this
            exact e))
        generalize l.of[n + k] = x at *
        by_cases hx : x = 0
        · have hz3 := hide (hz2.out hx)
          subst hx
          clear hnot hz2
          go_wp2
          go_roundw
          case rel => exact ⟨k + 1, by omega, by go_num, hz3, by simp⟩
          case measure => simp [intOf]; omega
        · have hxb : ((x : Int) != 0) = true := by simp; exact hx
          have hf := hide (hnot.out hx)
          have hb : b = false := by rw [hS.out, hf.out]; rfl
          subst hb
          clear hx hz2 hnot
          go_wp2
          go_ret
          exact ⟨rfl, hg⟩
      · obtain rfl : k = 64 - n := by omega
        have ht := hide (all_drop l.of n (fun j hj => hz.out j hj (by omega)))
        rw [ht.out, Bool.true_and] at hS
        have hcc := hcc.out
        have Rc := fun (W : World) (h : Grow wr.drew W) => Grow.cell' (Grow.of_drew h) hcc
        have Rr := hide (fun (W : World) (h : Grow wr.drew W) => rangeAt_grow' hra.out (Grow.of_drew h))
        clear hlt hz ht hcells
        cases hc0 : decide (0 ≤ l.count) with
        | true =>
          rw [hc0, Bool.true_and] at hS
          have hb := hS.out
          subst hb
          clear hS
          have hc1 : 0 ≤ l.count := by simpa using hc0
          clear hc0
          go_wp2_with fail
          refine wpR_region (Grow) [] (by kernel_rfl) ?_
          refine wpR_take grow_rf grow_tr 0 rfl (by kernel_rfl) (fun _ _ _ h => h) rfl (v := ?_) ?_ ?_
          rotate_left
          · (intro w' hG; go_simp; try with_reducible rfl)
          try simp only [Act.put, List.setIfInBounds_toArray, List.set_cons_zero, List.set_cons_succ]
          refine wpR_take grow_rf grow_tr 1 rfl (by kernel_rfl) (fun _ _ _ h => h) rfl (v := ?_) ?_ ?_
          rotate_left
          · (intro w' hG; go_simp; try with_reducible rfl)
          try simp only [Act.put, List.setIfInBounds_toArray, List.set_cons_zero, List.set_cons_succ]
          refine wpR_take grow_rf grow_tr 2 rfl (by kernel_rfl) (fun _ _ _ h => h) rfl (v := ?_) ?_ ?_
          rotate_left
          · (intro w' hG; go_simp; try with_reducible rfl)
          try simp only [Act.put, List.setIfInBounds_toArray, List.set_cons_zero, List.set_cons_succ]
          refine wpR_take grow_rf grow_tr 3 rfl (by kernel_rfl) (fun _ _ _ h => h) rfl (v := ?_) ?_ ?_
          rotate_left
          · (intro w' hG; go_simp; try with_reducible rfl)
          try simp only [Act.put, List.setIfInBounds_toArray, List.set_cons_zero, List.set_cons_succ]
          refine wpR_take grow_rf grow_tr 4 rfl (by kernel_rfl) (fun _ _ _ h => h) rfl (v := ?_) ?_ ?_
          rotate_left
          · (intro w' hG; go_simp; try with_reducible rfl)
          try simp only [Act.put, List.setIfInBounds_toArray, List.set_cons_zero, List.set_cons_succ]
          refine wpR_take grow_rf grow_tr 5 rfl (by kernel_rfl) (fun _ _ _ h => h) rfl (v := ?_) ?_ ?_
          rotate_left
          · (intro w' hG; go_simp; try with_reducible rfl)
          try simp only [Act.put, List.setIfInBounds_toArray, List.set_cons_zero, List.set_cons_succ]
          refine wpR_take grow_rf grow_tr 6 rfl (by kernel_rfl) (fun _ _ _ h => h) rfl (v := ?_) ?_ ?_
          rotate_left
          · (intro w' hG; refine exec_load_mid 34 (.tmp 2) ?_ w.heap.size 0 ?_ C _ (Rr.out w' hG) Try.underlying34 rfl hszL.out <;> rfl)
          try simp only [Act.put, List.setIfInBounds_toArray, List.set_cons_zero, List.set_cons_succ]
          refine wpR_call 7 rfl (by kernel_rfl) rfl fun K hK => ?_
          go_simp
          refine (hT.out _).mono ?_
          rintro r0 w3 ⟨rfl, hg3⟩
          refine hK.out _ _ (.inr (hg3)) ?_
          clear hK
          try simp only [Act.put, List.setIfInBounds_toArray, List.set_cons_zero, List.set_cons_succ]
          have hg3 : Grow w w3 := Grow.trans hg (Grow.of_drew hg3)
          refine wpR_take grow_rf grow_tr 8 rfl (by kernel_rfl) (fun _ _ _ h => h) rfl (v := ?_) ?_ ?_
          rotate_left
          · (intro w' hG; go_simp; try with_reducible rfl)
          try simp only [Act.put, List.setIfInBounds_toArray, List.set_cons_zero, List.set_cons_succ]
          refine wpR_take grow_rf grow_tr 9 rfl (by kernel_rfl) (fun _ _ _ h => h) rfl (v := ?_) ?_ ?_
          rotate_left
          · (intro w' hG; go_simp; try with_reducible rfl)
          try simp only [Act.put, List.setIfInBounds_toArray, List.set_cons_zero, List.set_cons_succ]
          refine wpR_take grow_rf grow_tr 10 rfl (by kernel_rfl) (fun _ _ _ h => h) rfl (v := ?_) ?_ ?_
          rotate_left
          · (intro w' hG; go_simp; try with_reducible rfl)
          try simp only [Act.put, List.setIfInBounds_toArray, List.set_cons_zero, List.set_cons_succ]
          refine wpR_done (by kernel_rfl) ?_ _
          clear Rc
          go_wp2
          go_ret
          exact ⟨rfl, hg3⟩
        | false =>
          rw [hc0, Bool.false_and] at hS
          have hb := hS.out
          subst hb
          clear hS
          go_wp2_with fail
          refine wpR_region (Grow) [] (by kernel_rfl) ?_
          refine wpR_take grow_rf grow_tr 0 rfl (by kernel_rfl) (fun _ _ _ h => h) rfl (v := ?_) ?_ ?_
          rotate_left
          · (intro w' hG; go_simp; try with_reducible rfl)
          try simp only [Act.put, List.setIfInBounds_toArray, List.set_cons_zero, List.set_cons_succ]
          refine wpR_take grow_rf grow_tr 1 rfl (by kernel_rfl) (fun _ _ _ h => h) rfl (v := ?_) ?_ ?_
          rotate_left
          · (intro w' hG; go_simp; try with_reducible rfl)
          try simp only [Act.put, List.setIfInBounds_toArray, List.set_cons_zero, List.set_cons_succ]
          refine wpR_take grow_rf grow_tr 2 rfl (by kernel_rfl) (fun _ _ _ h => h) rfl (v := ?_) ?_ ?_
          rotate_left
          · (intro w' hG; go_simp; try with_reducible rfl)
          try simp only [Act.put, List.setIfInBounds_toArray, List.set_cons_zero, List.set_cons_succ]
          refine wpR_take grow_rf grow_tr 3 rfl (by kernel_rfl) (fun _ _ _ h => h) rfl (v := ?_) ?_ ?_
          rotate_left
          · (intro w' hG; go_simp; try with_reducible rfl)
          try simp only [Act.put, List.setIfInBounds_toArray, List.set_cons_zero, List.set_cons_succ]
          refine wpR_skip grow_rf grow_tr 4 rfl (by kernel_rfl) (fun _ _ _ h => h) rfl ?_
          try simp only [Act.put, List.setIfInBounds_toArray, List.set_cons_zero, List.set_cons_succ]
          refine wpR_skip grow_rf grow_tr 5 rfl (by kernel_rfl) (fun _ _ _ h => h) rfl ?_
          try simp only [Act.put, List.setIfInBounds_toArray, List.set_cons_zero, List.set_cons_succ]
          refine wpR_skip grow_rf grow_tr 6 rfl (by kernel_rfl) (fun _ _ _ h => h) rfl ?_
          try simp only [Act.put, List.setIfInBounds_toArray, List.set_cons_zero, List.set_cons_succ]
          refine wpR_skip grow_rf grow_tr 7 rfl (by kernel_rfl) (fun _ _ _ h => h) rfl ?_
          try simp only [Act.put, List.setIfInBounds_toArray, List.set_cons_zero, List.set_cons_succ]
          refine wpR_skip grow_rf grow_tr 8 rfl (by kernel_rfl) (fun _ _ _ h => h) rfl ?_
          try simp only [Act.put, List.setIfInBounds_toArray, List.set_cons_zero, List.set_cons_succ]
          refine wpR_take grow_rf grow_tr 9 rfl (by kernel_rfl) (fun _ _ _ h => h) rfl (v := ?_) ?_ ?_
          rotate_left
          · (intro w' hG; go_simp; try with_reducible rfl)
          try simp only [Act.put, List.setIfInBounds_toArray, List.set_cons_zero, List.set_cons_succ]
          refine wpR_take grow_rf grow_tr 10 rfl (by kernel_rfl) (fun _ _ _ h => h) rfl (v := ?_) ?_ ?_
          rotate_left
          · (intro w' hG; go_simp; try with_reducible rfl)
          try simp only [Act.put, List.setIfInBounds_toArray, List.set_cons_zero, List.set_cons_succ]
          refine wpR_done (by kernel_rfl) ?_ _
          clear Rc
          go_wp2
          go_ret
          exact ⟨rfl, hg.drew⟩
end Go.Proofs.Ytbccbfmgjeknhaa
