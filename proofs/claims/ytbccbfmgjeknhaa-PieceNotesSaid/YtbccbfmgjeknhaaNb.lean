/- The document's Note (chapter 42). -/
import Derived.Test.YtbccbfmgjeknhaaNa
namespace Go.Proofs.Ytbccbfmgjeknhaa
open Go.RowKit
def RNP (w : World) (R : List PB × Int) (r : Ending) (w' : World) : Prop := (∃ A' c', r = .returned (.tuple #[.slice A' R.1.length c', .int .i64 R.2]) ∧ Pks w' A' R.1) ∧ Grow w w'
set_option maxRecDepth 100000 in
set_option maxHeartbeats 4000000 in
theorem refnote_nil (sf : Int) (A : Option Addr) (c : Nat) (q : PB) (w : World) (hqb : Bytes w q.A q.l) (hqn : q.l.length ≤ 1000000) :
    Calls Try.prog 30 #[.slice A 0 c, .int .i64 sf, pv q.p q.A q.l.length q.c] w fun r w' => RNP w (rnote sf [] q) r w' := by
  have HC := hide (fun W => refchunkgood_any q.p q.A q.l.length q.c W (by omega))
  have HR := hide (show rnote sf [] q = if chunkB q.p q.l.length = false then ([], 1) else if q.p.to ≠ sf then ([], 8) else ([q], 0) by simp [rnote])
  have hl0 : Pks w A [] := fun h => absurd rfl h
  have hbl : Hid (∀ y : PB, y ∈ ([] : List PB) → Bytes w y.A y.l) := hide (by simp)
  have hlen : ([] : List PB).length ≤ 1000 := by simp
  generalize rnote sf [] q = R at *
  go_enter Try.func30, Try.ntmps30
  go_wp2_with fail
  generalize hcb : chunkB q.p q.l.length = cb at *
  refine (HC.out _).mono ?_
  rintro r0 w1 ⟨rfl, hb1⟩
  have hb1 : Grow _ w1 := hb1
  obtain ⟨q0, hg1⟩ := peel1 hb1
  clear hb1 HC hcb
  cases cb with
  | false =>
    have HRz := hide (HR.out.trans (if_pos rfl))
    clear HR
    go_wp2
    refine bodyPost_ret (results_tmp2 rfl _ _ _) rfl ?_
    rw [HRz.out]
    exact ⟨⟨_, _, rfl, hl0.grow hg1⟩, hg1⟩
  | true =>
    have HR2 := hide (HR.out.trans (if_neg (by simp)))
    clear HR
    have c1 := q0.cell
    by_cases hto : q.p.to = sf
    rotate_left
    · have HRz := hide (HR2.out.trans (if_pos hto))
      clear HR2
      go_wp2
      refine bodyPost_ret (results_tmp2 rfl _ _ _) rfl ?_
      rw [HRz.out]
      exact ⟨⟨_, _, rfl, hl0.grow hg1⟩, hg1⟩
    · have HRz := hide (HR2.out.trans (if_neg (by simpa using hto)))
      have htb : (q.p.to != sf) = false := by simpa using hto
      clear HR2 hto
      have Rq := fun (W : World) (h : Grow w1.drew W) => (q0.grow (Grow.of_drew h)).cell
      go_wp2_with fail
      refine wpR_region (Grow) [] (by kernel_rfl) ?_
      refine wpR_take grow_rf grow_tr 0 rfl (by kernel_rfl) (fun _ _ _ h => h) rfl (v := ?_) ?_ ?_
      rotate_left
      · (intro w' hG; go_simp; try with_reducible rfl)
      try simp only [Act.put, List.setIfInBounds_toArray, List.set_cons_zero, List.set_cons_succ]
      refine wpR_take grow_rf grow_tr 1 rfl (by kernel_rfl) (fun _ _ _ h => h) rfl (v := ?_) ?_ ?_
      rotate_left
      · (intro w' hG; go_simp; try with_reducible rfl)
      try simp only [Act.put, List.setIfInBounds_toArray, List.set_cons_zero, List.set_cons_succ]
      refine wpR_take grow_rf grow_tr 2 rfl (by kernel_rfl) (fun _ _ _ h => h) rfl (v := ?_) ?_ ?_
      rotate_left
      · (intro w' hG; go_simp; try with_reducible rfl)
      try simp only [Act.put, List.setIfInBounds_toArray, List.set_cons_zero, List.set_cons_succ]
      refine wpR_take grow_rf grow_tr 3 rfl (by kernel_rfl) (fun _ _ _ h => h) rfl (v := ?_) ?_ ?_
      rotate_left
      · (intro w' hG; go_simp; try with_reducible rfl)
      try simp only [Act.put, List.setIfInBounds_toArray, List.set_cons_zero, List.set_cons_succ]
      refine wpR_skip grow_rf grow_tr 4 rfl (by kernel_rfl) (fun _ _ _ h => h) rfl ?_
      try simp only [Act.put, List.setIfInBounds_toArray, List.set_cons_zero, List.set_cons_succ]
      refine wpR_skip grow_rf grow_tr 5 rfl (by kernel_rfl) (fun _ _ _ h => h) rfl ?_
      try simp only [Act.put, List.setIfInBounds_toArray, List.set_cons_zero, List.set_cons_succ]
      refine wpR_skip grow_rf grow_tr 6 rfl (by kernel_rfl) (fun _ _ _ h => h) rfl ?_
      try simp only [Act.put, List.setIfInBounds_toArray, List.set_cons_zero, List.set_cons_succ]
      refine wpR_skip grow_rf grow_tr 7 rfl (by kernel_rfl) (fun _ _ _ h => h) rfl ?_
      try simp only [Act.put, List.setIfInBounds_toArray, List.set_cons_zero, List.set_cons_succ]
      refine wpR_skip grow_rf grow_tr 8 rfl (by kernel_rfl) (fun _ _ _ h => h) rfl ?_
      try simp only [Act.put, List.setIfInBounds_toArray, List.set_cons_zero, List.set_cons_succ]
      refine wpR_skip grow_rf grow_tr 9 rfl (by kernel_rfl) (fun _ _ _ h => h) rfl ?_
      try simp only [Act.put, List.setIfInBounds_toArray, List.set_cons_zero, List.set_cons_succ]
      refine wpR_skip grow_rf grow_tr 10 rfl (by kernel_rfl) (fun _ _ _ h => h) rfl ?_
      try simp only [Act.put, List.setIfInBounds_toArray, List.set_cons_zero, List.set_cons_succ]
      refine wpR_take grow_rf grow_tr 11 rfl (by kernel_rfl) (fun _ _ _ h => h) rfl (v := ?_) ?_ ?_
      rotate_left
      · (intro w' hG; go_simp; try with_reducible rfl)
      try simp only [Act.put, List.setIfInBounds_toArray, List.set_cons_zero, List.set_cons_succ]
      refine wpR_done (by kernel_rfl) ?_ _
      have q2 := q0.drew
      have hg2 : Grow w w1.drew := hg1.drew
      clear Rq c1 q0 hg1
      generalize w1.drew = w2 at *
      go_wp2_with fail
      refine wpR_region (Grow) [] (by kernel_rfl) ?_
      refine wpR_take grow_rf grow_tr 0 rfl (by kernel_rfl) (fun _ _ _ h => h) rfl (v := ?_) ?_ ?_
      rotate_left
      · (intro w' hG; go_simp; try with_reducible rfl)
      try simp only [Act.put, List.setIfInBounds_toArray, List.set_cons_zero, List.set_cons_succ]
      refine wpR_take grow_rf grow_tr 1 rfl (by kernel_rfl) (fun _ _ _ h => h) rfl (v := ?_) ?_ ?_
      rotate_left
      · (intro w' hG; go_simp; try with_reducible rfl)
      try simp only [Act.put, List.setIfInBounds_toArray, List.set_cons_zero, List.set_cons_succ]
      refine wpR_take grow_rf grow_tr 2 rfl (by kernel_rfl) (fun _ _ _ h => h) rfl (v := ?_) ?_ ?_
      rotate_left
      · (intro w' hG; go_simp; try with_reducible rfl)
      try simp only [Act.put, List.setIfInBounds_toArray, List.set_cons_zero, List.set_cons_succ]
      refine wpR_take grow_rf grow_tr 3 rfl (by kernel_rfl) (fun _ _ _ h => h) rfl (v := ?_) ?_ ?_
      rotate_left
      · (intro w' hG; go_simp; try with_reducible rfl)
      try simp only [Act.put, List.setIfInBounds_toArray, List.set_cons_zero, List.set_cons_succ]
      refine wpR_skip grow_rf grow_tr 4 rfl (by kernel_rfl) (fun _ _ _ h => h) rfl ?_
      try simp only [Act.put, List.setIfInBounds_toArray, List.set_cons_zero, List.set_cons_succ]
      refine wpR_skip grow_rf grow_tr 5 rfl (by kernel_rfl) (fun _ _ _ h => h) rfl ?_
      try simp only [Act.put, List.setIfInBounds_toArray, List.set_cons_zero, List.set_cons_succ]
      refine wpR_skip grow_rf grow_tr 6 rfl (by kernel_rfl) (fun _ _ _ h => h) rfl ?_
      try simp only [Act.put, List.setIfInBounds_toArray, List.set_cons_zero, List.set_cons_succ]
      refine wpR_skip grow_rf grow_tr 7 rfl (by kernel_rfl) (fun _ _ _ h => h) rfl ?_
      try simp only [Act.put, List.setIfInBounds_toArray, List.set_cons_zero, List.set_cons_succ]
      refine wpR_skip grow_rf grow_tr 8 rfl (by kernel_rfl) (fun _ _ _ h => h) rfl ?_
      try simp only [Act.put, List.setIfInBounds_toArray, List.set_cons_zero, List.set_cons_succ]
      refine wpR_skip grow_rf grow_tr 9 rfl (by kernel_rfl) (fun _ _ _ h => h) rfl ?_
      try simp only [Act.put, List.setIfInBounds_toArray, List.set_cons_zero, List.set_cons_succ]
      refine wpR_skip grow_rf grow_tr 10 rfl (by kernel_rfl) (fun _ _ _ h => h) rfl ?_
      try simp only [Act.put, List.setIfInBounds_toArray, List.set_cons_zero, List.set_cons_succ]
      refine wpR_take grow_rf grow_tr 11 rfl (by kernel_rfl) (fun _ _ _ h => h) rfl (v := ?_) ?_ ?_
      rotate_left
      · (intro w' hG; go_simp; try with_reducible rfl)
      try simp only [Act.put, List.setIfInBounds_toArray, List.set_cons_zero, List.set_cons_succ]
      refine wpR_take grow_rf grow_tr 12 rfl (by kernel_rfl) (fun _ _ _ h => h) rfl (v := ?_) ?_ ?_
      rotate_left
      · (intro w' hG; go_simp; try with_reducible rfl)
      try simp only [Act.put, List.setIfInBounds_toArray, List.set_cons_zero, List.set_cons_succ]
      refine wpR_skip grow_rf grow_tr 13 rfl (by kernel_rfl) (fun _ _ _ h => h) rfl ?_
      try simp only [Act.put, List.setIfInBounds_toArray, List.set_cons_zero, List.set_cons_succ]
      refine wpR_skip grow_rf grow_tr 14 rfl (by kernel_rfl) (fun _ _ _ h => h) rfl ?_
      try simp only [Act.put, List.setIfInBounds_toArray, List.set_cons_zero, List.set_cons_succ]
      refine wpR_skip grow_rf grow_tr 15 rfl (by kernel_rfl) (fun _ _ _ h => h) rfl ?_
      try simp only [Act.put, List.setIfInBounds_toArray, List.set_cons_zero, List.set_cons_succ]
      refine wpR_skip grow_rf grow_tr 16 rfl (by kernel_rfl) (fun _ _ _ h => h) rfl ?_
      try simp only [Act.put, List.setIfInBounds_toArray, List.set_cons_zero, List.set_cons_succ]
      refine wpR_skip grow_rf grow_tr 17 rfl (by kernel_rfl) (fun _ _ _ h => h) rfl ?_
      try simp only [Act.put, List.setIfInBounds_toArray, List.set_cons_zero, List.set_cons_succ]
      refine wpR_skip grow_rf grow_tr 18 rfl (by kernel_rfl) (fun _ _ _ h => h) rfl ?_
      try simp only [Act.put, List.setIfInBounds_toArray, List.set_cons_zero, List.set_cons_succ]
      refine wpR_skip grow_rf grow_tr 19 rfl (by kernel_rfl) (fun _ _ _ h => h) rfl ?_
      try simp only [Act.put, List.setIfInBounds_toArray, List.set_cons_zero, List.set_cons_succ]
      refine wpR_take grow_rf grow_tr 20 rfl (by kernel_rfl) (fun _ _ _ h => h) rfl (v := ?_) ?_ ?_
      rotate_left
      · (intro w' hG; go_simp; try with_reducible rfl)
      try simp only [Act.put, List.setIfInBounds_toArray, List.set_cons_zero, List.set_cons_succ]
      refine wpR_done (by kernel_rfl) ?_ _
      have q3 := q2.drew
      have hg3 : Grow w w2.drew := hg2.drew
      clear q2 hg2
      generalize w2.drew = w3 at *
      go_wp2_with fail
      refine wpR_region (Grow) [] (by kernel_rfl) ?_
      refine wpR_take grow_rf grow_tr 0 rfl (by kernel_rfl) (fun _ _ _ h => h) rfl (v := ?_) ?_ ?_
      rotate_left
      · (intro w' hG; go_simp; try with_reducible rfl)
      try simp only [Act.put, List.setIfInBounds_toArray, List.set_cons_zero, List.set_cons_succ]
      refine wpR_take grow_rf grow_tr 1 rfl (by kernel_rfl) (fun _ _ _ h => h) rfl (v := ?_) ?_ ?_
      rotate_left
      · (intro w' hG; go_simp; try with_reducible rfl)
      try simp only [Act.put, List.setIfInBounds_toArray, List.set_cons_zero, List.set_cons_succ]
      refine wpR_take grow_rf grow_tr 2 rfl (by kernel_rfl) (fun _ _ _ h => h) rfl (v := ?_) ?_ ?_
      rotate_left
      · (intro w' hG; go_simp; try with_reducible rfl)
      try simp only [Act.put, List.setIfInBounds_toArray, List.set_cons_zero, List.set_cons_succ]
      refine wpR_take grow_rf grow_tr 3 rfl (by kernel_rfl) (fun _ _ _ h => h) rfl (v := ?_) ?_ ?_
      rotate_left
      · (intro w' hG; go_simp; try with_reducible rfl)
      try simp only [Act.put, List.setIfInBounds_toArray, List.set_cons_zero, List.set_cons_succ]
      refine wpR_skip grow_rf grow_tr 4 rfl (by kernel_rfl) (fun _ _ _ h => h) rfl ?_
      try simp only [Act.put, List.setIfInBounds_toArray, List.set_cons_zero, List.set_cons_succ]
      refine wpR_skip grow_rf grow_tr 5 rfl (by kernel_rfl) (fun _ _ _ h => h) rfl ?_
      try simp only [Act.put, List.setIfInBounds_toArray, List.set_cons_zero, List.set_cons_succ]
      refine wpR_skip grow_rf grow_tr 6 rfl (by kernel_rfl) (fun _ _ _ h => h) rfl ?_
      try simp only [Act.put, List.setIfInBounds_toArray, List.set_cons_zero, List.set_cons_succ]
      refine wpR_skip grow_rf grow_tr 7 rfl (by kernel_rfl) (fun _ _ _ h => h) rfl ?_
      try simp only [Act.put, List.setIfInBounds_toArray, List.set_cons_zero, List.set_cons_succ]
      refine wpR_skip grow_rf grow_tr 8 rfl (by kernel_rfl) (fun _ _ _ h => h) rfl ?_
      try simp only [Act.put, List.setIfInBounds_toArray, List.set_cons_zero, List.set_cons_succ]
      refine wpR_skip grow_rf grow_tr 9 rfl (by kernel_rfl) (fun _ _ _ h => h) rfl ?_
      try simp only [Act.put, List.setIfInBounds_toArray, List.set_cons_zero, List.set_cons_succ]
      refine wpR_skip grow_rf grow_tr 10 rfl (by kernel_rfl) (fun _ _ _ h => h) rfl ?_
      try simp only [Act.put, List.setIfInBounds_toArray, List.set_cons_zero, List.set_cons_succ]
      refine wpR_take grow_rf grow_tr 11 rfl (by kernel_rfl) (fun _ _ _ h => h) rfl (v := ?_) ?_ ?_
      rotate_left
      · (intro w' hG; go_simp; try with_reducible rfl)
      try simp only [Act.put, List.setIfInBounds_toArray, List.set_cons_zero, List.set_cons_succ]
      refine wpR_done (by kernel_rfl) ?_ _
      have q4 := q3.drew
      have hg4 : Grow w w3.drew := hg3.drew
      clear q3 hg3
      generalize w3.drew = w4 at *
      go_wp2
      go_loopw [8] (fun i wr => i = .int .i64 0 ∧ wr = w4) (fun _ _ => 0)
      case atStart => exact ⟨rfl, rfl⟩
      case round =>
        obtain ⟨rfl, rfl⟩ := hrel
        have q9 := q4.drew
        have HG := hide (show Grow w wr.drew from hg4.drew)
        have hl := hl0.grow HG.out
        have Rq := fun (W : World) (h : Grow wr.drew W) => (q9.grow h).cell
        clear q4 hg4 htb
        go_wp2_with fail
        refine wpR_region (Grow) [5] (by kernel_rfl) ?_
        generalize wr.drew = wd at *
        refine wpR_takeV [2, 5] grow_rf grow_tr 1 rfl (by kernel_rfl) (fun _ _ _ h => h) rfl (v := ?_) ?_ ?_
        rotate_left
        · (intro w' hG; go_simp; try with_reducible rfl)
        try simp only [Act.put, List.setIfInBounds_toArray, List.set_cons_zero, List.set_cons_succ]
        refine wpR_takeV [4, 5] grow_rf grow_tr 3 rfl (by kernel_rfl) (fun _ _ _ h => h) rfl (v := ?_) ?_ ?_
        rotate_left
        · (intro w' hG; go_simp; try with_reducible rfl)
        try simp only [Act.put, List.setIfInBounds_toArray, List.set_cons_zero, List.set_cons_succ]
        refine wpR_two 0 4 rfl rfl (by kernel_rfl) rfl rfl (fun K hK => ?_) (fun K hK => ?_)
        · go_simp
          generalize hWa : World.alloc _ _ = wa
          obtain ⟨own0, ga⟩ := made_pk (N := w.heap.size) hWa rfl (HG.out.size)
          refine hK.out _ _ (.inr (ga)) ?_
          clear hK
          try simp only [Act.put, List.setIfInBounds_toArray, List.set_cons_zero, List.set_cons_succ]
          clear hWa
          have own0 := hide own0
          have hl := hl.grow ga
          have q9 := q9.grow ga
          try have bx := bx.grow ga
          have HG := hide (Grow.trans HG.out ga)
          clear ga
          have Rq := fun (W : World) (h : Grow wa W) => (q9.grow h).cell
          refine wpR_two 2 4 rfl rfl (by kernel_rfl) rfl rfl (fun K hK => ?_) (fun K hK => ?_)
          · refine wp_append_pk (.tmp 82) (.tmp 83) rfl rfl rfl own0.out HG.out.size hl hlen ?_
            intro g2 c2 w2 own2 gc
            refine hK.out _ _ (.inr (gc)) ?_
            clear hK
            try simp only [Act.put, List.setIfInBounds_toArray, List.set_cons_zero, List.set_cons_succ]
            have own2 := hide own2
            have hl := hl.grow gc
            have q9 := q9.grow gc
            try have bx := bx.grow gc
            have HG := hide (Grow.trans HG.out gc)
            clear gc own0
            have Rq := fun (W : World) (h : Grow w2 W) => (q9.grow h).cell
            refine wpR_call 4 rfl (by kernel_rfl) rfl fun K hK => ?_
            go_simp
            generalize hWb : World.alloc _ _ = wb
            obtain ⟨bx, gb⟩ := box_pk hWb rfl
            refine hK.out _ _ (.inr (gb)) ?_
            clear hK
            try simp only [Act.put, List.setIfInBounds_toArray, List.set_cons_zero, List.set_cons_succ]
            clear hWb
            have bx : Box wb _ (pbc q) := bx
            have hl := hl.grow gb
            have q9 := q9.grow gb
            try have own0 := hide (own0.out.grow gb)
            try have own2 := hide (own2.out.grow gb)
            have HG := hide (Grow.trans HG.out gb)
            clear gb
            refine wpR_call 5 rfl (by kernel_rfl) rfl fun K hK => ?_
            refine wp_append_pk1 (q := q) (.tmp 84) (.tmp 86) rfl rfl rfl own2.out HG.out.size bx hlen ?_
            intro g5 c5 w5 own5 gd
            refine hK.out _ _ (.inl (by simp)) ?_
            clear hK
            try simp only [Act.put, List.setIfInBounds_toArray, List.set_cons_zero, List.set_cons_succ]
            refine wpR_take grow_rf grow_tr 6 rfl (by kernel_rfl) (fun _ _ _ h => h) rfl (v := ?_) ?_ ?_
            rotate_left
            · (intro w' hG; go_simp; try with_reducible rfl)
            try simp only [Act.put, List.setIfInBounds_toArray, List.set_cons_zero, List.set_cons_succ]
            refine wpR_take grow_rf grow_tr 7 rfl (by kernel_rfl) (fun _ _ _ h => h) rfl (v := ?_) ?_ ?_
            rotate_left
            · (intro w' hG; go_simp; try with_reducible rfl)
            try simp only [Act.put, List.setIfInBounds_toArray, List.set_cons_zero, List.set_cons_succ]
            refine wpR_done (by kernel_rfl) ?_ _
            have HG5 : Grow w w5 := Below.trans HG.out gd
            have own5 := hide own5
            clear own2 hl q9 bx Rq gd HG
            go_wp2
            refine bodyPost_ret (results_tmp2 rfl _ _ _) rfl ?_
            rw [HRz.out]
            exact ⟨⟨_, _, by first | rfl | (rw [List.length_append]; rfl), own5.out.pks (fun y hy => by rcases List.mem_append.1 hy with h | h; exact (hbl.out y h).grow HG5; rw [List.mem_singleton.1 h]; exact hqb.grow HG5)⟩, HG5⟩
          · go_simp
            generalize hWb : World.alloc _ _ = wb
            obtain ⟨bx, gb⟩ := box_pk hWb rfl
            refine hK.out _ _ (.inr (gb)) ?_
            clear hK
            try simp only [Act.put, List.setIfInBounds_toArray, List.set_cons_zero, List.set_cons_succ]
            clear hWb
            have bx : Box wb _ (pbc q) := bx
            have hl := hl.grow gb
            have q9 := q9.grow gb
            try have own0 := hide (own0.out.grow gb)
            try have own2 := hide (own2.out.grow gb)
            have HG := hide (Grow.trans HG.out gb)
            clear gb
            refine wpR_call 2 rfl (by kernel_rfl) rfl fun K hK => ?_
            refine wp_append_pk (.tmp 82) (.tmp 83) rfl rfl rfl own0.out HG.out.size hl hlen ?_
            intro g2 c2 w2 own2 gc
            refine hK.out _ _ (.inr (gc)) ?_
            clear hK
            try simp only [Act.put, List.setIfInBounds_toArray, List.set_cons_zero, List.set_cons_succ]
            have own2 := hide own2
            have hl := hl.grow gc
            have q9 := q9.grow gc
            try have bx := bx.grow gc
            have HG := hide (Grow.trans HG.out gc)
            clear gc own0
            have Rq := fun (W : World) (h : Grow w2 W) => (q9.grow h).cell
            refine wpR_call 5 rfl (by kernel_rfl) rfl fun K hK => ?_
            refine wp_append_pk1 (q := q) (.tmp 84) (.tmp 86) rfl rfl rfl own2.out HG.out.size bx hlen ?_
            intro g5 c5 w5 own5 gd
            refine hK.out _ _ (.inl (by simp)) ?_
            clear hK
            try simp only [Act.put, List.setIfInBounds_toArray, List.set_cons_zero, List.set_cons_succ]
            refine wpR_take grow_rf grow_tr 6 rfl (by kernel_rfl) (fun _ _ _ h => h) rfl (v := ?_) ?_ ?_
            rotate_left
            · (intro w' hG; go_simp; try with_reducible rfl)
            try simp only [Act.put, List.setIfInBounds_toArray, List.set_cons_zero, List.set_cons_succ]
            refine wpR_take grow_rf grow_tr 7 rfl (by kernel_rfl) (fun _ _ _ h => h) rfl (v := ?_) ?_ ?_
            rotate_left
            · (intro w' hG; go_simp; try with_reducible rfl)
            try simp only [Act.put, List.setIfInBounds_toArray, List.set_cons_zero, List.set_cons_succ]
            refine wpR_done (by kernel_rfl) ?_ _
            have HG5 : Grow w w5 := Below.trans HG.out gd
            have own5 := hide own5
            clear own2 hl q9 bx Rq gd HG
            go_wp2
            refine bodyPost_ret (results_tmp2 rfl _ _ _) rfl ?_
            rw [HRz.out]
            exact ⟨⟨_, _, by first | rfl | (rw [List.length_append]; rfl), own5.out.pks (fun y hy => by rcases List.mem_append.1 hy with h | h; exact (hbl.out y h).grow HG5; rw [List.mem_singleton.1 h]; exact hqb.grow HG5)⟩, HG5⟩
        · go_simp
          generalize hWb : World.alloc _ _ = wb
          obtain ⟨bx, gb⟩ := box_pk hWb rfl
          refine hK.out _ _ (.inr (gb)) ?_
          clear hK
          try simp only [Act.put, List.setIfInBounds_toArray, List.set_cons_zero, List.set_cons_succ]
          clear hWb
          have bx : Box wb _ (pbc q) := bx
          have hl := hl.grow gb
          have q9 := q9.grow gb
          try have own0 := hide (own0.out.grow gb)
          try have own2 := hide (own2.out.grow gb)
          have HG := hide (Grow.trans HG.out gb)
          clear gb
          refine wpR_call 0 rfl (by kernel_rfl) rfl fun K hK => ?_
          go_simp
          generalize hWa : World.alloc _ _ = wa
          obtain ⟨own0, ga⟩ := made_pk (N := w.heap.size) hWa rfl (HG.out.size)
          refine hK.out _ _ (.inr (ga)) ?_
          clear hK
          try simp only [Act.put, List.setIfInBounds_toArray, List.set_cons_zero, List.set_cons_succ]
          clear hWa
          have own0 := hide own0
          have hl := hl.grow ga
          have q9 := q9.grow ga
          try have bx := bx.grow ga
          have HG := hide (Grow.trans HG.out ga)
          clear ga
          have Rq := fun (W : World) (h : Grow wa W) => (q9.grow h).cell
          refine wpR_call 2 rfl (by kernel_rfl) rfl fun K hK => ?_
          refine wp_append_pk (.tmp 82) (.tmp 83) rfl rfl rfl own0.out HG.out.size hl hlen ?_
          intro g2 c2 w2 own2 gc
          refine hK.out _ _ (.inr (gc)) ?_
          clear hK
          try simp only [Act.put, List.setIfInBounds_toArray, List.set_cons_zero, List.set_cons_succ]
          have own2 := hide own2
          have hl := hl.grow gc
          have q9 := q9.grow gc
          try have bx := bx.grow gc
          have HG := hide (Grow.trans HG.out gc)
          clear gc own0
          have Rq := fun (W : World) (h : Grow w2 W) => (q9.grow h).cell
          refine wpR_call 5 rfl (by kernel_rfl) rfl fun K hK => ?_
          refine wp_append_pk1 (q := q) (.tmp 84) (.tmp 86) rfl rfl rfl own2.out HG.out.size bx hlen ?_
          intro g5 c5 w5 own5 gd
          refine hK.out _ _ (.inl (by simp)) ?_
          clear hK
          try simp only [Act.put, List.setIfInBounds_toArray, List.set_cons_zero, List.set_cons_succ]
          refine wpR_take grow_rf grow_tr 6 rfl (by kernel_rfl) (fun _ _ _ h => h) rfl (v := ?_) ?_ ?_
          rotate_left
          · (intro w' hG; go_simp; try with_reducible rfl)
          try simp only [Act.put, List.setIfInBounds_toArray, List.set_cons_zero, List.set_cons_succ]
          refine wpR_take grow_rf grow_tr 7 rfl (by kernel_rfl) (fun _ _ _ h => h) rfl (v := ?_) ?_ ?_
          rotate_left
          · (intro w' hG; go_simp; try with_reducible rfl)
          try simp only [Act.put, List.setIfInBounds_toArray, List.set_cons_zero, List.set_cons_succ]
          refine wpR_done (by kernel_rfl) ?_ _
          have HG5 : Grow w w5 := Below.trans HG.out gd
          have own5 := hide own5
          clear own2 hl q9 bx Rq gd HG
          go_wp2
          refine bodyPost_ret (results_tmp2 rfl _ _ _) rfl ?_
          rw [HRz.out]
          exact ⟨⟨_, _, by first | rfl | (rw [List.length_append]; rfl), own5.out.pks (fun y hy => by rcases List.mem_append.1 hy with h | h; exact (hbl.out y h).grow HG5; rw [List.mem_singleton.1 h]; exact hqb.grow HG5)⟩, HG5⟩
theorem hd_cells {w : World} {A : Option Addr} {L : List PB} (h : Pks w A L) (hne : L ≠ []) : ∃ b o, A = some ⟨b, o, none⟩ ∧ w.cell? ⟨b, o + 5, none⟩ = some (.int .i64 (hdP L).no) ∧ w.cell? ⟨b, o + 8, none⟩ = some (.int .i64 (hdP L).total) := by
  obtain ⟨b, o, hA, hc⟩ := h hne
  cases L with
  | nil => exact absurd rfl hne
  | cons x L =>
    have h1 := (hc 0 (by simp)).1 5 (by omega)
    have h2 := (hc 0 (by simp)).1 8 (by omega)
    simp at h1 h2
    exact ⟨b, o, hA, h1, h2⟩
theorem any_take (L : List PB) (k : Nat) (i : Int) (h : k < L.length) : (L.take (k + 1)).any (fun x => x.p.index == i) = ((L.take k).any (fun x => x.p.index == i) || L[k].p.index == i) := by
  rw [List.take_succ_eq_append_getElem h, List.any_append]
  simp
theorem any_some (L : List PB) (k : Nat) (i : Int) (h : k < L.length) (hi : L[k].p.index = i) : L.any (fun x => x.p.index == i) = true :=
  List.any_eq_true.2 ⟨L[k], List.getElem_mem h, by simpa using hi⟩
set_option maxRecDepth 100000 in
set_option maxHeartbeats 4000000 in
theorem refnote_any (sf : Int) (A : Option Addr) (c : Nat) (L : List PB) (q : PB) (w : World) (hne : L ≠ []) (hl0 : Pks w A L) (hlen : L.length ≤ 1000) (hqb : Bytes w q.A q.l) (hqn : q.l.length ≤ 1000000) :
    Calls Try.prog 30 #[.slice A L.length c, .int .i64 sf, pv q.p q.A q.l.length q.c] w fun r w' => RNP w (rnote sf L q) r w' := by
  have HC := hide (fun W => refchunkgood_any q.p q.A q.l.length q.c W (by omega))
  have HR := hide (show rnote sf L q = if chunkB q.p q.l.length = false then (L, 1) else if q.p.to ≠ sf then (L, 8)
    else if q.p.no < (hdP L).no then (L, 11) else if q.p.no = (hdP L).no ∧ q.p.total ≠ (hdP L).total then (L, 5)
    else if (hdP L).no < q.p.no then ([q], 0) else if (L.any fun x => x.p.index == q.p.index) = true then (L, 12) else (L ++ [q], 0) by simp [rnote, hne])
  have hbl : Hid (∀ y : PB, y ∈ L → Bytes w y.A y.l) := hide (fun y hy => by
    obtain ⟨k, hk, rfl⟩ := List.getElem_of_mem hy
    obtain ⟨_, _, _, hc⟩ := hl0 hne
    exact (hc k hk).2)
  have hlpos : 0 < L.length := List.length_pos_iff.2 hne
  have hlposi : (0 : Int) < (L.length : Int) := by omega
  have hAt := hide (fun W (g : Grow w W) => any_take L)
  obtain ⟨b, o, rfl, hno, htot⟩ := hd_cells hl0 hne
  generalize hdP L = hd at *
  generalize rnote sf L q = R at *
  go_enter Try.func30, Try.ntmps30
  go_wp2_with fail
  generalize hcb : chunkB q.p q.l.length = cb at *
  refine (HC.out _).mono ?_
  rintro r0 w1 ⟨rfl, hb1⟩
  have hb1 : Grow _ w1 := hb1
  obtain ⟨q0, hg1⟩ := peel1 hb1
  clear hb1 HC hcb
  cases cb with
  | false =>
    have HRz := hide (HR.out.trans (if_pos rfl))
    clear HR
    go_wp2
    refine bodyPost_ret (results_tmp2 rfl _ _ _) rfl ?_
    rw [HRz.out]
    exact ⟨⟨_, _, rfl, hl0.grow hg1⟩, hg1⟩
  | true =>
    have HR2 := hide (HR.out.trans (if_neg (by simp)))
    clear HR
    have c1 := q0.cell
    by_cases hto : q.p.to = sf
    rotate_left
    · have HRz := hide (HR2.out.trans (if_pos hto))
      clear HR2
      go_wp2
      refine bodyPost_ret (results_tmp2 rfl _ _ _) rfl ?_
      rw [HRz.out]
      exact ⟨⟨_, _, rfl, hl0.grow hg1⟩, hg1⟩
    · have HR3 := hide (HR2.out.trans (if_neg (by simpa using hto)))
      have htb : (q.p.to != sf) = false := by simpa using hto
      clear HR2 hto
      have hn1 := Grow.cell' hg1 hno
      have ht1 := Grow.cell' hg1 htot
      have Rq := fun (W : World) (h : Grow w1.drew W) => (q0.grow (Grow.of_drew h)).cell
      have Rn := fun (W : World) (h : Grow w1.drew W) => Grow.cell' (Grow.of_drew h) hn1
      go_wp2_with fail
      refine wpR_region (Grow) [] (by kernel_rfl) ?_
      refine wpR_take grow_rf grow_tr 0 rfl (by kernel_rfl) (fun _ _ _ h => h) rfl (v := ?_) ?_ ?_
      rotate_left
      · (intro w' hG; go_simp; try with_reducible rfl)
      try simp only [Act.put, List.setIfInBounds_toArray, List.set_cons_zero, List.set_cons_succ]
      refine wpR_take grow_rf grow_tr 1 rfl (by kernel_rfl) (fun _ _ _ h => h) rfl (v := ?_) ?_ ?_
      rotate_left
      · (intro w' hG; go_simp; try with_reducible rfl)
      try simp only [Act.put, List.setIfInBounds_toArray, List.set_cons_zero, List.set_cons_succ]
      refine wpR_take grow_rf grow_tr 2 rfl (by kernel_rfl) (fun _ _ _ h => h) rfl (v := ?_) ?_ ?_
      rotate_left
      · (intro w' hG; go_simp; try with_reducible rfl)
      try simp only [Act.put, List.setIfInBounds_toArray, List.set_cons_zero, List.set_cons_succ]
      refine wpR_take grow_rf grow_tr 3 rfl (by kernel_rfl) (fun _ _ _ h => h) rfl (v := ?_) ?_ ?_
      rotate_left
      · (intro w' hG; go_simp; try with_reducible rfl)
      try simp only [Act.put, List.setIfInBounds_toArray, List.set_cons_zero, List.set_cons_succ]
      refine wpR_take grow_rf grow_tr 4 rfl (by kernel_rfl) (fun _ _ _ h => h) rfl (v := ?_) ?_ ?_
      rotate_left
      · (intro w' hG; go_simp; try with_reducible rfl)
      try simp only [Act.put, List.setIfInBounds_toArray, List.set_cons_zero, List.set_cons_succ]
      refine wpR_take grow_rf grow_tr 5 rfl (by kernel_rfl) (fun _ _ _ h => h) rfl (v := ?_) ?_ ?_
      rotate_left
      · (intro w' hG; go_simp; try with_reducible rfl)
      try simp only [Act.put, List.setIfInBounds_toArray, List.set_cons_zero, List.set_cons_succ]
      refine wpR_take grow_rf grow_tr 6 rfl (by kernel_rfl) (fun _ _ _ h => h) rfl (v := ?_) ?_ ?_
      rotate_left
      · (intro w' hG; go_simp; try with_reducible rfl)
      try simp only [Act.put, List.setIfInBounds_toArray, List.set_cons_zero, List.set_cons_succ]
      refine wpR_take grow_rf grow_tr 7 rfl (by kernel_rfl) (fun _ _ _ h => h) rfl (v := ?_) ?_ ?_
      rotate_left
      · (intro w' hG; go_simp; try with_reducible rfl)
      try simp only [Act.put, List.setIfInBounds_toArray, List.set_cons_zero, List.set_cons_succ]
      refine wpR_take grow_rf grow_tr 8 rfl (by kernel_rfl) (fun _ _ _ h => h) rfl (v := ?_) ?_ ?_
      rotate_left
      · (intro w' hG; go_simp; try with_reducible rfl)
      try simp only [Act.put, List.setIfInBounds_toArray, List.set_cons_zero, List.set_cons_succ]
      refine wpR_take grow_rf grow_tr 9 rfl (by kernel_rfl) (fun _ _ _ h => h) rfl (v := ?_) ?_ ?_
      rotate_left
      · (intro w' hG; go_simp; try with_reducible rfl)
      try simp only [Act.put, List.setIfInBounds_toArray, List.set_cons_zero, List.set_cons_succ]
      refine wpR_take grow_rf grow_tr 10 rfl (by kernel_rfl) (fun _ _ _ h => h) rfl (v := ?_) ?_ ?_
      rotate_left
      · (intro w' hG; go_simp; try with_reducible rfl)
      try simp only [Act.put, List.setIfInBounds_toArray, List.set_cons_zero, List.set_cons_succ]
      refine wpR_take grow_rf grow_tr 11 rfl (by kernel_rfl) (fun _ _ _ h => h) rfl (v := ?_) ?_ ?_
      rotate_left
      · (intro w' hG; go_simp; try with_reducible rfl)
      try simp only [Act.put, List.setIfInBounds_toArray, List.set_cons_zero, List.set_cons_succ]
      refine wpR_done (by kernel_rfl) ?_ _
      have q2 := q0.drew
      have hg2 : Grow w w1.drew := hg1.drew
      clear Rq Rn c1 q0 hg1 hn1 ht1 htb
      generalize w1.drew = w2 at *
      by_cases hlt : q.p.no < hd.no
      · have HRz := hide (HR3.out.trans (if_pos hlt))
        clear HR3
        go_wp2
        refine bodyPost_ret (results_tmp2 rfl _ _ _) rfl ?_
        rw [HRz.out]
        exact ⟨⟨_, _, rfl, hl0.grow hg2⟩, hg2⟩
      · have HR4 := hide (HR3.out.trans (if_neg hlt))
        have hn2 := Grow.cell' hg2 hno
        have ht2 := Grow.cell' hg2 htot
        have Rq := fun (W : World) (h : Grow w2.drew W) => (q2.grow (Grow.of_drew h)).cell
        have Rn := fun (W : World) (h : Grow w2.drew W) => Grow.cell' (Grow.of_drew h) hn2
        have Rt := fun (W : World) (h : Grow w2.drew W) => Grow.cell' (Grow.of_drew h) ht2
        cases heq : (q.p.no == hd.no) with
        | true =>
          have hgt : ¬ hd.no < q.p.no := by have : q.p.no = hd.no := by simpa using heq
                                            omega
          have heqh := hide heq
          have hgth := hide hgt
          go_wp2_with fail
          clear hlt
          refine wpR_region (Grow) [] (by kernel_rfl) ?_
          refine wpR_take grow_rf grow_tr 0 rfl (by kernel_rfl) (fun _ _ _ h => h) rfl (v := ?_) ?_ ?_
          rotate_left
          · (intro w' hG; go_simp; try with_reducible rfl)
          try simp only [Act.put, List.setIfInBounds_toArray, List.set_cons_zero, List.set_cons_succ]
          refine wpR_take grow_rf grow_tr 1 rfl (by kernel_rfl) (fun _ _ _ h => h) rfl (v := ?_) ?_ ?_
          rotate_left
          · (intro w' hG; go_simp; try with_reducible rfl)
          try simp only [Act.put, List.setIfInBounds_toArray, List.set_cons_zero, List.set_cons_succ]
          refine wpR_take grow_rf grow_tr 2 rfl (by kernel_rfl) (fun _ _ _ h => h) rfl (v := ?_) ?_ ?_
          rotate_left
          · (intro w' hG; go_simp; try with_reducible rfl)
          try simp only [Act.put, List.setIfInBounds_toArray, List.set_cons_zero, List.set_cons_succ]
          refine wpR_take grow_rf grow_tr 3 rfl (by kernel_rfl) (fun _ _ _ h => h) rfl (v := ?_) ?_ ?_
          rotate_left
          · (intro w' hG; go_simp; try with_reducible rfl)
          try simp only [Act.put, List.setIfInBounds_toArray, List.set_cons_zero, List.set_cons_succ]
          refine wpR_take grow_rf grow_tr 4 rfl (by kernel_rfl) (fun _ _ _ h => h) rfl (v := ?_) ?_ ?_
          rotate_left
          · (intro w' hG; go_simp; try with_reducible rfl)
          try simp only [Act.put, List.setIfInBounds_toArray, List.set_cons_zero, List.set_cons_succ]
          refine wpR_take grow_rf grow_tr 5 rfl (by kernel_rfl) (fun _ _ _ h => h) rfl (v := ?_) ?_ ?_
          rotate_left
          · (intro w' hG; go_simp; try with_reducible rfl)
          try simp only [Act.put, List.setIfInBounds_toArray, List.set_cons_zero, List.set_cons_succ]
          refine wpR_take grow_rf grow_tr 6 rfl (by kernel_rfl) (fun _ _ _ h => h) rfl (v := ?_) ?_ ?_
          rotate_left
          · (intro w' hG; go_simp; try with_reducible rfl)
          try simp only [Act.put, List.setIfInBounds_toArray, List.set_cons_zero, List.set_cons_succ]
          refine wpR_take grow_rf grow_tr 7 rfl (by kernel_rfl) (fun _ _ _ h => h) rfl (v := ?_) ?_ ?_
          rotate_left
          · (intro w' hG; go_simp; try with_reducible rfl)
          try simp only [Act.put, List.setIfInBounds_toArray, List.set_cons_zero, List.set_cons_succ]
          refine wpR_take grow_rf grow_tr 8 rfl (by kernel_rfl) (fun _ _ _ h => h) rfl (v := ?_) ?_ ?_
          rotate_left
          · (intro w' hG; go_simp; try with_reducible rfl)
          try simp only [Act.put, List.setIfInBounds_toArray, List.set_cons_zero, List.set_cons_succ]
          refine wpR_take grow_rf grow_tr 9 rfl (by kernel_rfl) (fun _ _ _ h => h) rfl (v := ?_) ?_ ?_
          rotate_left
          · (intro w' hG; go_simp; try with_reducible rfl)
          try simp only [Act.put, List.setIfInBounds_toArray, List.set_cons_zero, List.set_cons_succ]
          refine wpR_take grow_rf grow_tr 10 rfl (by kernel_rfl) (fun _ _ _ h => h) rfl (v := ?_) ?_ ?_
          rotate_left
          · (intro w' hG; go_simp; try with_reducible rfl)
          try simp only [Act.put, List.setIfInBounds_toArray, List.set_cons_zero, List.set_cons_succ]
          refine wpR_take grow_rf grow_tr 11 rfl (by kernel_rfl) (fun _ _ _ h => h) rfl (v := ?_) ?_ ?_
          rotate_left
          · (intro w' hG; go_simp; try with_reducible rfl)
          try simp only [Act.put, List.setIfInBounds_toArray, List.set_cons_zero, List.set_cons_succ]
          refine wpR_take grow_rf grow_tr 12 rfl (by kernel_rfl) (fun _ _ _ h => h) rfl (v := ?_) ?_ ?_
          rotate_left
          · (intro w' hG; go_simp; try with_reducible rfl)
          try simp only [Act.put, List.setIfInBounds_toArray, List.set_cons_zero, List.set_cons_succ]
          refine wpR_take grow_rf grow_tr 13 rfl (by kernel_rfl) (fun _ _ _ h => h) rfl (v := ?_) ?_ ?_
          rotate_left
          · (intro w' hG; go_simp; try with_reducible rfl)
          try simp only [Act.put, List.setIfInBounds_toArray, List.set_cons_zero, List.set_cons_succ]
          refine wpR_take grow_rf grow_tr 14 rfl (by kernel_rfl) (fun _ _ _ h => h) rfl (v := ?_) ?_ ?_
          rotate_left
          · (intro w' hG; go_simp; try with_reducible rfl)
          try simp only [Act.put, List.setIfInBounds_toArray, List.set_cons_zero, List.set_cons_succ]
          refine wpR_take grow_rf grow_tr 15 rfl (by kernel_rfl) (fun _ _ _ h => h) rfl (v := ?_) ?_ ?_
          rotate_left
          · (intro w' hG; go_simp; try with_reducible rfl)
          try simp only [Act.put, List.setIfInBounds_toArray, List.set_cons_zero, List.set_cons_succ]
          refine wpR_take grow_rf grow_tr 16 rfl (by kernel_rfl) (fun _ _ _ h => h) rfl (v := ?_) ?_ ?_
          rotate_left
          · (intro w' hG; go_simp; try with_reducible rfl)
          try simp only [Act.put, List.setIfInBounds_toArray, List.set_cons_zero, List.set_cons_succ]
          refine wpR_take grow_rf grow_tr 17 rfl (by kernel_rfl) (fun _ _ _ h => h) rfl (v := ?_) ?_ ?_
          rotate_left
          · (intro w' hG; go_simp; try with_reducible rfl)
          try simp only [Act.put, List.setIfInBounds_toArray, List.set_cons_zero, List.set_cons_succ]
          refine wpR_take grow_rf grow_tr 18 rfl (by kernel_rfl) (fun _ _ _ h => h) rfl (v := ?_) ?_ ?_
          rotate_left
          · (intro w' hG; go_simp; try with_reducible rfl)
          try simp only [Act.put, List.setIfInBounds_toArray, List.set_cons_zero, List.set_cons_succ]
          refine wpR_take grow_rf grow_tr 19 rfl (by kernel_rfl) (fun _ _ _ h => h) rfl (v := ?_) ?_ ?_
          rotate_left
          · (intro w' hG; go_simp; try with_reducible rfl)
          try simp only [Act.put, List.setIfInBounds_toArray, List.set_cons_zero, List.set_cons_succ]
          refine wpR_take grow_rf grow_tr 20 rfl (by kernel_rfl) (fun _ _ _ h => h) rfl (v := ?_) ?_ ?_
          rotate_left
          · (intro w' hG; go_simp; try with_reducible rfl)
          try simp only [Act.put, List.setIfInBounds_toArray, List.set_cons_zero, List.set_cons_succ]
          refine wpR_done (by kernel_rfl) ?_ _
          clear heq
          have q3 := q2.drew
          have hg3 : Grow w w2.drew := hg2.drew
          clear Rq Rn Rt q2 hg2 hn2 ht2
          generalize w2.drew = w3 at *
          cases htt : (q.p.total != hd.total) with
          | true =>
            have HRz := hide (HR4.out.trans (if_pos ⟨by simpa using heqh.out, by simpa using htt⟩))
            clear htt HR4 HR3
            go_wp2
            refine bodyPost_ret (results_tmp2 rfl _ _ _) rfl ?_
            rw [HRz.out]
            exact ⟨⟨_, _, rfl, hl0.grow hg3⟩, hg3⟩
          | false =>
            have HR5 := hide (HR4.out.trans (if_neg (fun h => absurd htt (by simpa using h.2))))
            have HR6 := hide (HR5.out.trans (if_neg (by have := hgth.out; omega)))
            clear htt HR5 HR4 HR3
            have hn3 := Grow.cell' hg3 hno
            have Rq := fun (W : World) (h : Grow w3.drew W) => (q3.grow (Grow.of_drew h)).cell
            have Rn := fun (W : World) (h : Grow w3.drew W) => Grow.cell' (Grow.of_drew h) hn3
            go_wp2_with fail
            refine wpR_region (Grow) [] (by kernel_rfl) ?_
            refine wpR_take grow_rf grow_tr 0 rfl (by kernel_rfl) (fun _ _ _ h => h) rfl (v := ?_) ?_ ?_
            rotate_left
            · (intro w' hG; go_simp; try with_reducible rfl)
            try simp only [Act.put, List.setIfInBounds_toArray, List.set_cons_zero, List.set_cons_succ]
            refine wpR_take grow_rf grow_tr 1 rfl (by kernel_rfl) (fun _ _ _ h => h) rfl (v := ?_) ?_ ?_
            rotate_left
            · (intro w' hG; go_simp; try with_reducible rfl)
            try simp only [Act.put, List.setIfInBounds_toArray, List.set_cons_zero, List.set_cons_succ]
            refine wpR_take grow_rf grow_tr 2 rfl (by kernel_rfl) (fun _ _ _ h => h) rfl (v := ?_) ?_ ?_
            rotate_left
            · (intro w' hG; go_simp; try with_reducible rfl)
            try simp only [Act.put, List.setIfInBounds_toArray, List.set_cons_zero, List.set_cons_succ]
            refine wpR_take grow_rf grow_tr 3 rfl (by kernel_rfl) (fun _ _ _ h => h) rfl (v := ?_) ?_ ?_
            rotate_left
            · (intro w' hG; go_simp; try with_reducible rfl)
            try simp only [Act.put, List.setIfInBounds_toArray, List.set_cons_zero, List.set_cons_succ]
            refine wpR_take grow_rf grow_tr 4 rfl (by kernel_rfl) (fun _ _ _ h => h) rfl (v := ?_) ?_ ?_
            rotate_left
            · (intro w' hG; go_simp; try with_reducible rfl)
            try simp only [Act.put, List.setIfInBounds_toArray, List.set_cons_zero, List.set_cons_succ]
            refine wpR_take grow_rf grow_tr 5 rfl (by kernel_rfl) (fun _ _ _ h => h) rfl (v := ?_) ?_ ?_
            rotate_left
            · (intro w' hG; go_simp; try with_reducible rfl)
            try simp only [Act.put, List.setIfInBounds_toArray, List.set_cons_zero, List.set_cons_succ]
            refine wpR_take grow_rf grow_tr 6 rfl (by kernel_rfl) (fun _ _ _ h => h) rfl (v := ?_) ?_ ?_
            rotate_left
            · (intro w' hG; go_simp; try with_reducible rfl)
            try simp only [Act.put, List.setIfInBounds_toArray, List.set_cons_zero, List.set_cons_succ]
            refine wpR_take grow_rf grow_tr 7 rfl (by kernel_rfl) (fun _ _ _ h => h) rfl (v := ?_) ?_ ?_
            rotate_left
            · (intro w' hG; go_simp; try with_reducible rfl)
            try simp only [Act.put, List.setIfInBounds_toArray, List.set_cons_zero, List.set_cons_succ]
            refine wpR_take grow_rf grow_tr 8 rfl (by kernel_rfl) (fun _ _ _ h => h) rfl (v := ?_) ?_ ?_
            rotate_left
            · (intro w' hG; go_simp; try with_reducible rfl)
            try simp only [Act.put, List.setIfInBounds_toArray, List.set_cons_zero, List.set_cons_succ]
            refine wpR_take grow_rf grow_tr 9 rfl (by kernel_rfl) (fun _ _ _ h => h) rfl (v := ?_) ?_ ?_
            rotate_left
            · (intro w' hG; go_simp; try with_reducible rfl)
            try simp only [Act.put, List.setIfInBounds_toArray, List.set_cons_zero, List.set_cons_succ]
            refine wpR_take grow_rf grow_tr 10 rfl (by kernel_rfl) (fun _ _ _ h => h) rfl (v := ?_) ?_ ?_
            rotate_left
            · (intro w' hG; go_simp; try with_reducible rfl)
            try simp only [Act.put, List.setIfInBounds_toArray, List.set_cons_zero, List.set_cons_succ]
            refine wpR_take grow_rf grow_tr 11 rfl (by kernel_rfl) (fun _ _ _ h => h) rfl (v := ?_) ?_ ?_
            rotate_left
            · (intro w' hG; go_simp; try with_reducible rfl)
            try simp only [Act.put, List.setIfInBounds_toArray, List.set_cons_zero, List.set_cons_succ]
            refine wpR_done (by kernel_rfl) ?_ _
            have q4 := q3.drew
            have hg4 : Grow w w3.drew := hg3.drew
            clear Rq Rn q3 hg3 hn3
            generalize w3.drew = w4 at *
            have q4s : w.heap.size < w4.heap.size := q4.lt
            go_wp2
            clear hgt
            go_loopw [8] (fun i wr => ∃ k : Nat, k ≤ L.length ∧ i = .int .i64 k ∧ Hid ((L.take k).any (fun x => x.p.index == q.p.index) = false) ∧ Grow w4 wr) (fun i _ => L.length - (intOf i).toNat)
            case atStart => exact ⟨0, by omega, rfl, hide (by simp), Grow.refl w4⟩
            case round =>
              obtain ⟨k, hk, rfl, hany, hgr⟩ := hrel
              by_cases hltk : k < L.length
              · have hlti : (k : Int) < (L.length : Int) := by omega
                have hcw := ((hl0.grow (Grow.trans hg4 hgr)) hne)
                obtain ⟨b', o', hbo, hc⟩ := hcw
                injection hbo with hbo
                have e1 : b = b' := congrArg Addr.block hbo
                have e2 : o = o' := congrArg Addr.off hbo
                subst e1 e2
                have hix := (hc k hltk).1 7 (by omega)
                simp at hix
                have q5 := q4.grow hgr
                have Rq := fun (W : World) (h : Grow wr.drew W) => (q5.grow (Grow.of_drew h)).cell
                have Ri := fun (W : World) (h : Grow wr.drew W) => Grow.cell' (Grow.of_drew h) hix
                have hat := hide (any_take L k q.p.index hltk)
                have has := hide (any_some L k q.p.index hltk)
                generalize L[k].p.index = ix at *
                clear hc hbo
                go_wp2_with fail
                refine wpR_region (Grow) [] (by kernel_rfl) ?_
                refine wpR_take grow_rf grow_tr 0 rfl (by kernel_rfl) (fun _ _ _ h => h) rfl (v := ?_) ?_ ?_
                rotate_left
                · (intro w' hG; go_simp; try with_reducible rfl)
                try simp only [Act.put, List.setIfInBounds_toArray, List.set_cons_zero, List.set_cons_succ]
                refine wpR_take grow_rf grow_tr 1 rfl (by kernel_rfl) (fun _ _ _ h => h) rfl (v := ?_) ?_ ?_
                rotate_left
                · (intro w' hG; go_simp; try with_reducible rfl)
                try simp only [Act.put, List.setIfInBounds_toArray, List.set_cons_zero, List.set_cons_succ]
                refine wpR_take grow_rf grow_tr 2 rfl (by kernel_rfl) (fun _ _ _ h => h) rfl (v := ?_) ?_ ?_
                rotate_left
                · (intro w' hG; go_simp; try with_reducible rfl)
                try simp only [Act.put, List.setIfInBounds_toArray, List.set_cons_zero, List.set_cons_succ]
                refine wpR_take grow_rf grow_tr 3 rfl (by kernel_rfl) (fun _ _ _ h => h) rfl (v := ?_) ?_ ?_
                rotate_left
                · (intro w' hG; go_simp; try with_reducible rfl)
                try simp only [Act.put, List.setIfInBounds_toArray, List.set_cons_zero, List.set_cons_succ]
                refine wpR_take grow_rf grow_tr 4 rfl (by kernel_rfl) (fun _ _ _ h => h) rfl (v := ?_) ?_ ?_
                rotate_left
                · (intro w' hG; go_simp; try with_reducible rfl)
                try simp only [Act.put, List.setIfInBounds_toArray, List.set_cons_zero, List.set_cons_succ]
                refine wpR_take grow_rf grow_tr 5 rfl (by kernel_rfl) (fun _ _ _ h => h) rfl (v := ?_) ?_ ?_
                rotate_left
                · (intro w' hG; go_simp; try with_reducible rfl)
                try simp only [Act.put, List.setIfInBounds_toArray, List.set_cons_zero, List.set_cons_succ]
                refine wpR_take grow_rf grow_tr 6 rfl (by kernel_rfl) (fun _ _ _ h => h) rfl (v := ?_) ?_ ?_
                rotate_left
                · (intro w' hG; go_simp; try with_reducible rfl)
                try simp only [Act.put, List.setIfInBounds_toArray, List.set_cons_zero, List.set_cons_succ]
                refine wpR_take grow_rf grow_tr 7 rfl (by kernel_rfl) (fun _ _ _ h => h) rfl (v := ?_) ?_ ?_
                rotate_left
                · (intro w' hG; go_simp; try with_reducible rfl)
                try simp only [Act.put, List.setIfInBounds_toArray, List.set_cons_zero, List.set_cons_succ]
                refine wpR_done (by kernel_rfl) ?_ _
                have hg6 : Grow w4 wr.drew := hgr.drew
                clear Rq Ri q5 hix hgr
                generalize wr.drew = w6 at *
                cases hb : (ix == q.p.index) with
                | true =>
                  have HRz := hide (HR6.out.trans (if_pos (has.out (by simpa using hb))))
                  clear HR6 hb
                  go_wp2
                  refine bodyPost_ret (results_tmp2 rfl _ _ _) rfl ?_
                  rw [HRz.out]
                  exact ⟨⟨_, _, rfl, hl0.grow (Grow.trans hg4 hg6)⟩, Grow.trans hg4 hg6⟩
                | false =>
                  have hany2 : Hid ((L.take (k + 1)).any (fun x => x.p.index == q.p.index) = false) := hide (by rw [hat.out, hany.out, hb]; rfl)
                  clear hb hat has
                  go_wp2
                  go_roundw
                  case rel => exact ⟨k + 1, by omega, by go_num, hany2, hg6⟩
                  case measure => simp [intOf]; omega
              · obtain rfl : k = L.length := by omega
                have hany2 := hany.out
                rw [List.take_length] at hany2
                have HRz := hide (HR6.out.trans (if_neg (by rw [hany2]; simp)))
                clear hltk HR6 hany2 hany
                have q9 := (q4.grow hgr).drew
                have HG := hide (show Grow w wr.drew from (Grow.trans hg4 hgr).drew)
                have hl := hl0.grow HG.out
                have Rq := fun (W : World) (h : Grow wr.drew W) => (q9.grow h).cell
                clear q4 hg4 hgr q4s
                go_wp2_with fail
                refine wpR_region (Grow) [5] (by kernel_rfl) ?_
                generalize wr.drew = wd at *
                refine wpR_takeV [2, 5] grow_rf grow_tr 1 rfl (by kernel_rfl) (fun _ _ _ h => h) rfl (v := ?_) ?_ ?_
                rotate_left
                · (intro w' hG; go_simp; try with_reducible rfl)
                try simp only [Act.put, List.setIfInBounds_toArray, List.set_cons_zero, List.set_cons_succ]
                refine wpR_takeV [4, 5] grow_rf grow_tr 3 rfl (by kernel_rfl) (fun _ _ _ h => h) rfl (v := ?_) ?_ ?_
                rotate_left
                · (intro w' hG; go_simp; try with_reducible rfl)
                try simp only [Act.put, List.setIfInBounds_toArray, List.set_cons_zero, List.set_cons_succ]
                refine wpR_two 0 4 rfl rfl (by kernel_rfl) rfl rfl (fun K hK => ?_) (fun K hK => ?_)
                · go_simp
                  generalize hWa : World.alloc _ _ = wa
                  obtain ⟨own0, ga⟩ := made_pk (N := w.heap.size) hWa rfl (HG.out.size)
                  refine hK.out _ _ (.inr (ga)) ?_
                  clear hK
                  try simp only [Act.put, List.setIfInBounds_toArray, List.set_cons_zero, List.set_cons_succ]
                  clear hWa
                  have own0 := hide own0
                  have hl := hl.grow ga
                  have q9 := q9.grow ga
                  try have bx := bx.grow ga
                  have HG := hide (Grow.trans HG.out ga)
                  clear ga
                  have Rq := fun (W : World) (h : Grow wa W) => (q9.grow h).cell
                  refine wpR_two 2 4 rfl rfl (by kernel_rfl) rfl rfl (fun K hK => ?_) (fun K hK => ?_)
                  · refine wp_append_pk (.tmp 82) (.tmp 83) rfl rfl rfl own0.out HG.out.size hl hlen ?_
                    intro g2 c2 w2 own2 gc
                    refine hK.out _ _ (.inr (gc)) ?_
                    clear hK
                    try simp only [Act.put, List.setIfInBounds_toArray, List.set_cons_zero, List.set_cons_succ]
                    have own2 := hide own2
                    have hl := hl.grow gc
                    have q9 := q9.grow gc
                    try have bx := bx.grow gc
                    have HG := hide (Grow.trans HG.out gc)
                    clear gc own0
                    have Rq := fun (W : World) (h : Grow w2 W) => (q9.grow h).cell
                    refine wpR_call 4 rfl (by kernel_rfl) rfl fun K hK => ?_
                    go_simp
                    generalize hWb : World.alloc _ _ = wb
                    obtain ⟨bx, gb⟩ := box_pk hWb rfl
                    refine hK.out _ _ (.inr (gb)) ?_
                    clear hK
                    try simp only [Act.put, List.setIfInBounds_toArray, List.set_cons_zero, List.set_cons_succ]
                    clear hWb
                    have bx : Box wb _ (pbc q) := bx
                    have hl := hl.grow gb
                    have q9 := q9.grow gb
                    try have own0 := hide (own0.out.grow gb)
                    try have own2 := hide (own2.out.grow gb)
                    have HG := hide (Grow.trans HG.out gb)
                    clear gb
                    refine wpR_call 5 rfl (by kernel_rfl) rfl fun K hK => ?_
                    refine wp_append_pk1 (q := q) (.tmp 84) (.tmp 86) rfl rfl rfl own2.out HG.out.size bx hlen ?_
                    intro g5 c5 w5 own5 gd
                    refine hK.out _ _ (.inl (by simp)) ?_
                    clear hK
                    try simp only [Act.put, List.setIfInBounds_toArray, List.set_cons_zero, List.set_cons_succ]
                    refine wpR_take grow_rf grow_tr 6 rfl (by kernel_rfl) (fun _ _ _ h => h) rfl (v := ?_) ?_ ?_
                    rotate_left
                    · (intro w' hG; go_simp; try with_reducible rfl)
                    try simp only [Act.put, List.setIfInBounds_toArray, List.set_cons_zero, List.set_cons_succ]
                    refine wpR_take grow_rf grow_tr 7 rfl (by kernel_rfl) (fun _ _ _ h => h) rfl (v := ?_) ?_ ?_
                    rotate_left
                    · (intro w' hG; go_simp; try with_reducible rfl)
                    try simp only [Act.put, List.setIfInBounds_toArray, List.set_cons_zero, List.set_cons_succ]
                    refine wpR_done (by kernel_rfl) ?_ _
                    have HG5 : Grow w w5 := Below.trans HG.out gd
                    have own5 := hide own5
                    clear own2 hl q9 bx Rq gd HG
                    go_wp2
                    refine bodyPost_ret (results_tmp2 rfl _ _ _) rfl ?_
                    rw [HRz.out]
                    exact ⟨⟨_, _, by first | rfl | (rw [List.length_append]; rfl), own5.out.pks (fun y hy => by rcases List.mem_append.1 hy with h | h; exact (hbl.out y h).grow HG5; rw [List.mem_singleton.1 h]; exact hqb.grow HG5)⟩, HG5⟩
                  · go_simp
                    generalize hWb : World.alloc _ _ = wb
                    obtain ⟨bx, gb⟩ := box_pk hWb rfl
                    refine hK.out _ _ (.inr (gb)) ?_
                    clear hK
                    try simp only [Act.put, List.setIfInBounds_toArray, List.set_cons_zero, List.set_cons_succ]
                    clear hWb
                    have bx : Box wb _ (pbc q) := bx
                    have hl := hl.grow gb
                    have q9 := q9.grow gb
                    try have own0 := hide (own0.out.grow gb)
                    try have own2 := hide (own2.out.grow gb)
                    have HG := hide (Grow.trans HG.out gb)
                    clear gb
                    refine wpR_call 2 rfl (by kernel_rfl) rfl fun K hK => ?_
                    refine wp_append_pk (.tmp 82) (.tmp 83) rfl rfl rfl own0.out HG.out.size hl hlen ?_
                    intro g2 c2 w2 own2 gc
                    refine hK.out _ _ (.inr (gc)) ?_
                    clear hK
                    try simp only [Act.put, List.setIfInBounds_toArray, List.set_cons_zero, List.set_cons_succ]
                    have own2 := hide own2
                    have hl := hl.grow gc
                    have q9 := q9.grow gc
                    try have bx := bx.grow gc
                    have HG := hide (Grow.trans HG.out gc)
                    clear gc own0
                    have Rq := fun (W : World) (h : Grow w2 W) => (q9.grow h).cell
                    refine wpR_call 5 rfl (by kernel_rfl) rfl fun K hK => ?_
                    refine wp_append_pk1 (q := q) (.tmp 84) (.tmp 86) rfl rfl rfl own2.out HG.out.size bx hlen ?_
                    intro g5 c5 w5 own5 gd
                    refine hK.out _ _ (.inl (by simp)) ?_
                    clear hK
                    try simp only [Act.put, List.setIfInBounds_toArray, List.set_cons_zero, List.set_cons_succ]
                    refine wpR_take grow_rf grow_tr 6 rfl (by kernel_rfl) (fun _ _ _ h => h) rfl (v := ?_) ?_ ?_
                    rotate_left
                    · (intro w' hG; go_simp; try with_reducible rfl)
                    try simp only [Act.put, List.setIfInBounds_toArray, List.set_cons_zero, List.set_cons_succ]
                    refine wpR_take grow_rf grow_tr 7 rfl (by kernel_rfl) (fun _ _ _ h => h) rfl (v := ?_) ?_ ?_
                    rotate_left
                    · (intro w' hG; go_simp; try with_reducible rfl)
                    try simp only [Act.put, List.setIfInBounds_toArray, List.set_cons_zero, List.set_cons_succ]
                    refine wpR_done (by kernel_rfl) ?_ _
                    have HG5 : Grow w w5 := Below.trans HG.out gd
                    have own5 := hide own5
                    clear own2 hl q9 bx Rq gd HG
                    go_wp2
                    refine bodyPost_ret (results_tmp2 rfl _ _ _) rfl ?_
                    rw [HRz.out]
                    exact ⟨⟨_, _, by first | rfl | (rw [List.length_append]; rfl), own5.out.pks (fun y hy => by rcases List.mem_append.1 hy with h | h; exact (hbl.out y h).grow HG5; rw [List.mem_singleton.1 h]; exact hqb.grow HG5)⟩, HG5⟩
                · go_simp
                  generalize hWb : World.alloc _ _ = wb
                  obtain ⟨bx, gb⟩ := box_pk hWb rfl
                  refine hK.out _ _ (.inr (gb)) ?_
                  clear hK
                  try simp only [Act.put, List.setIfInBounds_toArray, List.set_cons_zero, List.set_cons_succ]
                  clear hWb
                  have bx : Box wb _ (pbc q) := bx
                  have hl := hl.grow gb
                  have q9 := q9.grow gb
                  try have own0 := hide (own0.out.grow gb)
                  try have own2 := hide (own2.out.grow gb)
                  have HG := hide (Grow.trans HG.out gb)
                  clear gb
                  refine wpR_call 0 rfl (by kernel_rfl) rfl fun K hK => ?_
                  go_simp
                  generalize hWa : World.alloc _ _ = wa
                  obtain ⟨own0, ga⟩ := made_pk (N := w.heap.size) hWa rfl (HG.out.size)
                  refine hK.out _ _ (.inr (ga)) ?_
                  clear hK
                  try simp only [Act.put, List.setIfInBounds_toArray, List.set_cons_zero, List.set_cons_succ]
                  clear hWa
                  have own0 := hide own0
                  have hl := hl.grow ga
                  have q9 := q9.grow ga
                  try have bx := bx.grow ga
                  have HG := hide (Grow.trans HG.out ga)
                  clear ga
                  have Rq := fun (W : World) (h : Grow wa W) => (q9.grow h).cell
                  refine wpR_call 2 rfl (by kernel_rfl) rfl fun K hK => ?_
                  refine wp_append_pk (.tmp 82) (.tmp 83) rfl rfl rfl own0.out HG.out.size hl hlen ?_
                  intro g2 c2 w2 own2 gc
                  refine hK.out _ _ (.inr (gc)) ?_
                  clear hK
                  try simp only [Act.put, List.setIfInBounds_toArray, List.set_cons_zero, List.set_cons_succ]
                  have own2 := hide own2
                  have hl := hl.grow gc
                  have q9 := q9.grow gc
                  try have bx := bx.grow gc
                  have HG := hide (Grow.trans HG.out gc)
                  clear gc own0
                  have Rq := fun (W : World) (h : Grow w2 W) => (q9.grow h).cell
                  refine wpR_call 5 rfl (by kernel_rfl) rfl fun K hK => ?_
                  refine wp_append_pk1 (q := q) (.tmp 84) (.tmp 86) rfl rfl rfl own2.out HG.out.size bx hlen ?_
                  intro g5 c5 w5 own5 gd
                  refine hK.out _ _ (.inl (by simp)) ?_
                  clear hK
                  try simp only [Act.put, List.setIfInBounds_toArray, List.set_cons_zero, List.set_cons_succ]
                  refine wpR_take grow_rf grow_tr 6 rfl (by kernel_rfl) (fun _ _ _ h => h) rfl (v := ?_) ?_ ?_
                  rotate_left
                  · (intro w' hG; go_simp; try with_reducible rfl)
                  try simp only [Act.put, List.setIfInBounds_toArray, List.set_cons_zero, List.set_cons_succ]
                  refine wpR_take grow_rf grow_tr 7 rfl (by kernel_rfl) (fun _ _ _ h => h) rfl (v := ?_) ?_ ?_
                  rotate_left
                  · (intro w' hG; go_simp; try with_reducible rfl)
                  try simp only [Act.put, List.setIfInBounds_toArray, List.set_cons_zero, List.set_cons_succ]
                  refine wpR_done (by kernel_rfl) ?_ _
                  have HG5 : Grow w w5 := Below.trans HG.out gd
                  have own5 := hide own5
                  clear own2 hl q9 bx Rq gd HG
                  go_wp2
                  refine bodyPost_ret (results_tmp2 rfl _ _ _) rfl ?_
                  rw [HRz.out]
                  exact ⟨⟨_, _, by first | rfl | (rw [List.length_append]; rfl), own5.out.pks (fun y hy => by rcases List.mem_append.1 hy with h | h; exact (hbl.out y h).grow HG5; rw [List.mem_singleton.1 h]; exact hqb.grow HG5)⟩, HG5⟩
        | false =>
          have hgt : hd.no < q.p.no := by have : ¬ q.p.no = hd.no := by simpa using heq
                                          omega
          have HR5 := hide (HR4.out.trans (if_neg (fun h => absurd h.1 (by simpa using heq))))
          have HRz := hide (HR5.out.trans (if_pos hgt))
          clear HR5 HR4 HR3 hlt
          go_wp2_with fail
          refine wpR_region (Grow) [] (by kernel_rfl) ?_
          refine wpR_take grow_rf grow_tr 0 rfl (by kernel_rfl) (fun _ _ _ h => h) rfl (v := ?_) ?_ ?_
          rotate_left
          · (intro w' hG; go_simp; try with_reducible rfl)
          try simp only [Act.put, List.setIfInBounds_toArray, List.set_cons_zero, List.set_cons_succ]
          refine wpR_take grow_rf grow_tr 1 rfl (by kernel_rfl) (fun _ _ _ h => h) rfl (v := ?_) ?_ ?_
          rotate_left
          · (intro w' hG; go_simp; try with_reducible rfl)
          try simp only [Act.put, List.setIfInBounds_toArray, List.set_cons_zero, List.set_cons_succ]
          refine wpR_take grow_rf grow_tr 2 rfl (by kernel_rfl) (fun _ _ _ h => h) rfl (v := ?_) ?_ ?_
          rotate_left
          · (intro w' hG; go_simp; try with_reducible rfl)
          try simp only [Act.put, List.setIfInBounds_toArray, List.set_cons_zero, List.set_cons_succ]
          refine wpR_take grow_rf grow_tr 3 rfl (by kernel_rfl) (fun _ _ _ h => h) rfl (v := ?_) ?_ ?_
          rotate_left
          · (intro w' hG; go_simp; try with_reducible rfl)
          try simp only [Act.put, List.setIfInBounds_toArray, List.set_cons_zero, List.set_cons_succ]
          refine wpR_take grow_rf grow_tr 4 rfl (by kernel_rfl) (fun _ _ _ h => h) rfl (v := ?_) ?_ ?_
          rotate_left
          · (intro w' hG; go_simp; try with_reducible rfl)
          try simp only [Act.put, List.setIfInBounds_toArray, List.set_cons_zero, List.set_cons_succ]
          refine wpR_take grow_rf grow_tr 5 rfl (by kernel_rfl) (fun _ _ _ h => h) rfl (v := ?_) ?_ ?_
          rotate_left
          · (intro w' hG; go_simp; try with_reducible rfl)
          try simp only [Act.put, List.setIfInBounds_toArray, List.set_cons_zero, List.set_cons_succ]
          refine wpR_take grow_rf grow_tr 6 rfl (by kernel_rfl) (fun _ _ _ h => h) rfl (v := ?_) ?_ ?_
          rotate_left
          · (intro w' hG; go_simp; try with_reducible rfl)
          try simp only [Act.put, List.setIfInBounds_toArray, List.set_cons_zero, List.set_cons_succ]
          refine wpR_take grow_rf grow_tr 7 rfl (by kernel_rfl) (fun _ _ _ h => h) rfl (v := ?_) ?_ ?_
          rotate_left
          · (intro w' hG; go_simp; try with_reducible rfl)
          try simp only [Act.put, List.setIfInBounds_toArray, List.set_cons_zero, List.set_cons_succ]
          refine wpR_take grow_rf grow_tr 8 rfl (by kernel_rfl) (fun _ _ _ h => h) rfl (v := ?_) ?_ ?_
          rotate_left
          · (intro w' hG; go_simp; try with_reducible rfl)
          try simp only [Act.put, List.setIfInBounds_toArray, List.set_cons_zero, List.set_cons_succ]
          refine wpR_take grow_rf grow_tr 9 rfl (by kernel_rfl) (fun _ _ _ h => h) rfl (v := ?_) ?_ ?_
          rotate_left
          · (intro w' hG; go_simp; try with_reducible rfl)
          try simp only [Act.put, List.setIfInBounds_toArray, List.set_cons_zero, List.set_cons_succ]
          refine wpR_take grow_rf grow_tr 10 rfl (by kernel_rfl) (fun _ _ _ h => h) rfl (v := ?_) ?_ ?_
          rotate_left
          · (intro w' hG; go_simp; try with_reducible rfl)
          try simp only [Act.put, List.setIfInBounds_toArray, List.set_cons_zero, List.set_cons_succ]
          refine wpR_take grow_rf grow_tr 11 rfl (by kernel_rfl) (fun _ _ _ h => h) rfl (v := ?_) ?_ ?_
          rotate_left
          · (intro w' hG; go_simp; try with_reducible rfl)
          try simp only [Act.put, List.setIfInBounds_toArray, List.set_cons_zero, List.set_cons_succ]
          refine wpR_take grow_rf grow_tr 12 rfl (by kernel_rfl) (fun _ _ _ h => h) rfl (v := ?_) ?_ ?_
          rotate_left
          · (intro w' hG; go_simp; try with_reducible rfl)
          try simp only [Act.put, List.setIfInBounds_toArray, List.set_cons_zero, List.set_cons_succ]
          refine wpR_skip grow_rf grow_tr 13 rfl (by kernel_rfl) (fun _ _ _ h => h) rfl ?_
          try simp only [Act.put, List.setIfInBounds_toArray, List.set_cons_zero, List.set_cons_succ]
          refine wpR_skip grow_rf grow_tr 14 rfl (by kernel_rfl) (fun _ _ _ h => h) rfl ?_
          try simp only [Act.put, List.setIfInBounds_toArray, List.set_cons_zero, List.set_cons_succ]
          refine wpR_skip grow_rf grow_tr 15 rfl (by kernel_rfl) (fun _ _ _ h => h) rfl ?_
          try simp only [Act.put, List.setIfInBounds_toArray, List.set_cons_zero, List.set_cons_succ]
          refine wpR_skip grow_rf grow_tr 16 rfl (by kernel_rfl) (fun _ _ _ h => h) rfl ?_
          try simp only [Act.put, List.setIfInBounds_toArray, List.set_cons_zero, List.set_cons_succ]
          refine wpR_skip grow_rf grow_tr 17 rfl (by kernel_rfl) (fun _ _ _ h => h) rfl ?_
          try simp only [Act.put, List.setIfInBounds_toArray, List.set_cons_zero, List.set_cons_succ]
          refine wpR_skip grow_rf grow_tr 18 rfl (by kernel_rfl) (fun _ _ _ h => h) rfl ?_
          try simp only [Act.put, List.setIfInBounds_toArray, List.set_cons_zero, List.set_cons_succ]
          refine wpR_skip grow_rf grow_tr 19 rfl (by kernel_rfl) (fun _ _ _ h => h) rfl ?_
          try simp only [Act.put, List.setIfInBounds_toArray, List.set_cons_zero, List.set_cons_succ]
          refine wpR_take grow_rf grow_tr 20 rfl (by kernel_rfl) (fun _ _ _ h => h) rfl (v := ?_) ?_ ?_
          rotate_left
          · (intro w' hG; go_simp; try with_reducible rfl)
          try simp only [Act.put, List.setIfInBounds_toArray, List.set_cons_zero, List.set_cons_succ]
          refine wpR_done (by kernel_rfl) ?_ _
          clear heq
          have q3 := q2.drew
          have hg3 : Grow w w2.drew := hg2.drew
          clear Rq Rn Rt q2 hg2 hn2 ht2
          generalize w2.drew = w3 at *
          have hn3 := Grow.cell' hg3 hno
          have Rq := fun (W : World) (h : Grow w3.drew W) => (q3.grow (Grow.of_drew h)).cell
          have Rn := fun (W : World) (h : Grow w3.drew W) => Grow.cell' (Grow.of_drew h) hn3
          go_wp2_with fail
          refine wpR_region (Grow) [] (by kernel_rfl) ?_
          refine wpR_take grow_rf grow_tr 0 rfl (by kernel_rfl) (fun _ _ _ h => h) rfl (v := ?_) ?_ ?_
          rotate_left
          · (intro w' hG; go_simp; try with_reducible rfl)
          try simp only [Act.put, List.setIfInBounds_toArray, List.set_cons_zero, List.set_cons_succ]
          refine wpR_take grow_rf grow_tr 1 rfl (by kernel_rfl) (fun _ _ _ h => h) rfl (v := ?_) ?_ ?_
          rotate_left
          · (intro w' hG; go_simp; try with_reducible rfl)
          try simp only [Act.put, List.setIfInBounds_toArray, List.set_cons_zero, List.set_cons_succ]
          refine wpR_take grow_rf grow_tr 2 rfl (by kernel_rfl) (fun _ _ _ h => h) rfl (v := ?_) ?_ ?_
          rotate_left
          · (intro w' hG; go_simp; try with_reducible rfl)
          try simp only [Act.put, List.setIfInBounds_toArray, List.set_cons_zero, List.set_cons_succ]
          refine wpR_take grow_rf grow_tr 3 rfl (by kernel_rfl) (fun _ _ _ h => h) rfl (v := ?_) ?_ ?_
          rotate_left
          · (intro w' hG; go_simp; try with_reducible rfl)
          try simp only [Act.put, List.setIfInBounds_toArray, List.set_cons_zero, List.set_cons_succ]
          refine wpR_take grow_rf grow_tr 4 rfl (by kernel_rfl) (fun _ _ _ h => h) rfl (v := ?_) ?_ ?_
          rotate_left
          · (intro w' hG; go_simp; try with_reducible rfl)
          try simp only [Act.put, List.setIfInBounds_toArray, List.set_cons_zero, List.set_cons_succ]
          refine wpR_take grow_rf grow_tr 5 rfl (by kernel_rfl) (fun _ _ _ h => h) rfl (v := ?_) ?_ ?_
          rotate_left
          · (intro w' hG; go_simp; try with_reducible rfl)
          try simp only [Act.put, List.setIfInBounds_toArray, List.set_cons_zero, List.set_cons_succ]
          refine wpR_take grow_rf grow_tr 6 rfl (by kernel_rfl) (fun _ _ _ h => h) rfl (v := ?_) ?_ ?_
          rotate_left
          · (intro w' hG; go_simp; try with_reducible rfl)
          try simp only [Act.put, List.setIfInBounds_toArray, List.set_cons_zero, List.set_cons_succ]
          refine wpR_take grow_rf grow_tr 7 rfl (by kernel_rfl) (fun _ _ _ h => h) rfl (v := ?_) ?_ ?_
          rotate_left
          · (intro w' hG; go_simp; try with_reducible rfl)
          try simp only [Act.put, List.setIfInBounds_toArray, List.set_cons_zero, List.set_cons_succ]
          refine wpR_take grow_rf grow_tr 8 rfl (by kernel_rfl) (fun _ _ _ h => h) rfl (v := ?_) ?_ ?_
          rotate_left
          · (intro w' hG; go_simp; try with_reducible rfl)
          try simp only [Act.put, List.setIfInBounds_toArray, List.set_cons_zero, List.set_cons_succ]
          refine wpR_take grow_rf grow_tr 9 rfl (by kernel_rfl) (fun _ _ _ h => h) rfl (v := ?_) ?_ ?_
          rotate_left
          · (intro w' hG; go_simp; try with_reducible rfl)
          try simp only [Act.put, List.setIfInBounds_toArray, List.set_cons_zero, List.set_cons_succ]
          refine wpR_take grow_rf grow_tr 10 rfl (by kernel_rfl) (fun _ _ _ h => h) rfl (v := ?_) ?_ ?_
          rotate_left
          · (intro w' hG; go_simp; try with_reducible rfl)
          try simp only [Act.put, List.setIfInBounds_toArray, List.set_cons_zero, List.set_cons_succ]
          refine wpR_take grow_rf grow_tr 11 rfl (by kernel_rfl) (fun _ _ _ h => h) rfl (v := ?_) ?_ ?_
          rotate_left
          · (intro w' hG; go_simp; try with_reducible rfl)
          try simp only [Act.put, List.setIfInBounds_toArray, List.set_cons_zero, List.set_cons_succ]
          refine wpR_done (by kernel_rfl) ?_ _
          have q4 := q3.drew
          have hg4 : Grow w w3.drew := hg3.drew
          clear Rq Rn q3 hg3 hn3
          generalize w3.drew = w4 at *
          have c4 := q4.cell
          have hone : ∀ W, W = w4.alloc (.cells (pbc q) 58) → Pks W (some ⟨w4.heap.size, 0, none⟩) [q] ∧ Grow w W := fun W e => by
            subst e
            have hgx : Grow w (w4.alloc (.cells (pbc q) 58)) := hg4.alloc _
            exact ⟨Pks.one' (Box.new w4 (pbc q) 58 rfl) (hqb.grow hgx), hgx⟩
          have hone := hide hone
          clear q4 hg4
          go_wp2
          refine bodyPost_ret (results_tmp2 rfl _ _ _) rfl ?_
          rw [HRz.out]
          obtain ⟨o1, o2⟩ := hone.out _ rfl
          exact ⟨⟨_, _, rfl, o1⟩, o2⟩
end Go.Proofs.Ytbccbfmgjeknhaa
