/- The walk of SnapSplits (chapter 41). -/
import Derived.Test.YtbccbfmgjeknhaaLn
namespace Go.Proofs.Ytbccbfmgjeknhaa
open Go.RowKit
set_option maxRecDepth 100000 in
set_option maxHeartbeats 4000000 in
theorem snapSplits_none (A : Option Addr) (l : List UInt8) (c : Nat) (s : Int) (w : World) (hl : l.length ≤ c) (hc : c ≤ 9223372036854775807) (hb : Bytes w A l) (hs : s < 1) (hs0 : -9223372036854775808 ≤ s) :
    Calls Try.prog 4 #[.slice A l.length c, .int .i64 s] w fun e w' => e = .returned (.bool true) ∧ Grow w w' := by
  obtain ⟨m, hm⟩ : ∃ m, m = l.take 200 := ⟨_, rfl⟩
  have hmm : m.length = min 200 l.length := by rw [hm, List.length_take]
  have hb := hm ▸ hb.take 200
  have hmin : (if 200 < (l.length : Int) then (200 : Int) else (l.length : Int)) = ((m.length : Nat) : Int) := by split <;> omega
  have hmin2 : (if (l.length : Int) < 200 then (l.length : Int) else (200 : Int)) = ((m.length : Nat) : Int) := by split <;> omega
  have hmc : m.length ≤ c := by omega
  have hmN : m.length ≤ 200 := by omega
  clear hm hmm hl
  have HW := hide works41_any
  have HN := hide (fun W => scount_any (m.length : Nat) s W (by omega) (by omega))
  rw [show countR (m.length : Nat) s = 0 from if_pos (.inr hs)] at HN
  go_enter Try.func4, Try.ntmps4
  go_wp2_with (at_builtin; refine wpList_append_fresh byteT rfl (.tmp 8) (.tmp 13) rfl (Own.made' _ (w.heap.size) (w.heap.size) (by simp) (by omega)) (by simp <;> omega) (hb.alloc _) rfl rfl (by omega) ?_)
  intro A1 c1 w1 hown1 hb1
  have hg1 := Grow.trans ((Grow.refl _).alloc _) hb1
  have hb1' := hide hown1.bytes
  clear hb hb1 hmin hmin2 hmc hc hown1
  go_wp2_with fail
  refine (ssplit_none A1 m c1 s w1 hs (by omega) hb1'.out).mono ?_
  rintro r w2 ⟨rfl, hg2⟩
  go_wp2_with fail
  refine (refsplit_none A1 m.length c1 s w2 hs).mono ?_
  rintro r w3 ⟨⟨A3, c3, rfl⟩, hg3⟩
  have hg3 := (hg1.trans hg2).trans hg3
  clear hg1 hg2 hb1'
  go_wp2
  go_loopw [28] (fun i wr => i = .int .i64 0 ∧ wr = w3) (fun i _ => (intOf i).toNat)
  case atStart => exact ⟨rfl, rfl⟩
  case round =>
    obtain ⟨rfl, rfl⟩ := hrel
    go_wp2_with fail
    refine (HN.out _).mono ?_
    rintro r w4 ⟨rfl, rfl⟩
    go_wp2_with fail
    refine (HW.out _).mono ?_
    rintro r w5 ⟨rfl, hg5⟩
    go_wp2
    go_ret
    exact ⟨rfl, hg3.trans hg5⟩
set_option maxRecDepth 100000 in
set_option maxHeartbeats 4000000 in
theorem snapSplits_some (A : Option Addr) (l : List UInt8) (c s : Nat) (w : World) (hl : l.length ≤ c) (hc : c ≤ 9223372036854775807) (hb : Bytes w A l) (hs : 1 ≤ s) (hs9 : s ≤ 9223372036854775807) :
    Calls Try.prog 4 #[.slice A l.length c, .int .i64 s] w fun e w' => e = .returned (.bool true) ∧ Grow w w' := by
  obtain ⟨m, hm⟩ : ∃ m, m = l.take 200 := ⟨_, rfl⟩
  have hmm : m.length = min 200 l.length := by rw [hm, List.length_take]
  have hb := hm ▸ hb.take 200
  have hmin : (if 200 < (l.length : Int) then (200 : Int) else (l.length : Int)) = ((m.length : Nat) : Int) := by split <;> omega
  have hmin2 : (if (l.length : Int) < 200 then (l.length : Int) else (200 : Int)) = ((m.length : Nat) : Int) := by split <;> omega
  have hmc : m.length ≤ c := by omega
  have hmN : m.length ≤ 200 := by omega
  clear hm hmm hl
  have HW := hide works41_any
  have HN := hide (fun W => scount_any (m.length : Nat) s W (by omega) (by omega))
  have HN1 := hide (fun W => scount_any (-1) s W (by omega) (by omega))
  rw [count_split m s hs] at HN
  rw [show countR (-1) s = 0 from if_pos (.inl (by omega))] at HN1
  have HS := hide (fun A c W hb => ssplit_any A m c s W hs hs9 (by omega) hb)
  have HR := hide (fun A c W hb => refsplit_any A m c s W hs (by omega) hb)
  have hmost := (splitR_most s hs m).1
  have hflat := hide (splitR_flat s hs m)
  have HJ := hide (fun A c W h => join_any A (splitR s m) c W h (by omega) (by rw [hflat.out]; omega))
  rw [hflat.out] at HJ
  generalize splitR s m = S at *
  go_enter Try.func4, Try.ntmps4
  go_wp2_with (at_builtin; refine wpList_append_fresh byteT rfl (.tmp 8) (.tmp 13) rfl (Own.made' _ (w.heap.size) (w.heap.size) (by simp) (by omega)) (by simp <;> omega) (hb.alloc _) rfl rfl (by omega) ?_)
  intro A1 c1 w1 hown1 hb1
  have hg1 := Grow.trans ((Grow.refl _).alloc _) hb1
  have hb1' := hide hown1.bytes
  clear hb hb1 hmin hmin2 hmc hc hown1
  go_wp2_with fail
  refine (HS.out _ _ _ hb1'.out).mono ?_
  rintro r w2 ⟨⟨A2, c2, Y, rfl, hYS, hV, hYb⟩, hg2⟩
  go_wp2_with fail
  refine (HR.out A1 c1 w2 (hb1'.out.grow hg2)).mono ?_
  rintro r w3 ⟨⟨A3, c3, rfl, hS3⟩, hg3⟩
  have hV3 := hV.grow hg3
  have hS2 : Sls w3 A2 S := by
    rw [← hYS]
    exact hV3.sls (fun x hx => (hYb x hx).1.grow hg3)
  have hb3 := hide ((hb1'.out.grow hg2).grow hg3)
  have V3 : (convert 22 9 (.slice A1 m.length c1)).run Try.prog w3 = .ok (.string ⟨m.toArray⟩) w3 := conv_any c1 hb3.out
  have hg3 := (hg1.trans hg2).trans hg3
  have hS2 := hide hS2
  have hS3 := hide hS3
  have V3 := hide V3
  clear hg1 hg2 hb1' hV hV3 hYb hYS HS HR V3
  have hg33 := Grow.refl w3
  go_wp2
  go_loopw [28] (fun i wr => (∃ k : Nat, k ≤ S.length ∧ i = .int .i64 k) ∧ Grow w3 wr) (fun i _ => S.length - (intOf i).toNat)
  case atStart => exact ⟨⟨0, by omega, rfl⟩, hg33⟩
  case round =>
    clear hg33
    obtain ⟨⟨k, hk, rfl⟩, hgr⟩ := hrel
    have hS2 := hide (hS2.out.grow hgr)
    have hS3 := hide (hS3.out.grow hgr)
    have hb3 := hide (hb3.out.grow hgr)
    have hgr0 := hide hgr
    have hgr := hide (hg3.trans hgr)
    clear hg3
    by_cases hlt : k < S.length
    · obtain ⟨b2, o2, hA2, hc2⟩ := hS2.out (by intro e; rw [e] at hlt; cases hlt)
      obtain ⟨b3, o3, hA3, hc3⟩ := hS3.out (by intro e; rw [e] at hlt; cases hlt)
      subst hA2 hA3
      obtain ⟨A4, c4, hcell4, hb4⟩ := hc2 k hlt
      obtain ⟨A5, c5, hcell5, hb5⟩ := hc3 k hlt
      have C4 := fun (W : World) (h : Grow wr.drew W) => Grow.cell' (Grow.of_drew h) hcell4
      have C5 := fun (W : World) (h : Grow wr.drew W) => Grow.cell' (Grow.of_drew h) hcell5
      have V4 := fun (W : World) (h : Grow wr.drew W) => conv_any c4 (hb4.grow (Grow.of_drew h))
      have V5 := fun (W : World) (h : Grow wr.drew W) => conv_any c5 (hb5.grow (Grow.of_drew h))
      clear hc2 hc3 hb4 hb5 hcell4 hcell5
      generalize S[k] = x at *
      go_wp2
      refine wpR_region (Grow) [] (by kernel_rfl) ?_
      refine wpR_take grow_rf grow_tr 0 rfl (by kernel_rfl) (fun _ _ _ h => h) rfl (v := ?_) ?_ ?_
      rotate_left
      · (intro w' hG; go_simp; try with_reducible rfl)
      try simp only [Act.put, List.setIfInBounds_toArray, List.set_cons_zero, List.set_cons_succ]
      refine wpR_take grow_rf grow_tr 1 rfl (by kernel_rfl) (fun _ _ _ h => h) rfl (v := ?_) ?_ ?_
      rotate_left
      · (intro w' hG; go_simp; try with_reducible rfl)
      try simp only [Act.put, List.setIfInBounds_toArray, List.set_cons_zero, List.set_cons_succ]
      refine wpR_take grow_rf grow_tr 2 rfl (by kernel_rfl) (fun _ _ _ h => h) rfl (v := ?_) ?_ ?_
      rotate_left
      · (intro w' hG; go_simp; try with_reducible rfl)
      try simp only [Act.put, List.setIfInBounds_toArray, List.set_cons_zero, List.set_cons_succ]
      refine wpR_take grow_rf grow_tr 3 rfl (by kernel_rfl) (fun _ _ _ h => h) rfl (v := ?_) ?_ ?_
      rotate_left
      · (intro w' hG; go_simp; try with_reducible rfl)
      try simp only [Act.put, List.setIfInBounds_toArray, List.set_cons_zero, List.set_cons_succ]
      refine wpR_take grow_rf grow_tr 4 rfl (by kernel_rfl) (fun _ _ _ h => h) rfl (v := ?_) ?_ ?_
      rotate_left
      · (intro w' hG; go_simp; try with_reducible rfl)
      try simp only [Act.put, List.setIfInBounds_toArray, List.set_cons_zero, List.set_cons_succ]
      refine wpR_take grow_rf grow_tr 5 rfl (by kernel_rfl) (fun _ _ _ h => h) rfl (v := ?_) ?_ ?_
      rotate_left
      · (intro w' hG; go_simp; try with_reducible rfl)
      try simp only [Act.put, List.setIfInBounds_toArray, List.set_cons_zero, List.set_cons_succ]
      refine wpR_take grow_rf grow_tr 6 rfl (by kernel_rfl) (fun _ _ _ h => h) rfl (v := ?_) ?_ ?_
      rotate_left
      · (intro w' hG; go_simp; try with_reducible rfl)
      try simp only [Act.put, List.setIfInBounds_toArray, List.set_cons_zero, List.set_cons_succ]
      refine wpR_take grow_rf grow_tr 7 rfl (by kernel_rfl) (fun _ _ _ h => h) rfl (v := ?_) ?_ ?_
      rotate_left
      · (intro w' hG; go_simp; try with_reducible rfl)
      try simp only [Act.put, List.setIfInBounds_toArray, List.set_cons_zero, List.set_cons_succ]
      refine wpR_take grow_rf grow_tr 8 rfl (by kernel_rfl) (fun _ _ _ h => h) rfl (v := ?_) ?_ ?_
      rotate_left
      · (intro w' hG; go_simp; try with_reducible rfl)
      try simp only [Act.put, List.setIfInBounds_toArray, List.set_cons_zero, List.set_cons_succ]
      refine wpR_take grow_rf grow_tr 9 rfl (by kernel_rfl) (fun _ _ _ h => h) rfl (v := ?_) ?_ ?_
      rotate_left
      · (intro w' hG; go_simp; try with_reducible rfl)
      try simp only [Act.put, List.setIfInBounds_toArray, List.set_cons_zero, List.set_cons_succ]
      refine wpR_take grow_rf grow_tr 10 rfl (by kernel_rfl) (fun _ _ _ h => h) rfl (v := ?_) ?_ ?_
      rotate_left
      · (intro w' hG; go_simp; try with_reducible rfl)
      try simp only [Act.put, List.setIfInBounds_toArray, List.set_cons_zero, List.set_cons_succ]
      refine wpR_done (by kernel_rfl) ?_ _
      go_wp2
      go_roundw
      case rel => exact ⟨⟨k + 1, by omega, by go_num⟩, hgr0.out.drew⟩
      case measure => simp [intOf]; omega
    · obtain rfl : k = S.length := by omega
      have V3 := fun (W : World) (h : Grow wr.drew W) => conv_any c1 (hb3.out.grow (Grow.of_drew h))
      go_wp2
      refine wpR_region (Grow) [] (by kernel_rfl) ?_
      refine wpR_take grow_rf grow_tr 0 rfl (by kernel_rfl) (fun _ _ _ h => h) rfl (v := ?_) ?_ ?_
      rotate_left
      · (intro w' hG; go_simp; try with_reducible rfl)
      try simp only [Act.put, List.setIfInBounds_toArray, List.set_cons_zero, List.set_cons_succ]
      refine wpR_take grow_rf grow_tr 3 rfl (by kernel_rfl) (fun _ _ _ h => h) rfl (v := ?_) ?_ ?_
      rotate_left
      · (intro w' hG; go_simp; try with_reducible rfl)
      try simp only [Act.put, List.setIfInBounds_toArray, List.set_cons_zero, List.set_cons_succ]
      refine wpR_take grow_rf grow_tr 4 rfl (by kernel_rfl) (fun _ _ _ h => h) rfl (v := ?_) ?_ ?_
      rotate_left
      · (intro w' hG; go_simp; try with_reducible rfl)
      try simp only [Act.put, List.setIfInBounds_toArray, List.set_cons_zero, List.set_cons_succ]
      refine wpR_call 1 rfl (by kernel_rfl) rfl fun K hK => ?_
      go_simp
      refine (HJ.out A2 c2 _ (hS2.out.grow (Grow.of_drew (Grow.refl _)))).mono ?_
      rintro r w4 ⟨A4, c4, rfl, hown4, hb4⟩
      refine hK.out _ _ (.inr (hb4)) ?_
      clear hK
      try simp only [Act.put, List.setIfInBounds_toArray, List.set_cons_zero, List.set_cons_succ]
      have hg4 : Grow wr w4 := Grow.of_drew hb4
      clear V3
      have V3 := fun (W : World) (h : Grow w4 W) => conv_any c1 (hb3.out.grow (hg4.trans h))
      have V4 := fun (W : World) (h : Grow w4 W) => conv_any c4 (hown4.bytes.grow h)
      refine wpR_take grow_rf grow_tr 2 rfl (by kernel_rfl) (fun _ _ _ h => h) rfl (v := ?_) ?_ ?_
      rotate_left
      · (intro w' hG; go_simp; try with_reducible rfl)
      try simp only [Act.put, List.setIfInBounds_toArray, List.set_cons_zero, List.set_cons_succ]
      refine wpR_take grow_rf grow_tr 5 rfl (by kernel_rfl) (fun _ _ _ h => h) rfl (v := ?_) ?_ ?_
      rotate_left
      · (intro w' hG; go_simp; try with_reducible rfl)
      try simp only [Act.put, List.setIfInBounds_toArray, List.set_cons_zero, List.set_cons_succ]
      refine wpR_take grow_rf grow_tr 6 rfl (by kernel_rfl) (fun _ _ _ h => h) rfl (v := ?_) ?_ ?_
      rotate_left
      · (intro w' hG; go_simp; try with_reducible rfl)
      try simp only [Act.put, List.setIfInBounds_toArray, List.set_cons_zero, List.set_cons_succ]
      refine wpR_take grow_rf grow_tr 7 rfl (by kernel_rfl) (fun _ _ _ h => h) rfl (v := ?_) ?_ ?_
      rotate_left
      · (intro w' hG; go_simp; try with_reducible rfl)
      try simp only [Act.put, List.setIfInBounds_toArray, List.set_cons_zero, List.set_cons_succ]
      refine wpR_take grow_rf grow_tr 8 rfl (by kernel_rfl) (fun _ _ _ h => h) rfl (v := ?_) ?_ ?_
      rotate_left
      · (intro w' hG; go_simp; try with_reducible rfl)
      try simp only [Act.put, List.setIfInBounds_toArray, List.set_cons_zero, List.set_cons_succ]
      refine wpR_take grow_rf grow_tr 9 rfl (by kernel_rfl) (fun _ _ _ h => h) rfl (v := ?_) ?_ ?_
      rotate_left
      · (intro w' hG; go_simp; try with_reducible rfl)
      try simp only [Act.put, List.setIfInBounds_toArray, List.set_cons_zero, List.set_cons_succ]
      refine wpR_take grow_rf grow_tr 11 rfl (by kernel_rfl) (fun _ _ _ h => h) rfl (v := ?_) ?_ ?_
      rotate_left
      · (intro w' hG; go_simp; try with_reducible rfl)
      try simp only [Act.put, List.setIfInBounds_toArray, List.set_cons_zero, List.set_cons_succ]
      refine wpR_take grow_rf grow_tr 12 rfl (by kernel_rfl) (fun _ _ _ h => h) rfl (v := ?_) ?_ ?_
      rotate_left
      · (intro w' hG; go_simp; try with_reducible rfl)
      try simp only [Act.put, List.setIfInBounds_toArray, List.set_cons_zero, List.set_cons_succ]
      refine wpR_call 10 rfl (by kernel_rfl) rfl fun K hK => ?_
      go_simp
      refine (HN.out _).mono ?_
      rintro r w5 ⟨rfl, rfl⟩
      refine hK.out _ _ (.inr (Grow.refl _)) ?_
      clear hK
      try simp only [Act.put, List.setIfInBounds_toArray, List.set_cons_zero, List.set_cons_succ]
      refine wpR_take grow_rf grow_tr 13 rfl (by kernel_rfl) (fun _ _ _ h => h) rfl (v := ?_) ?_ ?_
      rotate_left
      · (intro w' hG; go_simp; try with_reducible rfl)
      try simp only [Act.put, List.setIfInBounds_toArray, List.set_cons_zero, List.set_cons_succ]
      refine wpR_take grow_rf grow_tr 14 rfl (by kernel_rfl) (fun _ _ _ h => h) rfl (v := ?_) ?_ ?_
      rotate_left
      · (intro w' hG; go_simp; try with_reducible rfl)
      try simp only [Act.put, List.setIfInBounds_toArray, List.set_cons_zero, List.set_cons_succ]
      refine wpR_take grow_rf grow_tr 15 rfl (by kernel_rfl) (fun _ _ _ h => h) rfl (v := ?_) ?_ ?_
      rotate_left
      · (intro w' hG; go_simp; try with_reducible rfl)
      try simp only [Act.put, List.setIfInBounds_toArray, List.set_cons_zero, List.set_cons_succ]
      refine wpR_take grow_rf grow_tr 16 rfl (by kernel_rfl) (fun _ _ _ h => h) rfl (v := ?_) ?_ ?_
      rotate_left
      · (intro w' hG; go_simp; try with_reducible rfl)
      try simp only [Act.put, List.setIfInBounds_toArray, List.set_cons_zero, List.set_cons_succ]
      refine wpR_call 17 rfl (by kernel_rfl) rfl fun K hK => ?_
      go_simp
      refine (HN1.out _).mono ?_
      rintro r w6 ⟨rfl, rfl⟩
      refine hK.out _ _ (.inr (Grow.refl _)) ?_
      clear hK
      try simp only [Act.put, List.setIfInBounds_toArray, List.set_cons_zero, List.set_cons_succ]
      refine wpR_take grow_rf grow_tr 18 rfl (by kernel_rfl) (fun _ _ _ h => h) rfl (v := ?_) ?_ ?_
      rotate_left
      · (intro w' hG; go_simp; try with_reducible rfl)
      try simp only [Act.put, List.setIfInBounds_toArray, List.set_cons_zero, List.set_cons_succ]
      refine wpR_take grow_rf grow_tr 19 rfl (by kernel_rfl) (fun _ _ _ h => h) rfl (v := ?_) ?_ ?_
      rotate_left
      · (intro w' hG; go_simp; try with_reducible rfl)
      try simp only [Act.put, List.setIfInBounds_toArray, List.set_cons_zero, List.set_cons_succ]
      refine wpR_take grow_rf grow_tr 20 rfl (by kernel_rfl) (fun _ _ _ h => h) rfl (v := ?_) ?_ ?_
      rotate_left
      · (intro w' hG; go_simp; try with_reducible rfl)
      try simp only [Act.put, List.setIfInBounds_toArray, List.set_cons_zero, List.set_cons_succ]
      refine wpR_call 21 rfl (by kernel_rfl) rfl fun K hK => ?_
      go_simp
      refine (HW.out _).mono ?_
      rintro r w7 ⟨rfl, hg7⟩
      refine hK.out _ _ (.inr (hg7)) ?_
      clear hK
      try simp only [Act.put, List.setIfInBounds_toArray, List.set_cons_zero, List.set_cons_succ]
      refine wpR_take grow_rf grow_tr 22 rfl (by kernel_rfl) (fun _ _ _ h => h) rfl (v := ?_) ?_ ?_
      rotate_left
      · (intro w' hG; go_simp; try with_reducible rfl)
      try simp only [Act.put, List.setIfInBounds_toArray, List.set_cons_zero, List.set_cons_succ]
      refine wpR_take grow_rf grow_tr 23 rfl (by kernel_rfl) (fun _ _ _ h => h) rfl (v := ?_) ?_ ?_
      rotate_left
      · (intro w' hG; go_simp; try with_reducible rfl)
      try simp only [Act.put, List.setIfInBounds_toArray, List.set_cons_zero, List.set_cons_succ]
      refine wpR_done (by kernel_rfl) ?_ _
      go_wp2
      go_ret
      exact ⟨rfl, hgr.out.trans (hg4.trans hg7)⟩
theorem snapSplits_any (A : Option Addr) (l : List UInt8) (c : Nat) (s : Int) (w : World) (hl : l.length ≤ c) (hc : c ≤ 9223372036854775807) (hb : Bytes w A l) (h0 : -9223372036854775808 ≤ s) (h1 : s ≤ 9223372036854775807) :
    Calls Try.prog 4 #[.slice A l.length c, .int .i64 s] w fun e w' => e = .returned (.bool true) ∧ Grow w w' := by
  by_cases hs : s < 1
  · exact snapSplits_none A l c s w hl hc hb hs h0
  · obtain ⟨n, rfl⟩ : ∃ n : Nat, s = n := ⟨s.toNat, by omega⟩
    exact snapSplits_some A l c n w hl hc hb (by omega) (by omega)
end Go.Proofs.Ytbccbfmgjeknhaa
