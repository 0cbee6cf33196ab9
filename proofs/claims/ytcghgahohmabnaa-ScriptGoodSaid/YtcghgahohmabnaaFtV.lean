/- What comes of a frame by a fate that is fair; the walk of the statement FateFair. -/
import Derived.Test.YtcghgahohmabnaaFtL
import Derived.Test.YtcghgahohmabnaaFrmF
import Derived.LoopN
namespace Go.Proofs.Ytcghgahohmabnaa
open Go.RowKit
set_option maxRecDepth 100000 in
set_option maxHeartbeats 2000000 in
theorem arr0_any (f : Fate) (A : Option Addr) (l : List UInt8) (c : Nat) (w : World) (hl : Bytes w A l) (hn : l.length ≤ 1000000000000) (hg : fateB f = true) (hk : f.kind = 0) :
    Calls Try.prog 47 #[fv f, .slice A l.length c] w fun e w' => (∃ g A1 c1, e = .returned (.slice (some ⟨g, 0, none⟩) 1 1) ∧ w.heap.size ≤ g ∧ Box w' g #[.int .i64 f.delay, .slice A1 l.length c1] ∧ Own w' w.heap.size A1 c1 l) ∧ Grow w w' := by
  have HG := hide (fun W => fgood_any f W)
  rw [hg] at HG
  obtain ⟨kind, delay, again, pos, bits⟩ := f
  dsimp only at *
  subst hk
  clear hg
  have HC := hide (fun W h => clone_any A l c W h hn)
  go_enter Try.func47, Try.ntmps47
  go_wp2_with fail
  refine (HG.out _).mono ?_
  rintro r w1 ⟨rfl, hb1⟩
  obtain ⟨p0, hg1⟩ := peel1 hb1
  have p0_ := hide p0
  clear p0
  have p0 := p0_
  clear p0_
  have hl := hl.grow hg1
  have HG1 := hide (show Grow w w1 from hg1)
  have hsz1 : w.heap.size ≤ w1.heap.size := HG1.out.size
  have hq1 : w.heap.size ≤ w1.heap.size := hg1.size
  have HS1 := hide hg1
  clear hb1 hg1
  obtain ⟨cp0, fp0, lp0⟩ := (show Box w1 _ _ from p0.out).rules
  go_wp2_with fail
  have Rp0 := fun (W : World) (h : Grow w1.drew W) => ((show Box w1 _ _ from p0.out).grow (Grow.of_drew h)).cell
  have Fp0 := fun (W : World) (h : Grow w1.drew W) => ((show Box w1 _ _ from p0.out).grow (Grow.of_drew h)).fz
  refine wpR_region (Grow) [] (by kernel_rfl) ?_
  refine wpR_take grow_rf grow_tr 0 rfl (by kernel_rfl) (fun _ _ _ h => h) rfl (v := ?_) ?_ ?_
  rotate_left
  · (intro w' hG; go_simp; try with_reducible rfl)
  try simp only [Act.put, List.setIfInBounds_toArray, List.set_cons_zero, List.set_cons_succ]
  refine wpR_take grow_rf grow_tr 1 rfl (by kernel_rfl) (fun _ _ _ h => h) rfl (v := ?_) ?_ ?_
  rotate_left
  · (intro w' hG; go_simp; try with_reducible rfl)
  try simp only [Act.put, List.setIfInBounds_toArray, List.set_cons_zero, List.set_cons_succ]
  refine wpR_take grow_rf grow_tr 2 rfl (by kernel_rfl) (fun _ _ _ h => h) rfl (v := ?_) ?_ ?_
  rotate_left
  · (intro w' hG; go_simp; try with_reducible rfl)
  try simp only [Act.put, List.setIfInBounds_toArray, List.set_cons_zero, List.set_cons_succ]
  refine wpR_call 3 rfl (by kernel_rfl) rfl fun K hK => ?_
  go_simp
  refine (HC.out _ hl.drew).mono ?_
  rintro r w2 ⟨A1, c1, rfl, hown1, hb2⟩
  have ho1 := hide hown1
  clear hown1
  refine hK.out _ _ (.inr (hb2)) ?_
  clear hK
  try simp only [Act.put, List.setIfInBounds_toArray, List.set_cons_zero, List.set_cons_succ]
  clear Rp0 Fp0
  have hb2 := Grow.of_drew hb2
  clear cp0 fp0 lp0
  have hg2 := hb2
  have p0_ := hide ((show Box w1 _ _ from p0.out).grow hg2)
  clear p0
  have p0 := p0_
  clear p0_
  have hl := hl.grow hg2
  have HG2 := hide (Grow.trans (show Grow w w1 from HG1.out) hg2)
  clear HG1
  have hsz2 : w.heap.size ≤ w2.heap.size := HG2.out.size
  have hq2 : w1.heap.size ≤ w2.heap.size := hg2.size
  have HS2 := hide hg2
  clear hb2 hg2
  obtain ⟨cp0, fp0, lp0⟩ := (show Box w2 _ _ from p0.out).rules
  have Rp0 := fun (W : World) (h : Grow w2 W) => ((show Box w2 _ _ from p0.out).grow h).cell
  have Fp0 := fun (W : World) (h : Grow w2 W) => ((show Box w2 _ _ from p0.out).grow h).fz
  refine wpR_take grow_rf grow_tr 4 rfl (by kernel_rfl) (fun _ _ _ h => h) rfl (v := ?_) ?_ ?_
  rotate_left
  · (intro w' hG; go_simp; try with_reducible rfl)
  try simp only [Act.put, List.setIfInBounds_toArray, List.set_cons_zero, List.set_cons_succ]
  refine wpR_call 5 rfl (by kernel_rfl) rfl fun K hK => ?_
  go_simp
  skip
  refine hK.out _ _ (.inr ((Grow.refl w2).alloc _)) ?_
  clear hK
  try simp only [Act.put, List.setIfInBounds_toArray, List.set_cons_zero, List.set_cons_succ]
  refine wpR_take grow_rf grow_tr 6 rfl (by kernel_rfl) (fun _ _ _ h => h) rfl (v := ?_) ?_ ?_
  rotate_left
  · (intro w' hG; go_simp; try with_reducible rfl)
  try simp only [Act.put, List.setIfInBounds_toArray, List.set_cons_zero, List.set_cons_succ]
  refine wpR_done (by kernel_rfl) ?_ _
  clear Rp0 Fp0
  clear cp0 fp0 lp0
  have hb4 := (Grow.refl w2).alloc (.cells #[.int .i64 delay, .slice A1 l.length c1] 84)
  have nb := Box.new w2 #[.int .i64 delay, .slice A1 l.length c1] 84 rfl
  go_wp2
  go_ret
  refine ⟨⟨w2.heap.size, A1, c1, rfl, HG2.out.size, nb, (ho1.out.below hb4).mono hsz1⟩, Grow.trans HG2.out hb4⟩
set_option maxRecDepth 100000 in
set_option maxHeartbeats 2000000 in
theorem fateFair_no (f : Fate) (lo hi : Int) (B : Option Addr) (b : List UInt8) (cb : Nat) (w : World) (h : fairB f lo hi = false) (hbl : b.length ≤ cb) (_hbc : cb ≤ 9223372036854775807) (hb : Bytes w B b) :
    Calls Try.prog 13 #[fv f, .agg #[.int .i64 lo, .int .i64 hi], .slice B b.length cb] w fun e w' => e = .returned (.bool true) ∧ Grow w w' := by
  obtain ⟨m, hm⟩ : ∃ m, m = b.take 200 := ⟨_, rfl⟩
  have hmm : m.length = min 200 b.length := by rw [hm, List.length_take]
  have hb := hm ▸ hb.take 200
  have hmin : (if 200 < (b.length : Int) then (200 : Int) else (b.length : Int)) = ((m.length : Nat) : Int) := by split <;> omega
  have hmc : m.length ≤ cb := by omega
  have hmN : m.length ≤ 200 := by omega
  clear hm hmm hbl
  have HF := hide (fun W => ffair_any f lo hi W)
  have HR := hide (fun W => reffair_any f lo hi W)
  rw [h] at HF HR
  clear h
  go_enter Try.func13, Try.ntmps13
  go_wp2_with (at_builtin; refine wpList_append_fresh byteT rfl (.tmp 10) (.tmp 15) rfl (Own.made' _ (w.heap.size) (w.heap.size + 1 + 1) (by simp) (by omega)) (by simp <;> omega) (((hb.alloc _).alloc _).alloc _) rfl rfl (by omega) ?_)
  intro A1 c1 w1 hown1 hb1
  have hb1 := Grow.trans ((Grow.refl _).alloc _) hb1
  obtain ⟨p0, d0, hg1⟩ := peel2 hb1
  have p0_ := hide p0
  clear p0
  have p0 := p0_
  clear p0_
  have d0_ := hide d0
  clear d0
  have d0 := d0_
  clear d0_
  have hb := hb.grow hg1
  have HG1 := hide (show Grow w w1 from hg1)
  have hsz1 : w.heap.size ≤ w1.heap.size := HG1.out.size
  have hq1 : w.heap.size ≤ w1.heap.size := hg1.size
  have HS1 := hide hg1
  clear hb1 hg1
  obtain ⟨cp0, fp0, lp0⟩ := (show Box w1 _ _ from p0.out).rules
  obtain ⟨cd0, fd0, ld0⟩ := (show Box w1 _ _ from d0.out).rules
  have h1 := hown1.bytes
  have hc1 := hown1.le
  clear hown1 hb
  go_wp2_with fail
  refine (HF.out _).mono ?_
  rintro r w2 ⟨rfl, hb2⟩
  clear cp0 fp0 lp0 cd0 fd0 ld0
  have hg2 := hb2
  have p0_ := hide ((show Box w1 _ _ from p0.out).grow hg2)
  clear p0
  have p0 := p0_
  clear p0_
  have d0_ := hide ((show Box w1 _ _ from d0.out).grow hg2)
  clear d0
  have d0 := d0_
  clear d0_
  have h1 := h1.grow hg2
  have HG2 := hide (Grow.trans (show Grow w w1 from HG1.out) hg2)
  clear HG1
  have hsz2 : w.heap.size ≤ w2.heap.size := HG2.out.size
  have hq2 : w1.heap.size ≤ w2.heap.size := hg2.size
  have HS2 := hide hg2
  clear hb2 hg2
  obtain ⟨cp0, fp0, lp0⟩ := (show Box w2 _ _ from p0.out).rules
  obtain ⟨cd0, fd0, ld0⟩ := (show Box w2 _ _ from d0.out).rules
  go_wp2_with fail
  refine (HR.out _).mono ?_
  rintro r w3 ⟨rfl, hb3⟩
  clear cp0 fp0 lp0 cd0 fd0 ld0
  have hg3 := hb3
  have p0_ := hide ((show Box w2 _ _ from p0.out).grow hg3)
  clear p0
  have p0 := p0_
  clear p0_
  have d0_ := hide ((show Box w2 _ _ from d0.out).grow hg3)
  clear d0
  have d0 := d0_
  clear d0_
  have h1 := h1.grow hg3
  have HG3 := hide (Grow.trans (show Grow w w2 from HG2.out) hg3)
  clear HG2
  have hsz3 : w.heap.size ≤ w3.heap.size := HG3.out.size
  have hq3 : w2.heap.size ≤ w3.heap.size := hg3.size
  have HS3 := hide hg3
  clear hb3 hg3
  obtain ⟨cp0, fp0, lp0⟩ := (show Box w3 _ _ from p0.out).rules
  obtain ⟨cd0, fd0, ld0⟩ := (show Box w3 _ _ from d0.out).rules
  go_wp2_with fail
  refine (works45_any _).mono ?_
  rintro r w4 ⟨rfl, hb4⟩
  clear cp0 fp0 lp0 cd0 fd0 ld0
  have hg4 := hb4
  have p0_ := hide ((show Box w3 _ _ from p0.out).grow hg4)
  clear p0
  have p0 := p0_
  clear p0_
  have d0_ := hide ((show Box w3 _ _ from d0.out).grow hg4)
  clear d0
  have d0 := d0_
  clear d0_
  have h1 := h1.grow hg4
  have HG4 := hide (Grow.trans (show Grow w w3 from HG3.out) hg4)
  clear HG3
  have hsz4 : w.heap.size ≤ w4.heap.size := HG4.out.size
  have hq4 : w3.heap.size ≤ w4.heap.size := hg4.size
  have HS4 := hide hg4
  clear hb4 hg4
  obtain ⟨cp0, fp0, lp0⟩ := (show Box w4 _ _ from p0.out).rules
  obtain ⟨cd0, fd0, ld0⟩ := (show Box w4 _ _ from d0.out).rules
  go_wp2
  go_ret
  exact ⟨rfl, HG4.out⟩
set_option maxRecDepth 100000 in
set_option maxHeartbeats 2000000 in
theorem fateFair_0 (f : Fate) (lo hi : Int) (B : Option Addr) (b : List UInt8) (cb : Nat) (w : World) (h : fairB f lo hi = true) (hk : f.kind = 0) (hbl : b.length ≤ cb) (_hbc : cb ≤ 9223372036854775807) (hb : Bytes w B b) :
    Calls Try.prog 13 #[fv f, .agg #[.int .i64 lo, .int .i64 hi], .slice B b.length cb] w fun e w' => e = .returned (.bool true) ∧ Grow w w' := by
  obtain ⟨m, hm⟩ : ∃ m, m = b.take 200 := ⟨_, rfl⟩
  have hmm : m.length = min 200 b.length := by rw [hm, List.length_take]
  have hb := hm ▸ hb.take 200
  have hmin : (if 200 < (b.length : Int) then (200 : Int) else (b.length : Int)) = ((m.length : Nat) : Int) := by split <;> omega
  have hmc : m.length ≤ cb := by omega
  have hmN : m.length ≤ 200 := by omega
  clear hm hmm hbl
  have HF := hide (fun W => ffair_any f lo hi W)
  have HR := hide (fun W => reffair_any f lo hi W)
  rw [h] at HF HR
  have hgd : fateB f = true := by simp [fairB] at h; exact h.1
  have hA := hide (fun A c W hh => arr0_any f A m c W hh (by omega) hgd hk)
  have hlo : lo ≤ f.delay ∧ f.delay ≤ hi := by simp [fairB, hk, withinB] at h; exact h.2
  clear h hgd
  obtain ⟨kind, delay, again, pos, bits⟩ := f
  dsimp only at *
  clear hk
  obtain ⟨hlo, hhi⟩ := hlo
  have n1 : ¬ delay < lo := by omega
  have n2 : ¬ hi < delay := by omega
  clear hlo hhi
  go_enter Try.func13, Try.ntmps13
  go_wp2_with (at_builtin; refine wpList_append_fresh byteT rfl (.tmp 10) (.tmp 15) rfl (Own.made' _ (w.heap.size) (w.heap.size + 1 + 1) (by simp) (by omega)) (by simp <;> omega) (((hb.alloc _).alloc _).alloc _) rfl rfl (by omega) ?_)
  intro A1 c1 w1 hown1 hb1
  have hb1 := Grow.trans ((Grow.refl _).alloc _) hb1
  obtain ⟨p0, d0, hg1⟩ := peel2 hb1
  have p0_ := hide p0
  clear p0
  have p0 := p0_
  clear p0_
  have d0_ := hide d0
  clear d0
  have d0 := d0_
  clear d0_
  have hb := hb.grow hg1
  have HG1 := hide (show Grow w w1 from hg1)
  have hsz1 : w.heap.size ≤ w1.heap.size := HG1.out.size
  have hq1 : w.heap.size ≤ w1.heap.size := hg1.size
  have HS1 := hide hg1
  clear hb1 hg1
  obtain ⟨cp0, fp0, lp0⟩ := (show Box w1 _ _ from p0.out).rules
  obtain ⟨cd0, fd0, ld0⟩ := (show Box w1 _ _ from d0.out).rules
  have h1 := hown1.bytes
  have hc1 := hown1.le
  clear hown1 hb
  go_wp2_with fail
  refine (HF.out _).mono ?_
  rintro r w2 ⟨rfl, hb2⟩
  clear cp0 fp0 lp0 cd0 fd0 ld0
  have hg2 := hb2
  have p0_ := hide ((show Box w1 _ _ from p0.out).grow hg2)
  clear p0
  have p0 := p0_
  clear p0_
  have d0_ := hide ((show Box w1 _ _ from d0.out).grow hg2)
  clear d0
  have d0 := d0_
  clear d0_
  have h1 := h1.grow hg2
  have HG2 := hide (Grow.trans (show Grow w w1 from HG1.out) hg2)
  clear HG1
  have hsz2 : w.heap.size ≤ w2.heap.size := HG2.out.size
  have hq2 : w1.heap.size ≤ w2.heap.size := hg2.size
  have HS2 := hide hg2
  clear hb2 hg2
  obtain ⟨cp0, fp0, lp0⟩ := (show Box w2 _ _ from p0.out).rules
  obtain ⟨cd0, fd0, ld0⟩ := (show Box w2 _ _ from d0.out).rules
  go_wp2_with fail
  refine (hA.out _ _ _ h1).mono ?_
  rintro r w3 ⟨⟨g, A1', c1', rfl, hge, hbx, ho1⟩, hb3⟩
  have k1 := ho1.bytes
  clear ho1
  clear cp0 fp0 lp0 cd0 fd0 ld0
  have hg3 := hb3
  have p0_ := hide ((show Box w2 _ _ from p0.out).grow hg3)
  clear p0
  have p0 := p0_
  clear p0_
  have d0_ := hide ((show Box w2 _ _ from d0.out).grow hg3)
  clear d0
  have d0 := d0_
  clear d0_
  have h1 := h1.grow hg3
  have HG3 := hide (Grow.trans (show Grow w w2 from HG2.out) hg3)
  clear HG2
  have hsz3 : w.heap.size ≤ w3.heap.size := HG3.out.size
  have hq3 : w2.heap.size ≤ w3.heap.size := hg3.size
  have HS3 := hide hg3
  clear hb3 hg3
  obtain ⟨cp0, fp0, lp0⟩ := (show Box w3 _ _ from p0.out).rules
  obtain ⟨cd0, fd0, ld0⟩ := (show Box w3 _ _ from d0.out).rules
  have b0 := hide hbx
  clear hbx
  clear cp0 fp0 lp0 cd0 fd0 ld0
  obtain ⟨cp0, fp0, lp0⟩ := (show Box w3 _ _ from p0.out).rules
  obtain ⟨cd0, fd0, ld0⟩ := (show Box w3 _ _ from d0.out).rules
  obtain ⟨cb0, fb0, lb0⟩ := (show Box w3 _ _ from b0.out).rules
  have V0 := fun o => conv_any c1 (h1.alloc o)
  have V1 := fun o => conv_any c1' (k1.alloc o)
  go_wp2_with fail
  refine wp_loop_rounds 2 ?_
  rw [rounds_succ]
  go_wp2_with fail
  rw [rounds_succ]
  go_wp2_with fail
  refine (works45_any _).mono ?_
  rintro r w4 ⟨rfl, hb4⟩
  clear cp0 fp0 lp0 cd0 fd0 ld0 cb0 fb0 lb0
  obtain ⟨x0, hg4⟩ := peel1 hb4
  have p0_ := hide ((show Box w3 _ _ from p0.out).grow hg4)
  clear p0
  have p0 := p0_
  clear p0_
  have d0_ := hide ((show Box w3 _ _ from d0.out).grow hg4)
  clear d0
  have d0 := d0_
  clear d0_
  have b0_ := hide ((show Box w3 _ _ from b0.out).grow hg4)
  clear b0
  have b0 := b0_
  clear b0_
  have x0_ := hide x0
  clear x0
  have x0 := x0_
  clear x0_
  have h1 := h1.grow hg4
  have HG4 := hide (Grow.trans (show Grow w w3 from HG3.out) hg4)
  clear HG3
  have hsz4 : w.heap.size ≤ w4.heap.size := HG4.out.size
  have hq4 : w3.heap.size ≤ w4.heap.size := hg4.size
  have HS4 := hide hg4
  clear hb4 hg4
  obtain ⟨cp0, fp0, lp0⟩ := (show Box w4 _ _ from p0.out).rules
  obtain ⟨cd0, fd0, ld0⟩ := (show Box w4 _ _ from d0.out).rules
  obtain ⟨cb0, fb0, lb0⟩ := (show Box w4 _ _ from b0.out).rules
  obtain ⟨cx0, fx0, lx0⟩ := (show Box w4 _ _ from x0.out).rules
  go_wp2
  go_ret
  exact ⟨rfl, HG4.out⟩
set_option maxRecDepth 100000 in
set_option maxHeartbeats 2000000 in
theorem fateFair_2 (f : Fate) (lo hi : Int) (B : Option Addr) (b : List UInt8) (cb : Nat) (w : World) (h : fairB f lo hi = true) (hk : f.kind = 2) (hbl : b.length ≤ cb) (_hbc : cb ≤ 9223372036854775807) (hb : Bytes w B b) :
    Calls Try.prog 13 #[fv f, .agg #[.int .i64 lo, .int .i64 hi], .slice B b.length cb] w fun e w' => e = .returned (.bool true) ∧ Grow w w' := by
  obtain ⟨m, hm⟩ : ∃ m, m = b.take 200 := ⟨_, rfl⟩
  have hmm : m.length = min 200 b.length := by rw [hm, List.length_take]
  have hb := hm ▸ hb.take 200
  have hmin : (if 200 < (b.length : Int) then (200 : Int) else (b.length : Int)) = ((m.length : Nat) : Int) := by split <;> omega
  have hmc : m.length ≤ cb := by omega
  have hmN : m.length ≤ 200 := by omega
  clear hm hmm hbl
  have HF := hide (fun W => ffair_any f lo hi W)
  have HR := hide (fun W => reffair_any f lo hi W)
  rw [h] at HF HR
  have hgd : fateB f = true := by simp [fairB] at h; exact h.1
  have hA := hide (fun A c W hh => arr2_any f A m c W hh (by omega) hgd hk)
  have hlo : (lo ≤ f.delay ∧ f.delay ≤ hi) ∧ (lo ≤ f.again ∧ f.again ≤ hi) := by simp [fairB, hk, withinB] at h; exact h.2
  clear h hgd
  obtain ⟨kind, delay, again, pos, bits⟩ := f
  dsimp only at *
  clear hk
  obtain ⟨⟨hlo, hhi⟩, hlo2, hhi2⟩ := hlo
  have n1 : ¬ delay < lo := by omega
  have n2 : ¬ hi < delay := by omega
  have n3 : ¬ again < lo := by omega
  have n4 : ¬ hi < again := by omega
  clear hlo hhi hlo2 hhi2
  go_enter Try.func13, Try.ntmps13
  go_wp2_with (at_builtin; refine wpList_append_fresh byteT rfl (.tmp 10) (.tmp 15) rfl (Own.made' _ (w.heap.size) (w.heap.size + 1 + 1) (by simp) (by omega)) (by simp <;> omega) (((hb.alloc _).alloc _).alloc _) rfl rfl (by omega) ?_)
  intro A1 c1 w1 hown1 hb1
  have hb1 := Grow.trans ((Grow.refl _).alloc _) hb1
  obtain ⟨p0, d0, hg1⟩ := peel2 hb1
  have p0_ := hide p0
  clear p0
  have p0 := p0_
  clear p0_
  have d0_ := hide d0
  clear d0
  have d0 := d0_
  clear d0_
  have hb := hb.grow hg1
  have HG1 := hide (show Grow w w1 from hg1)
  have hsz1 : w.heap.size ≤ w1.heap.size := HG1.out.size
  have hq1 : w.heap.size ≤ w1.heap.size := hg1.size
  have HS1 := hide hg1
  clear hb1 hg1
  obtain ⟨cp0, fp0, lp0⟩ := (show Box w1 _ _ from p0.out).rules
  obtain ⟨cd0, fd0, ld0⟩ := (show Box w1 _ _ from d0.out).rules
  have h1 := hown1.bytes
  have hc1 := hown1.le
  clear hown1 hb
  go_wp2_with fail
  refine (HF.out _).mono ?_
  rintro r w2 ⟨rfl, hb2⟩
  clear cp0 fp0 lp0 cd0 fd0 ld0
  have hg2 := hb2
  have p0_ := hide ((show Box w1 _ _ from p0.out).grow hg2)
  clear p0
  have p0 := p0_
  clear p0_
  have d0_ := hide ((show Box w1 _ _ from d0.out).grow hg2)
  clear d0
  have d0 := d0_
  clear d0_
  have h1 := h1.grow hg2
  have HG2 := hide (Grow.trans (show Grow w w1 from HG1.out) hg2)
  clear HG1
  have hsz2 : w.heap.size ≤ w2.heap.size := HG2.out.size
  have hq2 : w1.heap.size ≤ w2.heap.size := hg2.size
  have HS2 := hide hg2
  clear hb2 hg2
  obtain ⟨cp0, fp0, lp0⟩ := (show Box w2 _ _ from p0.out).rules
  obtain ⟨cd0, fd0, ld0⟩ := (show Box w2 _ _ from d0.out).rules
  go_wp2_with fail
  refine (hA.out _ _ _ h1).mono ?_
  rintro r w3 ⟨⟨g, A1', c1', A2', c2', rfl, hge, hbx, ho1, ho2⟩, hb3⟩
  have k1 := ho1.bytes
  have k2 := ho2.bytes
  clear ho1 ho2
  clear cp0 fp0 lp0 cd0 fd0 ld0
  have hg3 := hb3
  have p0_ := hide ((show Box w2 _ _ from p0.out).grow hg3)
  clear p0
  have p0 := p0_
  clear p0_
  have d0_ := hide ((show Box w2 _ _ from d0.out).grow hg3)
  clear d0
  have d0 := d0_
  clear d0_
  have h1 := h1.grow hg3
  have HG3 := hide (Grow.trans (show Grow w w2 from HG2.out) hg3)
  clear HG2
  have hsz3 : w.heap.size ≤ w3.heap.size := HG3.out.size
  have hq3 : w2.heap.size ≤ w3.heap.size := hg3.size
  have HS3 := hide hg3
  clear hb3 hg3
  obtain ⟨cp0, fp0, lp0⟩ := (show Box w3 _ _ from p0.out).rules
  obtain ⟨cd0, fd0, ld0⟩ := (show Box w3 _ _ from d0.out).rules
  have b0 := hide hbx
  clear hbx
  clear cp0 fp0 lp0 cd0 fd0 ld0
  obtain ⟨cp0, fp0, lp0⟩ := (show Box w3 _ _ from p0.out).rules
  obtain ⟨cd0, fd0, ld0⟩ := (show Box w3 _ _ from d0.out).rules
  obtain ⟨cb0, fb0, lb0⟩ := (show Box w3 _ _ from b0.out).rules
  have V0 := fun o => conv_any c1 (h1.alloc o)
  have V1 := fun o => conv_any c1' (k1.alloc o)
  have V0' := fun o o' => conv_any c1 ((h1.alloc o).alloc o')
  have V2 := fun o o' => conv_any c2' ((k2.alloc o).alloc o')
  go_wp2_with fail
  refine wp_loop_rounds 3 ?_
  rw [rounds_succ]
  go_wp2_with fail
  rw [rounds_succ]
  go_wp2_with fail
  rw [rounds_succ]
  go_wp2_with fail
  refine (works45_any _).mono ?_
  rintro r w4 ⟨rfl, hb4⟩
  clear cp0 fp0 lp0 cd0 fd0 ld0 cb0 fb0 lb0
  obtain ⟨x0, x1, hg4⟩ := peel2 hb4
  have p0_ := hide ((show Box w3 _ _ from p0.out).grow hg4)
  clear p0
  have p0 := p0_
  clear p0_
  have d0_ := hide ((show Box w3 _ _ from d0.out).grow hg4)
  clear d0
  have d0 := d0_
  clear d0_
  have b0_ := hide ((show Box w3 _ _ from b0.out).grow hg4)
  clear b0
  have b0 := b0_
  clear b0_
  have x0_ := hide x0
  clear x0
  have x0 := x0_
  clear x0_
  have x1_ := hide x1
  clear x1
  have x1 := x1_
  clear x1_
  have h1 := h1.grow hg4
  have HG4 := hide (Grow.trans (show Grow w w3 from HG3.out) hg4)
  clear HG3
  have hsz4 : w.heap.size ≤ w4.heap.size := HG4.out.size
  have hq4 : w3.heap.size ≤ w4.heap.size := hg4.size
  have HS4 := hide hg4
  clear hb4 hg4
  obtain ⟨cp0, fp0, lp0⟩ := (show Box w4 _ _ from p0.out).rules
  obtain ⟨cd0, fd0, ld0⟩ := (show Box w4 _ _ from d0.out).rules
  obtain ⟨cb0, fb0, lb0⟩ := (show Box w4 _ _ from b0.out).rules
  obtain ⟨cx0, fx0, lx0⟩ := (show Box w4 _ _ from x0.out).rules
  obtain ⟨cx1, fx1, lx1⟩ := (show Box w4 _ _ from x1.out).rules
  go_wp2
  go_ret
  exact ⟨rfl, HG4.out⟩
end Go.Proofs.Ytcghgahohmabnaa
