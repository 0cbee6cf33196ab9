/- What comes of a frame by a twin; the chapter's example; the walk of the statement FateGood. -/
import Derived.Test.YtcghgahohmabnaaFt2
import Derived.Test.YtcghgahohmabnaaFtC
namespace Go.Proofs.Ytcghgahohmabnaa
open Go.RowKit
theorem Bytes.lit' (w : World) (g : Nat) (hg : w.heap.size = g) (l : List UInt8) (cs : Array Value) (t : TypeId) (fr : Nat × Nat) (h : cs = (l.map u8).toArray) : Bytes (w.alloc (.cells cs t fr)) (some ⟨g, 0, none⟩) l := by subst hg; exact Bytes.lit w l cs t fr h
def dfl (m : Int) : Int := min (max m 1) 64
abbrev dflF (m : Int) : Fate := { kind := 0, delay := dfl m, again := 0, pos := 0, bits := 0 }
set_option maxHeartbeats 400000 in
theorem clamp_any (m lo hi : Int) (w : World) : Calls Try.prog 105 #[.int .i64 m, .int .i64 lo, .int .i64 hi] w fun e w' => e = .returned (.int .i64 (if m < lo then lo else if hi < m then hi else m)) ∧ w = w' := by
  by_cases h1 : m < lo
  · rw [if_pos h1]
    go_enter Try.func105, Try.ntmps105
    go_wp2
    go_ret
    exact ⟨rfl, rfl⟩
  · rw [if_neg h1]
    by_cases h2 : hi < m
    · rw [if_pos h2]
      go_enter Try.func105, Try.ntmps105
      go_wp2
      go_ret
      exact ⟨rfl, rfl⟩
    · rw [if_neg h2]
      go_enter Try.func105, Try.ntmps105
      go_wp2
      go_ret
      exact ⟨rfl, rfl⟩
set_option maxHeartbeats 1000000 in
theorem fdefault_any (m : Int) (w : World) : Calls Try.prog 55 #[.int .i64 m] w fun e w' => e = .returned (fv { kind := 0, delay := dfl m, again := 0, pos := 0, bits := 0 }) ∧ Grow w w' := by
  have hd := hide (show dfl m = min (max m 1) 64 from rfl)
  generalize dfl m = d at *
  go_enter Try.func55, Try.ntmps55
  go_wp2
  all_goals
    refine bodyPost_ret (v := fv { kind := 0, delay := d, again := 0, pos := 0, bits := 0 }) (by simp [results, Try.results55, go_sem]; try (have := hd.out; omega)) rfl ?_
    refine ⟨rfl, ?_⟩
    show Below w.heap.size w _
    repeat (with_reducible refine Below.setCell ?_ (by simp; try omega) _)
    exact (Grow.refl w).alloc _
set_option maxHeartbeats 1000000 in
theorem reffdefault_any (m : Int) (w : World) : Calls Try.prog 56 #[.int .i64 m] w fun e w' => e = .returned (fv { kind := 0, delay := dfl m, again := 0, pos := 0, bits := 0 }) ∧ Grow w w' := by
  have hd := hide (show dfl m = min (max m 1) 64 from rfl)
  have hC := hide (fun W => clamp_any m 1 64 W)
  have he : (if m < 1 then 1 else if 64 < m then 64 else m) = dfl m := by
    unfold dfl
    split
    · omega
    · split <;> omega
  rw [he] at hC
  clear he
  generalize dfl m = d at *
  go_enter Try.func56, Try.ntmps56
  go_wp2_with fail
  refine (hC.out _).mono ?_
  rintro r w' ⟨rfl, rfl⟩
  go_wp2
  refine bodyPost_ret (v := fv { kind := 0, delay := d, again := 0, pos := 0, bits := 0 }) (by simp [results, Try.results56, go_sem]) rfl ?_
  refine ⟨rfl, ?_⟩
  show Below w.heap.size w _
  repeat (with_reducible refine Below.setCell ?_ (by simp; try omega) _)
  exact (Grow.refl w).alloc _
set_option maxRecDepth 100000 in
set_option maxHeartbeats 2000000 in
theorem arr2_any (f : Fate) (A : Option Addr) (l : List UInt8) (c : Nat) (w : World) (hl : Bytes w A l) (hn : l.length ≤ 1000000000000) (hg : fateB f = true) (hk : f.kind = 2) :
    Calls Try.prog 47 #[fv f, .slice A l.length c] w fun e w' => (∃ g A1 c1 A2 c2, e = .returned (.slice (some ⟨g, 0, none⟩) 2 2) ∧ w.heap.size ≤ g ∧ Box w' g #[.int .i64 f.delay, .slice A1 l.length c1, .int .i64 f.again, .slice A2 l.length c2] ∧ Own w' w.heap.size A1 c1 l ∧ Own w' w.heap.size A2 c2 l) ∧ Grow w w' := by
  have HG := hide (fun W => fgood_any f W)
  rw [hg] at HG
  obtain ⟨kind, delay, again, pos, bits⟩ := f
  dsimp only at *
  subst hk
  clear hg
  have HC := hide (fun W h => clone_any A l c W h hn)
  go_enter Try.func47, Try.ntmps47
  go_wp2_with fail
  refine (HG.out _).mono ?_
  rintro r w1 ⟨rfl, hb1⟩
  obtain ⟨p0, hg1⟩ := peel1 hb1
  have p0_ := hide p0
  clear p0
  have p0 := p0_
  clear p0_
  have hl := hl.grow hg1
  have HG1 := hide (show Grow w w1 from hg1)
  have hsz1 : w.heap.size ≤ w1.heap.size := HG1.out.size
  have hq1 : w.heap.size ≤ w1.heap.size := hg1.size
  have HS1 := hide hg1
  clear hb1 hg1
  obtain ⟨cp0, fp0, lp0⟩ := (show Box w1 _ _ from p0.out).rules
  go_wp2_with fail
  have Rp0 := fun (W : World) (h : Grow w1.drew W) => ((show Box w1 _ _ from p0.out).grow (Grow.of_drew h)).cell
  have Fp0 := fun (W : World) (h : Grow w1.drew W) => ((show Box w1 _ _ from p0.out).grow (Grow.of_drew h)).fz
  refine wpR_region (Grow) [] (by kernel_rfl) ?_
  refine wpR_take grow_rf grow_tr 0 rfl (by kernel_rfl) (fun _ _ _ h => h) rfl (v := ?_) ?_ ?_
  rotate_left
  · (intro w' hG; go_simp; try with_reducible rfl)
  try simp only [Act.put, List.setIfInBounds_toArray, List.set_cons_zero, List.set_cons_succ]
  refine wpR_take grow_rf grow_tr 1 rfl (by kernel_rfl) (fun _ _ _ h => h) rfl (v := ?_) ?_ ?_
  rotate_left
  · (intro w' hG; go_simp; try with_reducible rfl)
  try simp only [Act.put, List.setIfInBounds_toArray, List.set_cons_zero, List.set_cons_succ]
  refine wpR_take grow_rf grow_tr 2 rfl (by kernel_rfl) (fun _ _ _ h => h) rfl (v := ?_) ?_ ?_
  rotate_left
  · (intro w' hG; go_simp; try with_reducible rfl)
  try simp only [Act.put, List.setIfInBounds_toArray, List.set_cons_zero, List.set_cons_succ]
  refine wpR_take grow_rf grow_tr 5 rfl (by kernel_rfl) (fun _ _ _ h => h) rfl (v := ?_) ?_ ?_
  rotate_left
  · (intro w' hG; go_simp; try with_reducible rfl)
  try simp only [Act.put, List.setIfInBounds_toArray, List.set_cons_zero, List.set_cons_succ]
  refine wpR_take grow_rf grow_tr 6 rfl (by kernel_rfl) (fun _ _ _ h => h) rfl (v := ?_) ?_ ?_
  rotate_left
  · (intro w' hG; go_simp; try with_reducible rfl)
  try simp only [Act.put, List.setIfInBounds_toArray, List.set_cons_zero, List.set_cons_succ]
  refine wpR_take grow_rf grow_tr 7 rfl (by kernel_rfl) (fun _ _ _ h => h) rfl (v := ?_) ?_ ?_
  rotate_left
  · (intro w' hG; go_simp; try with_reducible rfl)
  try simp only [Act.put, List.setIfInBounds_toArray, List.set_cons_zero, List.set_cons_succ]
  refine wpR_call 3 rfl (by kernel_rfl) rfl fun K hK => ?_
  go_simp
  refine (HC.out _ hl.drew).mono ?_
  rintro r w2 ⟨A1, c1, rfl, hown1, hb2⟩
  have ho1 := hide hown1
  clear hown1
  refine hK.out _ _ (.inr (hb2)) ?_
  clear hK
  try simp only [Act.put, List.setIfInBounds_toArray, List.set_cons_zero, List.set_cons_succ]
  clear Rp0 Fp0
  have hb2 := Grow.of_drew hb2
  clear cp0 fp0 lp0
  have hg2 := hb2
  have p0_ := hide ((show Box w1 _ _ from p0.out).grow hg2)
  clear p0
  have p0 := p0_
  clear p0_
  have hl := hl.grow hg2
  have HG2 := hide (Grow.trans (show Grow w w1 from HG1.out) hg2)
  clear HG1
  have hsz2 : w.heap.size ≤ w2.heap.size := HG2.out.size
  have hq2 : w1.heap.size ≤ w2.heap.size := hg2.size
  have HS2 := hide hg2
  clear hb2 hg2
  obtain ⟨cp0, fp0, lp0⟩ := (show Box w2 _ _ from p0.out).rules
  have Rp0 := fun (W : World) (h : Grow w2 W) => ((show Box w2 _ _ from p0.out).grow h).cell
  have Fp0 := fun (W : World) (h : Grow w2 W) => ((show Box w2 _ _ from p0.out).grow h).fz
  refine wpR_take grow_rf grow_tr 4 rfl (by kernel_rfl) (fun _ _ _ h => h) rfl (v := ?_) ?_ ?_
  rotate_left
  · (intro w' hG; go_simp; try with_reducible rfl)
  try simp only [Act.put, List.setIfInBounds_toArray, List.set_cons_zero, List.set_cons_succ]
  refine wpR_call 8 rfl (by kernel_rfl) rfl fun K hK => ?_
  go_simp
  refine (HC.out _ hl).mono ?_
  rintro r w3 ⟨A2, c2, rfl, hown2, hb3⟩
  have ho2 := hide hown2
  clear hown2
  refine hK.out _ _ (.inr (hb3)) ?_
  clear hK
  try simp only [Act.put, List.setIfInBounds_toArray, List.set_cons_zero, List.set_cons_succ]
  clear Rp0 Fp0
  clear cp0 fp0 lp0
  have hg3 := hb3
  have p0_ := hide ((show Box w2 _ _ from p0.out).grow hg3)
  clear p0
  have p0 := p0_
  clear p0_
  have hl := hl.grow hg3
  have HG3 := hide (Grow.trans (show Grow w w2 from HG2.out) hg3)
  clear HG2
  have hsz3 : w.heap.size ≤ w3.heap.size := HG3.out.size
  have hq3 : w2.heap.size ≤ w3.heap.size := hg3.size
  have HS3 := hide hg3
  clear hb3 hg3
  obtain ⟨cp0, fp0, lp0⟩ := (show Box w3 _ _ from p0.out).rules
  have Rp0 := fun (W : World) (h : Grow w3 W) => ((show Box w3 _ _ from p0.out).grow h).cell
  have Fp0 := fun (W : World) (h : Grow w3 W) => ((show Box w3 _ _ from p0.out).grow h).fz
  refine wpR_take grow_rf grow_tr 9 rfl (by kernel_rfl) (fun _ _ _ h => h) rfl (v := ?_) ?_ ?_
  rotate_left
  · (intro w' hG; go_simp; try with_reducible rfl)
  try simp only [Act.put, List.setIfInBounds_toArray, List.set_cons_zero, List.set_cons_succ]
  refine wpR_call 10 rfl (by kernel_rfl) rfl fun K hK => ?_
  go_simp
  skip
  refine hK.out _ _ (.inr ((Grow.refl w3).alloc _)) ?_
  clear hK
  try simp only [Act.put, List.setIfInBounds_toArray, List.set_cons_zero, List.set_cons_succ]
  refine wpR_take grow_rf grow_tr 11 rfl (by kernel_rfl) (fun _ _ _ h => h) rfl (v := ?_) ?_ ?_
  rotate_left
  · (intro w' hG; go_simp; try with_reducible rfl)
  try simp only [Act.put, List.setIfInBounds_toArray, List.set_cons_zero, List.set_cons_succ]
  refine wpR_done (by kernel_rfl) ?_ _
  clear Rp0 Fp0
  clear cp0 fp0 lp0
  have hb4 := (Grow.refl w3).alloc (.cells #[.int .i64 delay, .slice A1 l.length c1, .int .i64 again, .slice A2 l.length c2] 84)
  have nb := Box.new w3 #[.int .i64 delay, .slice A1 l.length c1, .int .i64 again, .slice A2 l.length c2] 84 rfl
  go_wp2
  go_ret
  refine ⟨⟨w3.heap.size, A1, c1, A2, c2, rfl, HG3.out.size, nb, (ho1.out.below (Grow.trans HS3.out hb4)).mono hsz1, (ho2.out.below hb4).mono hsz2⟩, Grow.trans HG3.out hb4⟩
theorem exf : fateB { kind := 2, delay := 2, again := 5, pos := 0, bits := 0 } = true := by decide
theorem exf1 : fairB { kind := 2, delay := 2, again := 5, pos := 0, bits := 0 } 1 4 = false := by decide
theorem exf2 : fairB { kind := 2, delay := 2, again := 5, pos := 0, bits := 0 } 2 5 = true := by decide
set_option maxRecDepth 100000 in
set_option maxHeartbeats 2000000 in
theorem works45_any (w : World) : Calls Try.prog 48 #[] w fun e w' => e = .returned (.bool true) ∧ Grow w w' := by
  have HA := hide (fun A c W h => arr2_any { kind := 2, delay := 2, again := 5, pos := 0, bits := 0 } A [120] c W h (by simp) exf rfl)
  have HF1 := hide (fun W => ffair_any { kind := 2, delay := 2, again := 5, pos := 0, bits := 0 } 1 4 W)
  have HF2 := hide (fun W => ffair_any { kind := 2, delay := 2, again := 5, pos := 0, bits := 0 } 2 5 W)
  have HG := hide (fun W => fgood_any { kind := 2, delay := 2, again := 5, pos := 0, bits := 0 } W)
  rw [exf] at HG
  rw [exf1] at HF1
  rw [exf2] at HF2
  have kc := fun (o : Obj) (C : Array Value) (n c : Nat) => Lib.run_convert_bytes_const (P := Try.prog) (World.alloc w o) 22 5 C n c Try.underlying22 Try.underlying5
  have hsz : ∀ o, (World.alloc w o).heap.size = w.heap.size + 1 := fun o => by simp
  simp only [hsz] at kc
  clear hsz
  have hlit := fun (o : Obj) => Bytes.lit' (World.alloc w o) (w.heap.size + 1) (by simp) [120] #[.int .u8 120] 5 (1, 2) rfl
  go_enter Try.func48, Try.ntmps48
  go_wp2_with fail
  refine (HA.out (some ⟨w.heap.size + 1, 0, none⟩) 1 _ (hlit _)).mono ?_
  rintro r w1 ⟨⟨g, A1, c1, A2, c2, rfl, hge, hbx, hown1, hown2⟩, hb1⟩
  have hlit1 := hown1.bytes
  have hlit2 := hown2.bytes
  have hc2' := hown2.le
  clear hown1 hown2 hlit1
  have hb1 := Grow.trans ((Grow.refl (World.alloc w _)).alloc _) hb1
  obtain ⟨p0, hg1⟩ := peel1 hb1
  have p0_ := hide p0
  clear p0
  have p0 := p0_
  clear p0_
  have HG1 := hide (show Grow w w1 from hg1)
  have hsz1 : w.heap.size ≤ w1.heap.size := HG1.out.size
  have hq1 : w.heap.size ≤ w1.heap.size := hg1.size
  have HS1 := hide hg1
  clear hb1 hg1
  obtain ⟨cp0, fp0, lp0⟩ := (show Box w1 _ _ from p0.out).rules
  have b0 := hide hbx
  clear hbx
  clear cp0 fp0 lp0
  obtain ⟨cp0, fp0, lp0⟩ := (show Box w1 _ _ from p0.out).rules
  obtain ⟨cb0, fb0, lb0⟩ := (show Box w1 _ _ from b0.out).rules
  have Vhlit2 : (convert 22 9 (.slice A2 1 c2)).run Try.prog w1 = .ok (.string ⟨#[120]⟩) w1 := conv_any c2 hlit2
  go_wp2_with fail
  refine (HF1.out _).mono ?_
  rintro r w2 ⟨rfl, hb2⟩
  clear cp0 fp0 lp0 cb0 fb0 lb0
  have hg2 := hb2
  have p0_ := hide ((show Box w1 _ _ from p0.out).grow hg2)
  clear p0
  have p0 := p0_
  clear p0_
  have b0_ := hide ((show Box w1 _ _ from b0.out).grow hg2)
  clear b0
  have b0 := b0_
  clear b0_
  have hlit2 := hlit2.grow hg2
  have HG2 := hide (Grow.trans (show Grow w w1 from HG1.out) hg2)
  clear HG1
  have hsz2 : w.heap.size ≤ w2.heap.size := HG2.out.size
  have hq2 : w1.heap.size ≤ w2.heap.size := hg2.size
  have HS2 := hide hg2
  clear hb2 hg2
  obtain ⟨cp0, fp0, lp0⟩ := (show Box w2 _ _ from p0.out).rules
  obtain ⟨cb0, fb0, lb0⟩ := (show Box w2 _ _ from b0.out).rules
  go_wp2_with fail
  refine (HF2.out _).mono ?_
  rintro r w3 ⟨rfl, hb3⟩
  clear cp0 fp0 lp0 cb0 fb0 lb0
  have hg3 := hb3
  have p0_ := hide ((show Box w2 _ _ from p0.out).grow hg3)
  clear p0
  have p0 := p0_
  clear p0_
  have b0_ := hide ((show Box w2 _ _ from b0.out).grow hg3)
  clear b0
  have b0 := b0_
  clear b0_
  have hlit2 := hlit2.grow hg3
  have HG3 := hide (Grow.trans (show Grow w w2 from HG2.out) hg3)
  clear HG2
  have hsz3 : w.heap.size ≤ w3.heap.size := HG3.out.size
  have hq3 : w2.heap.size ≤ w3.heap.size := hg3.size
  have HS3 := hide hg3
  clear hb3 hg3
  obtain ⟨cp0, fp0, lp0⟩ := (show Box w3 _ _ from p0.out).rules
  obtain ⟨cb0, fb0, lb0⟩ := (show Box w3 _ _ from b0.out).rules
  go_wp2_with fail
  refine (HG.out _).mono ?_
  rintro r w4 ⟨rfl, hb4⟩
  clear cp0 fp0 lp0 cb0 fb0 lb0
  have hg4 := hb4
  have p0_ := hide ((show Box w3 _ _ from p0.out).grow hg4)
  clear p0
  have p0 := p0_
  clear p0_
  have b0_ := hide ((show Box w3 _ _ from b0.out).grow hg4)
  clear b0
  have b0 := b0_
  clear b0_
  have hlit2 := hlit2.grow hg4
  have HG4 := hide (Grow.trans (show Grow w w3 from HG3.out) hg4)
  clear HG3
  have hsz4 : w.heap.size ≤ w4.heap.size := HG4.out.size
  have hq4 : w3.heap.size ≤ w4.heap.size := hg4.size
  have HS4 := hide hg4
  clear hb4 hg4
  obtain ⟨cp0, fp0, lp0⟩ := (show Box w4 _ _ from p0.out).rules
  obtain ⟨cb0, fb0, lb0⟩ := (show Box w4 _ _ from b0.out).rules
  go_wp2
  go_ret
  exact ⟨rfl, HG4.out⟩
set_option maxRecDepth 100000 in
set_option maxHeartbeats 2000000 in
theorem fateGood_any (f : Fate) (lo hi : Int) (w : World) : Calls Try.prog 14 #[fv f, .int .i64 lo, .int .i64 hi] w fun e w' => e = .returned (.bool true) ∧ Grow w w' := by
  have H1 := hide (fun W => fgood_any f W)
  have H2 := hide (fun W => reffgood_any f W)
  have H3 := hide (fun W => ffair_any f lo hi W)
  have H4 := hide (fun W => reffair_any f lo hi W)
  have H5 := hide (fun W => floss_any f lo hi W)
  have H6 := hide (fun W => refloss_any f lo hi W)
  have H7 := hide (fun W => fdefault_any hi W)
  have H8 := hide (fun W => reffdefault_any hi W)
  generalize fateB f = b1 at *
  generalize fairB f lo hi = b2 at *
  generalize lossB f lo hi = b3 at *
  generalize dfl hi = d at *
  go_enter Try.func14, Try.ntmps14
  go_wp2_with fail
  generalize hW1 : World.alloc w _ = w1
  have hb1 := Grow.of_eq hW1
  clear hW1
  obtain ⟨p0, hg1⟩ := peel1 hb1
  have p0_ := hide p0
  clear p0
  have p0 := p0_
  clear p0_
  have HG1 := hide (show Grow w w1 from hg1)
  have hsz1 : w.heap.size ≤ w1.heap.size := HG1.out.size
  have hq1 : w.heap.size ≤ w1.heap.size := hg1.size
  have HS1 := hide hg1
  clear hb1 hg1
  obtain ⟨cp0, fp0, lp0⟩ := (show Box w1 _ _ from p0.out).rules
  have Rp0 := fun (W : World) (h : Grow w1.drew W) => ((show Box w1 _ _ from p0.out).grow (Grow.of_drew h)).cell
  have Fp0 := fun (W : World) (h : Grow w1.drew W) => ((show Box w1 _ _ from p0.out).grow (Grow.of_drew h)).fz
  refine wpR_region (Grow) [] (by kernel_rfl) ?_
  refine wpR_take grow_rf grow_tr 0 rfl (by kernel_rfl) (fun _ _ _ h => h) rfl (v := ?_) ?_ ?_
  rotate_left
  · (intro w' hG; go_simp; try with_reducible rfl)
  try simp only [Act.put, List.setIfInBounds_toArray, List.set_cons_zero, List.set_cons_succ]
  refine wpR_take grow_rf grow_tr 2 rfl (by kernel_rfl) (fun _ _ _ h => h) rfl (v := ?_) ?_ ?_
  rotate_left
  · (intro w' hG; go_simp; try with_reducible rfl)
  try simp only [Act.put, List.setIfInBounds_toArray, List.set_cons_zero, List.set_cons_succ]
  refine wpR_call 1 rfl (by kernel_rfl) rfl fun K hK => ?_
  go_simp
  refine (H1.out _).mono ?_
  rintro r w2 ⟨rfl, hb2⟩
  refine hK.out _ _ (.inr (hb2)) ?_
  clear hK
  try simp only [Act.put, List.setIfInBounds_toArray, List.set_cons_zero, List.set_cons_succ]
  clear Rp0 Fp0
  have hb2 := Grow.of_drew hb2
  clear cp0 fp0 lp0
  have hg2 := hb2
  have p0_ := hide ((show Box w1 _ _ from p0.out).grow hg2)
  clear p0
  have p0 := p0_
  clear p0_
  have HG2 := hide (Grow.trans (show Grow w w1 from HG1.out) hg2)
  clear HG1
  have hsz2 : w.heap.size ≤ w2.heap.size := HG2.out.size
  have hq2 : w1.heap.size ≤ w2.heap.size := hg2.size
  have HS2 := hide hg2
  clear hb2 hg2
  obtain ⟨cp0, fp0, lp0⟩ := (show Box w2 _ _ from p0.out).rules
  have Rp0 := fun (W : World) (h : Grow w2 W) => ((show Box w2 _ _ from p0.out).grow h).cell
  have Fp0 := fun (W : World) (h : Grow w2 W) => ((show Box w2 _ _ from p0.out).grow h).fz
  refine wpR_call 3 rfl (by kernel_rfl) rfl fun K hK => ?_
  go_simp
  refine (H2.out _).mono ?_
  rintro r w3 ⟨rfl, hb3⟩
  refine hK.out _ _ (.inr (hb3)) ?_
  clear hK
  try simp only [Act.put, List.setIfInBounds_toArray, List.set_cons_zero, List.set_cons_succ]
  clear Rp0 Fp0
  clear cp0 fp0 lp0
  have hg3 := hb3
  have p0_ := hide ((show Box w2 _ _ from p0.out).grow hg3)
  clear p0
  have p0 := p0_
  clear p0_
  have HG3 := hide (Grow.trans (show Grow w w2 from HG2.out) hg3)
  clear HG2
  have hsz3 : w.heap.size ≤ w3.heap.size := HG3.out.size
  have hq3 : w2.heap.size ≤ w3.heap.size := hg3.size
  have HS3 := hide hg3
  clear hb3 hg3
  obtain ⟨cp0, fp0, lp0⟩ := (show Box w3 _ _ from p0.out).rules
  have Rp0 := fun (W : World) (h : Grow w3 W) => ((show Box w3 _ _ from p0.out).grow h).cell
  have Fp0 := fun (W : World) (h : Grow w3 W) => ((show Box w3 _ _ from p0.out).grow h).fz
  refine wpR_take grow_rf grow_tr 4 rfl (by kernel_rfl) (fun _ _ _ h => h) rfl (v := ?_) ?_ ?_
  rotate_left
  · (intro w' hG; go_simp; try with_reducible rfl)
  try simp only [Act.put, List.setIfInBounds_toArray, List.set_cons_zero, List.set_cons_succ]
  refine wpR_take grow_rf grow_tr 5 rfl (by kernel_rfl) (fun _ _ _ h => h) rfl (v := ?_) ?_ ?_
  rotate_left
  · (intro w' hG; go_simp; try with_reducible rfl)
  try simp only [Act.put, List.setIfInBounds_toArray, List.set_cons_zero, List.set_cons_succ]
  refine wpR_take grow_rf grow_tr 6 rfl (by kernel_rfl) (fun _ _ _ h => h) rfl (v := ?_) ?_ ?_
  rotate_left
  · (intro w' hG; go_simp; try with_reducible rfl)
  try simp only [Act.put, List.setIfInBounds_toArray, List.set_cons_zero, List.set_cons_succ]
  refine wpR_take grow_rf grow_tr 7 rfl (by kernel_rfl) (fun _ _ _ h => h) rfl (v := ?_) ?_ ?_
  rotate_left
  · (intro w' hG; go_simp; try with_reducible rfl)
  try simp only [Act.put, List.setIfInBounds_toArray, List.set_cons_zero, List.set_cons_succ]
  refine wpR_take grow_rf grow_tr 8 rfl (by kernel_rfl) (fun _ _ _ h => h) rfl (v := ?_) ?_ ?_
  rotate_left
  · (intro w' hG; go_simp; try with_reducible rfl)
  try simp only [Act.put, List.setIfInBounds_toArray, List.set_cons_zero, List.set_cons_succ]
  refine wpR_take grow_rf grow_tr 10 rfl (by kernel_rfl) (fun _ _ _ h => h) rfl (v := ?_) ?_ ?_
  rotate_left
  · (intro w' hG; go_simp; try with_reducible rfl)
  try simp only [Act.put, List.setIfInBounds_toArray, List.set_cons_zero, List.set_cons_succ]
  refine wpR_take grow_rf grow_tr 11 rfl (by kernel_rfl) (fun _ _ _ h => h) rfl (v := ?_) ?_ ?_
  rotate_left
  · (intro w' hG; go_simp; try with_reducible rfl)
  try simp only [Act.put, List.setIfInBounds_toArray, List.set_cons_zero, List.set_cons_succ]
  refine wpR_take grow_rf grow_tr 12 rfl (by kernel_rfl) (fun _ _ _ h => h) rfl (v := ?_) ?_ ?_
  rotate_left
  · (intro w' hG; go_simp; try with_reducible rfl)
  try simp only [Act.put, List.setIfInBounds_toArray, List.set_cons_zero, List.set_cons_succ]
  refine wpR_call 9 rfl (by kernel_rfl) rfl fun K hK => ?_
  go_simp
  refine (H3.out _).mono ?_
  rintro r w4 ⟨rfl, hb4⟩
  refine hK.out _ _ (.inr (hb4)) ?_
  clear hK
  try simp only [Act.put, List.setIfInBounds_toArray, List.set_cons_zero, List.set_cons_succ]
  clear Rp0 Fp0
  clear cp0 fp0 lp0
  have hg4 := hb4
  have p0_ := hide ((show Box w3 _ _ from p0.out).grow hg4)
  clear p0
  have p0 := p0_
  clear p0_
  have HG4 := hide (Grow.trans (show Grow w w3 from HG3.out) hg4)
  clear HG3
  have hsz4 : w.heap.size ≤ w4.heap.size := HG4.out.size
  have hq4 : w3.heap.size ≤ w4.heap.size := hg4.size
  have HS4 := hide hg4
  clear hb4 hg4
  obtain ⟨cp0, fp0, lp0⟩ := (show Box w4 _ _ from p0.out).rules
  have Rp0 := fun (W : World) (h : Grow w4 W) => ((show Box w4 _ _ from p0.out).grow h).cell
  have Fp0 := fun (W : World) (h : Grow w4 W) => ((show Box w4 _ _ from p0.out).grow h).fz
  refine wpR_call 13 rfl (by kernel_rfl) rfl fun K hK => ?_
  go_simp
  refine (H4.out _).mono ?_
  rintro r w5 ⟨rfl, hb5⟩
  refine hK.out _ _ (.inr (hb5)) ?_
  clear hK
  try simp only [Act.put, List.setIfInBounds_toArray, List.set_cons_zero, List.set_cons_succ]
  clear Rp0 Fp0
  clear cp0 fp0 lp0
  have hg5 := hb5
  have p0_ := hide ((show Box w4 _ _ from p0.out).grow hg5)
  clear p0
  have p0 := p0_
  clear p0_
  have HG5 := hide (Grow.trans (show Grow w w4 from HG4.out) hg5)
  clear HG4
  have hsz5 : w.heap.size ≤ w5.heap.size := HG5.out.size
  have hq5 : w4.heap.size ≤ w5.heap.size := hg5.size
  have HS5 := hide hg5
  clear hb5 hg5
  obtain ⟨cp0, fp0, lp0⟩ := (show Box w5 _ _ from p0.out).rules
  have Rp0 := fun (W : World) (h : Grow w5 W) => ((show Box w5 _ _ from p0.out).grow h).cell
  have Fp0 := fun (W : World) (h : Grow w5 W) => ((show Box w5 _ _ from p0.out).grow h).fz
  refine wpR_take grow_rf grow_tr 14 rfl (by kernel_rfl) (fun _ _ _ h => h) rfl (v := ?_) ?_ ?_
  rotate_left
  · (intro w' hG; go_simp; try with_reducible rfl)
  try simp only [Act.put, List.setIfInBounds_toArray, List.set_cons_zero, List.set_cons_succ]
  refine wpR_take grow_rf grow_tr 15 rfl (by kernel_rfl) (fun _ _ _ h => h) rfl (v := ?_) ?_ ?_
  rotate_left
  · (intro w' hG; go_simp; try with_reducible rfl)
  try simp only [Act.put, List.setIfInBounds_toArray, List.set_cons_zero, List.set_cons_succ]
  refine wpR_take grow_rf grow_tr 16 rfl (by kernel_rfl) (fun _ _ _ h => h) rfl (v := ?_) ?_ ?_
  rotate_left
  · (intro w' hG; go_simp; try with_reducible rfl)
  try simp only [Act.put, List.setIfInBounds_toArray, List.set_cons_zero, List.set_cons_succ]
  refine wpR_take grow_rf grow_tr 17 rfl (by kernel_rfl) (fun _ _ _ h => h) rfl (v := ?_) ?_ ?_
  rotate_left
  · (intro w' hG; go_simp; try with_reducible rfl)
  try simp only [Act.put, List.setIfInBounds_toArray, List.set_cons_zero, List.set_cons_succ]
  refine wpR_take grow_rf grow_tr 18 rfl (by kernel_rfl) (fun _ _ _ h => h) rfl (v := ?_) ?_ ?_
  rotate_left
  · (intro w' hG; go_simp; try with_reducible rfl)
  try simp only [Act.put, List.setIfInBounds_toArray, List.set_cons_zero, List.set_cons_succ]
  refine wpR_take grow_rf grow_tr 19 rfl (by kernel_rfl) (fun _ _ _ h => h) rfl (v := ?_) ?_ ?_
  rotate_left
  · (intro w' hG; go_simp; try with_reducible rfl)
  try simp only [Act.put, List.setIfInBounds_toArray, List.set_cons_zero, List.set_cons_succ]
  refine wpR_take grow_rf grow_tr 21 rfl (by kernel_rfl) (fun _ _ _ h => h) rfl (v := ?_) ?_ ?_
  rotate_left
  · (intro w' hG; go_simp; try with_reducible rfl)
  try simp only [Act.put, List.setIfInBounds_toArray, List.set_cons_zero, List.set_cons_succ]
  refine wpR_take grow_rf grow_tr 22 rfl (by kernel_rfl) (fun _ _ _ h => h) rfl (v := ?_) ?_ ?_
  rotate_left
  · (intro w' hG; go_simp; try with_reducible rfl)
  try simp only [Act.put, List.setIfInBounds_toArray, List.set_cons_zero, List.set_cons_succ]
  refine wpR_take grow_rf grow_tr 23 rfl (by kernel_rfl) (fun _ _ _ h => h) rfl (v := ?_) ?_ ?_
  rotate_left
  · (intro w' hG; go_simp; try with_reducible rfl)
  try simp only [Act.put, List.setIfInBounds_toArray, List.set_cons_zero, List.set_cons_succ]
  refine wpR_call 20 rfl (by kernel_rfl) rfl fun K hK => ?_
  go_simp
  refine (H5.out _).mono ?_
  rintro r w6 ⟨rfl, hb6⟩
  refine hK.out _ _ (.inr (hb6)) ?_
  clear hK
  try simp only [Act.put, List.setIfInBounds_toArray, List.set_cons_zero, List.set_cons_succ]
  clear Rp0 Fp0
  clear cp0 fp0 lp0
  have hg6 := hb6
  have p0_ := hide ((show Box w5 _ _ from p0.out).grow hg6)
  clear p0
  have p0 := p0_
  clear p0_
  have HG6 := hide (Grow.trans (show Grow w w5 from HG5.out) hg6)
  clear HG5
  have hsz6 : w.heap.size ≤ w6.heap.size := HG6.out.size
  have hq6 : w5.heap.size ≤ w6.heap.size := hg6.size
  have HS6 := hide hg6
  clear hb6 hg6
  obtain ⟨cp0, fp0, lp0⟩ := (show Box w6 _ _ from p0.out).rules
  have Rp0 := fun (W : World) (h : Grow w6 W) => ((show Box w6 _ _ from p0.out).grow h).cell
  have Fp0 := fun (W : World) (h : Grow w6 W) => ((show Box w6 _ _ from p0.out).grow h).fz
  refine wpR_call 24 rfl (by kernel_rfl) rfl fun K hK => ?_
  go_simp
  refine (H6.out _).mono ?_
  rintro r w7 ⟨rfl, hb7⟩
  refine hK.out _ _ (.inr (hb7)) ?_
  clear hK
  try simp only [Act.put, List.setIfInBounds_toArray, List.set_cons_zero, List.set_cons_succ]
  clear Rp0 Fp0
  clear cp0 fp0 lp0
  have hg7 := hb7
  have p0_ := hide ((show Box w6 _ _ from p0.out).grow hg7)
  clear p0
  have p0 := p0_
  clear p0_
  have HG7 := hide (Grow.trans (show Grow w w6 from HG6.out) hg7)
  clear HG6
  have hsz7 : w.heap.size ≤ w7.heap.size := HG7.out.size
  have hq7 : w6.heap.size ≤ w7.heap.size := hg7.size
  have HS7 := hide hg7
  clear hb7 hg7
  obtain ⟨cp0, fp0, lp0⟩ := (show Box w7 _ _ from p0.out).rules
  have Rp0 := fun (W : World) (h : Grow w7 W) => ((show Box w7 _ _ from p0.out).grow h).cell
  have Fp0 := fun (W : World) (h : Grow w7 W) => ((show Box w7 _ _ from p0.out).grow h).fz
  refine wpR_take grow_rf grow_tr 25 rfl (by kernel_rfl) (fun _ _ _ h => h) rfl (v := ?_) ?_ ?_
  rotate_left
  · (intro w' hG; go_simp; try with_reducible rfl)
  try simp only [Act.put, List.setIfInBounds_toArray, List.set_cons_zero, List.set_cons_succ]
  refine wpR_take grow_rf grow_tr 26 rfl (by kernel_rfl) (fun _ _ _ h => h) rfl (v := ?_) ?_ ?_
  rotate_left
  · (intro w' hG; go_simp; try with_reducible rfl)
  try simp only [Act.put, List.setIfInBounds_toArray, List.set_cons_zero, List.set_cons_succ]
  refine wpR_take grow_rf grow_tr 27 rfl (by kernel_rfl) (fun _ _ _ h => h) rfl (v := ?_) ?_ ?_
  rotate_left
  · (intro w' hG; go_simp; try with_reducible rfl)
  try simp only [Act.put, List.setIfInBounds_toArray, List.set_cons_zero, List.set_cons_succ]
  refine wpR_take grow_rf grow_tr 28 rfl (by kernel_rfl) (fun _ _ _ h => h) rfl (v := ?_) ?_ ?_
  rotate_left
  · (intro w' hG; go_simp; try with_reducible rfl)
  try simp only [Act.put, List.setIfInBounds_toArray, List.set_cons_zero, List.set_cons_succ]
  refine wpR_take grow_rf grow_tr 30 rfl (by kernel_rfl) (fun _ _ _ h => h) rfl (v := ?_) ?_ ?_
  rotate_left
  · (intro w' hG; go_simp; try with_reducible rfl)
  try simp only [Act.put, List.setIfInBounds_toArray, List.set_cons_zero, List.set_cons_succ]
  refine wpR_call 29 rfl (by kernel_rfl) rfl fun K hK => ?_
  go_simp
  refine (H7.out _).mono ?_
  rintro r w8 ⟨rfl, hb8⟩
  refine hK.out _ _ (.inr (hb8)) ?_
  clear hK
  try simp only [Act.put, List.setIfInBounds_toArray, List.set_cons_zero, List.set_cons_succ]
  clear Rp0 Fp0
  clear cp0 fp0 lp0
  have hg8 := hb8
  have p0_ := hide ((show Box w7 _ _ from p0.out).grow hg8)
  clear p0
  have p0 := p0_
  clear p0_
  have HG8 := hide (Grow.trans (show Grow w w7 from HG7.out) hg8)
  clear HG7
  have hsz8 : w.heap.size ≤ w8.heap.size := HG8.out.size
  have hq8 : w7.heap.size ≤ w8.heap.size := hg8.size
  have HS8 := hide hg8
  clear hb8 hg8
  obtain ⟨cp0, fp0, lp0⟩ := (show Box w8 _ _ from p0.out).rules
  have Rp0 := fun (W : World) (h : Grow w8 W) => ((show Box w8 _ _ from p0.out).grow h).cell
  have Fp0 := fun (W : World) (h : Grow w8 W) => ((show Box w8 _ _ from p0.out).grow h).fz
  refine wpR_call 31 rfl (by kernel_rfl) rfl fun K hK => ?_
  go_simp
  refine (H8.out _).mono ?_
  rintro r w9 ⟨rfl, hb9⟩
  refine hK.out _ _ (.inr (hb9)) ?_
  clear hK
  try simp only [Act.put, List.setIfInBounds_toArray, List.set_cons_zero, List.set_cons_succ]
  clear Rp0 Fp0
  clear cp0 fp0 lp0
  have hg9 := hb9
  have p0_ := hide ((show Box w8 _ _ from p0.out).grow hg9)
  clear p0
  have p0 := p0_
  clear p0_
  have HG9 := hide (Grow.trans (show Grow w w8 from HG8.out) hg9)
  clear HG8
  have hsz9 : w.heap.size ≤ w9.heap.size := HG9.out.size
  have hq9 : w8.heap.size ≤ w9.heap.size := hg9.size
  have HS9 := hide hg9
  clear hb9 hg9
  obtain ⟨cp0, fp0, lp0⟩ := (show Box w9 _ _ from p0.out).rules
  have Rp0 := fun (W : World) (h : Grow w9 W) => ((show Box w9 _ _ from p0.out).grow h).cell
  have Fp0 := fun (W : World) (h : Grow w9 W) => ((show Box w9 _ _ from p0.out).grow h).fz
  refine wpR_take grow_rf grow_tr 32 rfl (by kernel_rfl) (fun _ _ _ h => h) rfl (v := ?_) ?_ ?_
  rotate_left
  · (intro w' hG; go_simp; try with_reducible rfl)
  try simp only [Act.put, List.setIfInBounds_toArray, List.set_cons_zero, List.set_cons_succ]
  refine wpR_take grow_rf grow_tr 33 rfl (by kernel_rfl) (fun _ _ _ h => h) rfl (v := ?_) ?_ ?_
  rotate_left
  · (intro w' hG; go_simp; try with_reducible rfl)
  try simp only [Act.put, List.setIfInBounds_toArray, List.set_cons_zero, List.set_cons_succ]
  refine wpR_take grow_rf grow_tr 34 rfl (by kernel_rfl) (fun _ _ _ h => h) rfl (v := ?_) ?_ ?_
  rotate_left
  · (intro w' hG; go_simp; try with_reducible rfl)
  try simp only [Act.put, List.setIfInBounds_toArray, List.set_cons_zero, List.set_cons_succ]
  refine wpR_call 35 rfl (by kernel_rfl) rfl fun K hK => ?_
  go_simp
  refine (works45_any _).mono ?_
  rintro r w10 ⟨rfl, hb10⟩
  refine hK.out _ _ (.inr (hb10)) ?_
  clear hK
  try simp only [Act.put, List.setIfInBounds_toArray, List.set_cons_zero, List.set_cons_succ]
  clear Rp0 Fp0
  clear cp0 fp0 lp0
  have hg10 := hb10
  have p0_ := hide ((show Box w9 _ _ from p0.out).grow hg10)
  clear p0
  have p0 := p0_
  clear p0_
  have HG10 := hide (Grow.trans (show Grow w w9 from HG9.out) hg10)
  clear HG9
  have hsz10 : w.heap.size ≤ w10.heap.size := HG10.out.size
  have hq10 : w9.heap.size ≤ w10.heap.size := hg10.size
  have HS10 := hide hg10
  clear hb10 hg10
  obtain ⟨cp0, fp0, lp0⟩ := (show Box w10 _ _ from p0.out).rules
  have Rp0 := fun (W : World) (h : Grow w10 W) => ((show Box w10 _ _ from p0.out).grow h).cell
  have Fp0 := fun (W : World) (h : Grow w10 W) => ((show Box w10 _ _ from p0.out).grow h).fz
  refine wpR_take grow_rf grow_tr 36 rfl (by kernel_rfl) (fun _ _ _ h => h) rfl (v := ?_) ?_ ?_
  rotate_left
  · (intro w' hG; go_simp; try with_reducible rfl)
  try simp only [Act.put, List.setIfInBounds_toArray, List.set_cons_zero, List.set_cons_succ]
  refine wpR_take grow_rf grow_tr 37 rfl (by kernel_rfl) (fun _ _ _ h => h) rfl (v := ?_) ?_ ?_
  rotate_left
  · (intro w' hG; go_simp; try with_reducible rfl)
  try simp only [Act.put, List.setIfInBounds_toArray, List.set_cons_zero, List.set_cons_succ]
  refine wpR_done (by kernel_rfl) ?_ _
  clear Rp0 Fp0
  go_wp2
  go_ret
  exact ⟨rfl, HG10.out⟩
end Go.Proofs.Ytcghgahohmabnaa
