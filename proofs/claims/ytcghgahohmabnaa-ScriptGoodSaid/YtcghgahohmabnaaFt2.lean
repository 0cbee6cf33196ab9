/- Whether a fate is fair, is a loss; the fate that stands where nothing is said. -/
import Derived.Test.YtcghgahohmabnaaFt
namespace Go.Proofs.Ytcghgahohmabnaa
open Go.RowKit
set_option maxHeartbeats 400000 in
theorem fwithin_any (d lo hi : Int) (b1 b2 : Nat) (w : World) (h1 : w.cell? ⟨b1, 0, none⟩ = some (.int .i64 lo)) (h2 : w.cell? ⟨b2, 0, none⟩ = some (.int .i64 hi)) :
    Calls Try.prog 102 #[.int .i64 d, .pointer (some ⟨b1, 0, none⟩), .pointer (some ⟨b2, 0, none⟩)] w fun e w' => e = .returned (.bool (withinB d lo hi)) ∧ w = w' := by
  go_enter Try.func102, Try.ntmps102
  go_wp2
  all_goals
    go_ret
    exact ⟨fret_bool (by simp_all [withinB] <;> omega), rfl⟩
set_option maxRecDepth 100000 in
set_option maxHeartbeats 2000000 in
theorem ffair_any (f : Fate) (lo hi : Int) (w : World) : Calls Try.prog 49 #[fv f, .int .i64 lo, .int .i64 hi] w fun e w' => e = .returned (.bool (fairB f lo hi)) ∧ Grow w w' := by
  have HG := hide (fun W => fgood_any f W)
  have HQ := hide (show fairB f lo hi = (fateB f && (if f.kind = 0 then withinB f.delay lo hi else f.kind == 2 && withinB f.delay lo hi && withinB f.again lo hi)) from rfl)
  have hr : Hid (fateB f = true → (f.kind = 0 ∨ f.kind = 1 ∨ f.kind = 2 ∨ f.kind = 3)) := hide (fateB_range f)
  generalize fairB f lo hi = Q at *
  generalize hg : fateB f = g at *
  clear hg
  cases g
  · go_enter Try.func49, Try.ntmps49
    go_wp2_with fail
    refine (HG.out _).mono ?_
    rintro r w1 ⟨rfl, hb1⟩
    obtain ⟨p0, p1, p2, hg1⟩ := peel3 hb1
    have p0_ := hide p0
    clear p0
    have p0 := p0_
    clear p0_
    have p1_ := hide p1
    clear p1
    have p1 := p1_
    clear p1_
    have p2_ := hide p2
    clear p2
    have p2 := p2_
    clear p2_
    have HG1 := hide (show Grow w w1 from hg1)
    have hsz1 : w.heap.size ≤ w1.heap.size := HG1.out.size
    have hq1 : w.heap.size ≤ w1.heap.size := hg1.size
    have HS1 := hide hg1
    clear hb1 hg1
    obtain ⟨cp0, fp0, lp0⟩ := (show Box w1 _ _ from p0.out).rules
    obtain ⟨cp1, fp1, lp1⟩ := (show Box w1 _ _ from p1.out).rules
    obtain ⟨cp2, fp2, lp2⟩ := (show Box w1 _ _ from p2.out).rules
    go_wp2_with (go_at_call 102; refine (fwithin_any _ lo hi _ _ _ (by rw [cp1]; rfl) (by rw [cp2]; rfl)).mono ?_; rintro e w' ⟨rfl, rfl⟩)
    all_goals
      go_ret
      exact ⟨fret_bool (by rw [HQ.out]; rw [Bool.eq_iff_iff]; have hr := hr.out; first | (simp_all; done) | (simp_all [withinB]; done) | (simp_all [withinB]; omega) | (simp_all; intros; omega) | (simp_all <;> omega)), HG1.out⟩
  · go_enter Try.func49, Try.ntmps49
    go_wp2_with fail
    refine (HG.out _).mono ?_
    rintro r w1 ⟨rfl, hb1⟩
    obtain ⟨p0, p1, p2, hg1⟩ := peel3 hb1
    have p0_ := hide p0
    clear p0
    have p0 := p0_
    clear p0_
    have p1_ := hide p1
    clear p1
    have p1 := p1_
    clear p1_
    have p2_ := hide p2
    clear p2
    have p2 := p2_
    clear p2_
    have HG1 := hide (show Grow w w1 from hg1)
    have hsz1 : w.heap.size ≤ w1.heap.size := HG1.out.size
    have hq1 : w.heap.size ≤ w1.heap.size := hg1.size
    have HS1 := hide hg1
    clear hb1 hg1
    obtain ⟨cp0, fp0, lp0⟩ := (show Box w1 _ _ from p0.out).rules
    obtain ⟨cp1, fp1, lp1⟩ := (show Box w1 _ _ from p1.out).rules
    obtain ⟨cp2, fp2, lp2⟩ := (show Box w1 _ _ from p2.out).rules
    go_wp2_with (go_at_call 102; refine (fwithin_any _ lo hi _ _ _ (by rw [cp1]; rfl) (by rw [cp2]; rfl)).mono ?_; rintro e w' ⟨rfl, rfl⟩)
    all_goals
      go_ret
      exact ⟨fret_bool (by rw [HQ.out]; rw [Bool.eq_iff_iff]; have hr := hr.out; first | (simp_all; done) | (simp_all [withinB]; done) | (simp_all [withinB]; omega) | (simp_all; intros; omega) | (simp_all <;> omega)), HG1.out⟩
set_option maxRecDepth 100000 in
set_option maxHeartbeats 2000000 in
theorem reffair_any (f : Fate) (lo hi : Int) (w : World) : Calls Try.prog 50 #[fv f, .int .i64 lo, .int .i64 hi] w fun e w' => e = .returned (.bool (fairB f lo hi)) ∧ Grow w w' := by
  have HG := hide (fun W => reffgood_any f W)
  have HQ := hide (show fairB f lo hi = (fateB f && (if f.kind = 0 then withinB f.delay lo hi else f.kind == 2 && withinB f.delay lo hi && withinB f.again lo hi)) from rfl)
  have hr : Hid (fateB f = true → (f.kind = 0 ∨ f.kind = 1 ∨ f.kind = 2 ∨ f.kind = 3)) := hide (fateB_range f)
  generalize fairB f lo hi = Q at *
  generalize hg : fateB f = g at *
  clear hg
  cases g
  · go_enter Try.func50, Try.ntmps50
    go_wp2_with fail
    refine (HG.out _).mono ?_
    rintro r w1 ⟨rfl, hb1⟩
    obtain ⟨p0, hg1⟩ := peel1 hb1
    have p0_ := hide p0
    clear p0
    have p0 := p0_
    clear p0_
    have HG1 := hide (show Grow w w1 from hg1)
    have hsz1 : w.heap.size ≤ w1.heap.size := HG1.out.size
    have hq1 : w.heap.size ≤ w1.heap.size := hg1.size
    have HS1 := hide hg1
    clear hb1 hg1
    obtain ⟨cp0, fp0, lp0⟩ := (show Box w1 _ _ from p0.out).rules
    go_wp2_with (go_at_call 103; refine (refwithin_any _ _ _ _).mono ?_; rintro e w' ⟨rfl, rfl⟩)
    all_goals
      go_ret
      exact ⟨fret_bool (by rw [HQ.out]; rw [Bool.eq_iff_iff]; have hr := hr.out; first | (simp_all; done) | (simp_all [withinB]; done) | (simp_all [withinB]; omega) | (simp_all; intros; omega) | (simp_all <;> omega)), HG1.out⟩
  · go_enter Try.func50, Try.ntmps50
    go_wp2_with fail
    refine (HG.out _).mono ?_
    rintro r w1 ⟨rfl, hb1⟩
    obtain ⟨p0, hg1⟩ := peel1 hb1
    have p0_ := hide p0
    clear p0
    have p0 := p0_
    clear p0_
    have HG1 := hide (show Grow w w1 from hg1)
    have hsz1 : w.heap.size ≤ w1.heap.size := HG1.out.size
    have hq1 : w.heap.size ≤ w1.heap.size := hg1.size
    have HS1 := hide hg1
    clear hb1 hg1
    obtain ⟨cp0, fp0, lp0⟩ := (show Box w1 _ _ from p0.out).rules
    go_wp2_with (go_at_call 103; refine (refwithin_any _ _ _ _).mono ?_; rintro e w' ⟨rfl, rfl⟩)
    all_goals
      go_ret
      exact ⟨fret_bool (by rw [HQ.out]; rw [Bool.eq_iff_iff]; have hr := hr.out; first | (simp_all; done) | (simp_all [withinB]; done) | (simp_all [withinB]; omega) | (simp_all; intros; omega) | (simp_all <;> omega)), HG1.out⟩
set_option maxRecDepth 100000 in
set_option maxHeartbeats 2000000 in
theorem floss_any (f : Fate) (lo hi : Int) (w : World) : Calls Try.prog 53 #[fv f, .int .i64 lo, .int .i64 hi] w fun e w' => e = .returned (.bool (lossB f lo hi)) ∧ Grow w w' := by
  have HG := hide (fun W => fgood_any f W)
  have HQ := hide (show lossB f lo hi = (fateB f && (f.kind == 1 || f.kind == 3 && withinB f.delay lo hi)) from rfl)
  have hr : Hid (fateB f = true → (f.kind = 0 ∨ f.kind = 1 ∨ f.kind = 2 ∨ f.kind = 3)) := hide (fateB_range f)
  generalize lossB f lo hi = Q at *
  generalize hg : fateB f = g at *
  clear hg
  cases g
  · go_enter Try.func53, Try.ntmps53
    go_wp2_with fail
    refine (HG.out _).mono ?_
    rintro r w1 ⟨rfl, hb1⟩
    obtain ⟨p0, hg1⟩ := peel1 hb1
    have p0_ := hide p0
    clear p0
    have p0 := p0_
    clear p0_
    have HG1 := hide (show Grow w w1 from hg1)
    have hsz1 : w.heap.size ≤ w1.heap.size := HG1.out.size
    have hq1 : w.heap.size ≤ w1.heap.size := hg1.size
    have HS1 := hide hg1
    clear hb1 hg1
    obtain ⟨cp0, fp0, lp0⟩ := (show Box w1 _ _ from p0.out).rules
    go_wp2_with (fail)
    all_goals
      go_ret
      exact ⟨fret_bool (by rw [HQ.out]; rw [Bool.eq_iff_iff]; have hr := hr.out; first | (simp_all; done) | (simp_all [withinB]; done) | (simp_all [withinB]; omega) | (simp_all; intros; omega) | (simp_all <;> omega)), HG1.out⟩
  · go_enter Try.func53, Try.ntmps53
    go_wp2_with fail
    refine (HG.out _).mono ?_
    rintro r w1 ⟨rfl, hb1⟩
    obtain ⟨p0, hg1⟩ := peel1 hb1
    have p0_ := hide p0
    clear p0
    have p0 := p0_
    clear p0_
    have HG1 := hide (show Grow w w1 from hg1)
    have hsz1 : w.heap.size ≤ w1.heap.size := HG1.out.size
    have hq1 : w.heap.size ≤ w1.heap.size := hg1.size
    have HS1 := hide hg1
    clear hb1 hg1
    obtain ⟨cp0, fp0, lp0⟩ := (show Box w1 _ _ from p0.out).rules
    go_wp2_with (fail)
    all_goals
      go_ret
      exact ⟨fret_bool (by rw [HQ.out]; rw [Bool.eq_iff_iff]; have hr := hr.out; first | (simp_all; done) | (simp_all [withinB]; done) | (simp_all [withinB]; omega) | (simp_all; intros; omega) | (simp_all <;> omega)), HG1.out⟩
set_option maxRecDepth 100000 in
set_option maxHeartbeats 2000000 in
theorem refloss_any (f : Fate) (lo hi : Int) (w : World) : Calls Try.prog 54 #[fv f, .int .i64 lo, .int .i64 hi] w fun e w' => e = .returned (.bool (lossB f lo hi)) ∧ Grow w w' := by
  have HG := hide (fun W => reffgood_any f W)
  have HQ := hide (show lossB f lo hi = (fateB f && (f.kind == 1 || f.kind == 3 && withinB f.delay lo hi)) from rfl)
  have hr : Hid (fateB f = true → (f.kind = 0 ∨ f.kind = 1 ∨ f.kind = 2 ∨ f.kind = 3)) := hide (fateB_range f)
  generalize lossB f lo hi = Q at *
  generalize hg : fateB f = g at *
  clear hg
  cases g
  · go_enter Try.func54, Try.ntmps54
    go_wp2_with fail
    refine (HG.out _).mono ?_
    rintro r w1 ⟨rfl, hb1⟩
    obtain ⟨p0, hg1⟩ := peel1 hb1
    have p0_ := hide p0
    clear p0
    have p0 := p0_
    clear p0_
    have HG1 := hide (show Grow w w1 from hg1)
    have hsz1 : w.heap.size ≤ w1.heap.size := HG1.out.size
    have hq1 : w.heap.size ≤ w1.heap.size := hg1.size
    have HS1 := hide hg1
    clear hb1 hg1
    obtain ⟨cp0, fp0, lp0⟩ := (show Box w1 _ _ from p0.out).rules
    go_wp2_with (go_at_call 103; refine (refwithin_any _ _ _ _).mono ?_; rintro e w' ⟨rfl, rfl⟩)
    all_goals
      go_ret
      exact ⟨fret_bool (by rw [HQ.out]; rw [Bool.eq_iff_iff]; have hr := hr.out; first | (simp_all; done) | (simp_all [withinB]; done) | (simp_all [withinB]; omega) | (simp_all; intros; omega) | (simp_all <;> omega)), HG1.out⟩
  · go_enter Try.func54, Try.ntmps54
    go_wp2_with fail
    refine (HG.out _).mono ?_
    rintro r w1 ⟨rfl, hb1⟩
    obtain ⟨p0, hg1⟩ := peel1 hb1
    have p0_ := hide p0
    clear p0
    have p0 := p0_
    clear p0_
    have HG1 := hide (show Grow w w1 from hg1)
    have hsz1 : w.heap.size ≤ w1.heap.size := HG1.out.size
    have hq1 : w.heap.size ≤ w1.heap.size := hg1.size
    have HS1 := hide hg1
    clear hb1 hg1
    obtain ⟨cp0, fp0, lp0⟩ := (show Box w1 _ _ from p0.out).rules
    go_wp2_with (go_at_call 103; refine (refwithin_any _ _ _ _).mono ?_; rintro e w' ⟨rfl, rfl⟩)
    all_goals
      go_ret
      exact ⟨fret_bool (by rw [HQ.out]; rw [Bool.eq_iff_iff]; have hr := hr.out; first | (simp_all; done) | (simp_all [withinB]; done) | (simp_all [withinB]; omega) | (simp_all; intros; omega) | (simp_all <;> omega)), HG1.out⟩
end Go.Proofs.Ytcghgahohmabnaa
