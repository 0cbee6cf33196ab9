/- The walk of the document of fate.Get. -/
import Derived.Test.YtcghgahohmabnaaFtR
import Derived.Test.YtcghgahohmabnaaR05
namespace Go.Proofs.Ytcghgahohmabnaa
open Go.RowKit
theorem Kept.fdrew2 {B : Nat} {S : List Nat} {a b : World} (h : Kept B S a b) : Kept B S a.drew b.drew := ⟨h.os, h.tape, h.output, h.size, h.block⟩
set_option maxRecDepth 100000 in
set_option maxHeartbeats 2000000 in
theorem reffget_0 (B : Option Addr) (b : List UInt8) (cb : Nat) (w : World) (hb : Bytes w B b) (hc : b.length ≤ cb) (hcm : cb ≤ 9223372036854775807) (h2 : 2 ≤ b.length) (h : (b.getD 0 0).toNat = 0) :
    Calls Try.prog 59 #[.slice B b.length cb] w fun r w' => GotF3 B b r (fg b).1 (fg b).2.1 (fg b).2.2 ∧ Grow w w' := by
  have HP := hide (fgc_0 h2 h)
  have HG := hide (fun W => reffgood_any (F0 (b.getD 1 0).toNat) W)
  generalize fateB _ = g at *
  generalize fg b = Q at *
  have h9 : b.length ≠ 0 := by omega
  have h0 : (b.length == 0) = false := by simpa using h9
  clear h9
  have h0' : 0 < b.length := by omega
  have hl : ¬ ((b.length : Int) < 2) := by omega
  obtain ⟨bb, oo, hA, hcell0⟩ := hb.get 0 (by omega)
  subst hA
  rw [Nat.add_zero] at hcell0
  have hbb : bb < w.heap.size := World.block_lt_of_cell? w _ hcell0
  obtain ⟨bb1, oo1, hA1, hcell1⟩ := hb.get 1 (by omega)
  obtain ⟨rfl, rfl⟩ : bb = bb1 ∧ oo = oo1 := by simpa using hA1
  clear hA1
  have hbb1 : bb < w.heap.size + 1 := by omega
  have hbb2 : bb < w.heap.size + 1 + 1 := by omega
  have hn0 : ¬ bb = w.heap.size := by omega
  have hn1 : ¬ bb = w.heap.size + 1 := by omega
  have C0 := fun o => Grow.cell' ((Grow.refl w).alloc o) hcell0
  rw [h] at hcell0 C0
  clear h
  have alt1 : (b.getD 1 0).toNat < 256 := u8_lt _
  generalize (b.getD 1 0).toNat = a1 at *
  have hi1 : (1 : Int) < (b.length : Int) := by omega
  obtain ⟨A2, c2, hsl, hc2, hcm2, hsb⟩ := slice_from (some ⟨bb, oo, none⟩) b cb 2 2 rfl (by omega) hc
  have HSL := hide (And.intro hc2 (And.intro hcm2 hsb))
  clear hsb hc2 hcm2
  have hwn : IntKind.i64.wrap 2 = 2 := by decide
  go_enter Try.func59, Try.ntmps59
  go_wp2_with fail
  refine (HG.out _).mono ?_
  rintro r w1 ⟨rfl, hb1⟩
  obtain ⟨p0, q0, n0, hg1⟩ := peel3 hb1
  have p0_ := hide p0
  clear p0
  have p0 := p0_
  clear p0_
  have q0_ := hide q0
  clear q0
  have q0 := q0_
  clear q0_
  have n0_ := hide n0
  clear n0
  have n0 := n0_
  clear n0_
  have HG1 := hide (show Grow w w1 from hg1)
  have hsz1 : w.heap.size ≤ w1.heap.size := HG1.out.size
  have hq1 : w.heap.size ≤ w1.heap.size := hg1.size
  have HS1 := hide hg1
  clear hb1 hg1
  obtain ⟨cp0, fp0, lp0⟩ := (show Box w1 _ _ from p0.out).rules
  obtain ⟨cq0, fq0, lq0⟩ := (show Box w1 _ _ from q0.out).rules
  obtain ⟨cn0, fn0, ln0⟩ := (show Box w1 _ _ from n0.out).rules
  cases g with
  | false =>
    have HP := hide (HP.out.trans (if_pos rfl))
    go_wp2
    refine bodyPost_ret (v := .tuple #[fv noF, .slice none 0 0, .int .i64 2]) (by simp [results, Try.results59, go_sem, cp0]) rfl ?_
    rw [HP.out]
    refine ⟨⟨none, 0, rfl, fun h => by simp at h⟩, ?_⟩
    show Below w.heap.size w _
    repeat (first | (with_reducible refine Below.setCell ?_ (by simp; try omega) _) | (with_reducible refine Below.alloc ?_ (by simp; try omega) _))
    exact HG1.out
  | true =>
    have HP := hide (HP.out.trans (if_neg (by decide)))
    go_wp2_with fail
    have hrf : ∀ a, Kept w1.heap.size [w.heap.size] a a := fun a => Kept.refl _ _ a
    have htr : ∀ a b c, Kept w1.heap.size [w.heap.size] a b → Kept w1.heap.size [w.heap.size] b c → Kept w1.heap.size [w.heap.size] a c := fun _ _ _ h k => h.trans k
    have Rq0 := fun (W : World) (h : Kept w1.heap.size [w.heap.size] w1.drew W) => ((show Box w1 _ _ from q0.out).drew.kept h (by simp; try omega)).cell
    have Fq0 := fun (W : World) (h : Kept w1.heap.size [w.heap.size] w1.drew W) => ((show Box w1 _ _ from q0.out).drew.kept h (by simp; try omega)).fz
    refine wpR_region (Kept w1.heap.size [w.heap.size]) [] (by kernel_rfl) ?_
    refine wpR_take hrf htr 0 rfl (by kernel_rfl) (fun _ _ _ h => h) rfl (v := ?_) ?_ ?_
    rotate_left
    · (intro w' hG; go_simp; try with_reducible rfl)
    try simp only [Act.put, List.setIfInBounds_toArray, List.set_cons_zero, List.set_cons_succ]
    refine wpR_take hrf htr 1 rfl (by kernel_rfl) (fun _ _ _ h => h) rfl (v := ?_) ?_ ?_
    rotate_left
    · (intro w' hG; go_simp; try with_reducible rfl)
    try simp only [Act.put, List.setIfInBounds_toArray, List.set_cons_zero, List.set_cons_succ]
    refine wpR_take hrf htr 2 rfl (by kernel_rfl) (fun _ _ _ h => h) rfl (v := ?_) ?_ ?_
    rotate_left
    · (intro w' hG; go_simp; try with_reducible rfl)
    try simp only [Act.put, List.setIfInBounds_toArray, List.set_cons_zero, List.set_cons_succ]
    refine wpR_take hrf htr 3 rfl (by kernel_rfl) (fun _ _ _ h => h) rfl (v := ?_) ?_ ?_
    rotate_left
    · (intro w' hG; go_simp; try with_reducible rfl)
    try simp only [Act.put, List.setIfInBounds_toArray, List.set_cons_zero, List.set_cons_succ]
    refine wpR_take hrf htr 4 rfl (by kernel_rfl) (fun _ _ _ h => h) rfl (v := ?_) ?_ ?_
    rotate_left
    · (intro w' hG; go_simp; try with_reducible rfl)
    try simp only [Act.put, List.setIfInBounds_toArray, List.set_cons_zero, List.set_cons_succ]
    refine wpR_call 5 rfl (by kernel_rfl) rfl fun K hK => ?_
    go_simp
    skip
    refine hK.out _ _ (.inr (by refine Kept.fdrew2 ?_; (repeat (with_reducible refine Kept.setCell ?_ (.inr (by simp)) _)); exact Kept.refl _ _ _)) ?_
    clear hK
    try simp only [Act.put, List.setIfInBounds_toArray, List.set_cons_zero, List.set_cons_succ]
    refine wpR_take hrf htr 6 rfl (by kernel_rfl) (fun _ _ _ h => h) rfl (v := ?_) ?_ ?_
    rotate_left
    · (intro w' hG; go_simp; try with_reducible rfl)
    try simp only [Act.put, List.setIfInBounds_toArray, List.set_cons_zero, List.set_cons_succ]
    refine wpR_take hrf htr 7 rfl (by kernel_rfl) (fun _ _ _ h => h) rfl (v := ?_) ?_ ?_
    rotate_left
    · (intro w' hG; go_simp; try with_reducible rfl)
    try simp only [Act.put, List.setIfInBounds_toArray, List.set_cons_zero, List.set_cons_succ]
    refine wpR_done (by kernel_rfl) ?_ _
    clear Rq0 Fq0
    go_wp2
    refine bodyPost_ret (v := .tuple #[fv (F0 a1), .slice A2 (b.length - 2) c2, .int .i64 0]) (by simp [results, Try.results59, go_sem, cp0]) rfl ?_
    rw [HP.out]
    refine ⟨⟨A2, c2, by rw [List.length_drop], fun _ => ⟨HSL.out.1, Nat.le_trans HSL.out.2.1 hcm, HSL.out.2.2⟩⟩, ?_⟩
    refine Grow.drew (show Grow w _ from ?_)
    show Below w.heap.size w _
    repeat (first | (with_reducible refine Below.setCell ?_ (by simp; try omega) _) | (with_reducible refine Below.alloc ?_ (by simp; try omega) _))
    exact HG1.out
set_option maxRecDepth 100000 in
set_option maxHeartbeats 2000000 in
theorem reffget_2 (B : Option Addr) (b : List UInt8) (cb : Nat) (w : World) (hb : Bytes w B b) (hc : b.length ≤ cb) (hcm : cb ≤ 9223372036854775807) (h3 : 3 ≤ b.length) (h : (b.getD 0 0).toNat = 2) :
    Calls Try.prog 59 #[.slice B b.length cb] w fun r w' => GotF3 B b r (fg b).1 (fg b).2.1 (fg b).2.2 ∧ Grow w w' := by
  have HP := hide (fgc_2 h3 h)
  have HG := hide (fun W => reffgood_any (F2 (b.getD 1 0).toNat (b.getD 2 0).toNat) W)
  generalize fateB _ = g at *
  generalize fg b = Q at *
  have h9 : b.length ≠ 0 := by omega
  have h0 : (b.length == 0) = false := by simpa using h9
  clear h9
  have h0' : 0 < b.length := by omega
  have hl : ¬ ((b.length : Int) < 3) := by omega
  obtain ⟨bb, oo, hA, hcell0⟩ := hb.get 0 (by omega)
  subst hA
  rw [Nat.add_zero] at hcell0
  have hbb : bb < w.heap.size := World.block_lt_of_cell? w _ hcell0
  obtain ⟨bb1, oo1, hA1, hcell1⟩ := hb.get 1 (by omega)
  obtain ⟨rfl, rfl⟩ : bb = bb1 ∧ oo = oo1 := by simpa using hA1
  clear hA1
  obtain ⟨bb2, oo2, hA2, hcell2⟩ := hb.get 2 (by omega)
  obtain ⟨rfl, rfl⟩ : bb = bb2 ∧ oo = oo2 := by simpa using hA2
  clear hA2
  have hbb1 : bb < w.heap.size + 1 := by omega
  have hbb2 : bb < w.heap.size + 1 + 1 := by omega
  have hn0 : ¬ bb = w.heap.size := by omega
  have hn1 : ¬ bb = w.heap.size + 1 := by omega
  have C0 := fun o => Grow.cell' ((Grow.refl w).alloc o) hcell0
  rw [h] at hcell0 C0
  clear h
  have alt1 : (b.getD 1 0).toNat < 256 := u8_lt _
  generalize (b.getD 1 0).toNat = a1 at *
  have hi1 : (1 : Int) < (b.length : Int) := by omega
  have alt2 : (b.getD 2 0).toNat < 256 := u8_lt _
  generalize (b.getD 2 0).toNat = a2 at *
  have hi2 : (2 : Int) < (b.length : Int) := by omega
  obtain ⟨A2, c2, hsl, hc2, hcm2, hsb⟩ := slice_from (some ⟨bb, oo, none⟩) b cb 3 3 rfl (by omega) hc
  have HSL := hide (And.intro hc2 (And.intro hcm2 hsb))
  clear hsb hc2 hcm2
  have hwn : IntKind.i64.wrap 3 = 3 := by decide
  go_enter Try.func59, Try.ntmps59
  go_wp2_with fail
  refine (HG.out _).mono ?_
  rintro r w1 ⟨rfl, hb1⟩
  obtain ⟨p0, q0, n0, hg1⟩ := peel3 hb1
  have p0_ := hide p0
  clear p0
  have p0 := p0_
  clear p0_
  have q0_ := hide q0
  clear q0
  have q0 := q0_
  clear q0_
  have n0_ := hide n0
  clear n0
  have n0 := n0_
  clear n0_
  have HG1 := hide (show Grow w w1 from hg1)
  have hsz1 : w.heap.size ≤ w1.heap.size := HG1.out.size
  have hq1 : w.heap.size ≤ w1.heap.size := hg1.size
  have HS1 := hide hg1
  clear hb1 hg1
  obtain ⟨cp0, fp0, lp0⟩ := (show Box w1 _ _ from p0.out).rules
  obtain ⟨cq0, fq0, lq0⟩ := (show Box w1 _ _ from q0.out).rules
  obtain ⟨cn0, fn0, ln0⟩ := (show Box w1 _ _ from n0.out).rules
  cases g with
  | false =>
    have HP := hide (HP.out.trans (if_pos rfl))
    go_wp2
    refine bodyPost_ret (v := .tuple #[fv noF, .slice none 0 0, .int .i64 2]) (by simp [results, Try.results59, go_sem, cp0]) rfl ?_
    rw [HP.out]
    refine ⟨⟨none, 0, rfl, fun h => by simp at h⟩, ?_⟩
    show Below w.heap.size w _
    repeat (first | (with_reducible refine Below.setCell ?_ (by simp; try omega) _) | (with_reducible refine Below.alloc ?_ (by simp; try omega) _))
    exact HG1.out
  | true =>
    have HP := hide (HP.out.trans (if_neg (by decide)))
    go_wp2_with fail
    have hrf : ∀ a, Kept w1.heap.size [w.heap.size] a a := fun a => Kept.refl _ _ a
    have htr : ∀ a b c, Kept w1.heap.size [w.heap.size] a b → Kept w1.heap.size [w.heap.size] b c → Kept w1.heap.size [w.heap.size] a c := fun _ _ _ h k => h.trans k
    have Rq0 := fun (W : World) (h : Kept w1.heap.size [w.heap.size] w1.drew W) => ((show Box w1 _ _ from q0.out).drew.kept h (by simp; try omega)).cell
    have Fq0 := fun (W : World) (h : Kept w1.heap.size [w.heap.size] w1.drew W) => ((show Box w1 _ _ from q0.out).drew.kept h (by simp; try omega)).fz
    refine wpR_region (Kept w1.heap.size [w.heap.size]) [] (by kernel_rfl) ?_
    refine wpR_take hrf htr 0 rfl (by kernel_rfl) (fun _ _ _ h => h) rfl (v := ?_) ?_ ?_
    rotate_left
    · (intro w' hG; go_simp; try with_reducible rfl)
    try simp only [Act.put, List.setIfInBounds_toArray, List.set_cons_zero, List.set_cons_succ]
    refine wpR_take hrf htr 1 rfl (by kernel_rfl) (fun _ _ _ h => h) rfl (v := ?_) ?_ ?_
    rotate_left
    · (intro w' hG; go_simp; try with_reducible rfl)
    try simp only [Act.put, List.setIfInBounds_toArray, List.set_cons_zero, List.set_cons_succ]
    refine wpR_take hrf htr 2 rfl (by kernel_rfl) (fun _ _ _ h => h) rfl (v := ?_) ?_ ?_
    rotate_left
    · (intro w' hG; go_simp; try with_reducible rfl)
    try simp only [Act.put, List.setIfInBounds_toArray, List.set_cons_zero, List.set_cons_succ]
    refine wpR_take hrf htr 3 rfl (by kernel_rfl) (fun _ _ _ h => h) rfl (v := ?_) ?_ ?_
    rotate_left
    · (intro w' hG; go_simp; try with_reducible rfl)
    try simp only [Act.put, List.setIfInBounds_toArray, List.set_cons_zero, List.set_cons_succ]
    refine wpR_take hrf htr 4 rfl (by kernel_rfl) (fun _ _ _ h => h) rfl (v := ?_) ?_ ?_
    rotate_left
    · (intro w' hG; go_simp; try with_reducible rfl)
    try simp only [Act.put, List.setIfInBounds_toArray, List.set_cons_zero, List.set_cons_succ]
    refine wpR_call 5 rfl (by kernel_rfl) rfl fun K hK => ?_
    go_simp
    skip
    refine hK.out _ _ (.inr (by refine Kept.fdrew2 ?_; (repeat (with_reducible refine Kept.setCell ?_ (.inr (by simp)) _)); exact Kept.refl _ _ _)) ?_
    clear hK
    try simp only [Act.put, List.setIfInBounds_toArray, List.set_cons_zero, List.set_cons_succ]
    refine wpR_take hrf htr 6 rfl (by kernel_rfl) (fun _ _ _ h => h) rfl (v := ?_) ?_ ?_
    rotate_left
    · (intro w' hG; go_simp; try with_reducible rfl)
    try simp only [Act.put, List.setIfInBounds_toArray, List.set_cons_zero, List.set_cons_succ]
    refine wpR_take hrf htr 7 rfl (by kernel_rfl) (fun _ _ _ h => h) rfl (v := ?_) ?_ ?_
    rotate_left
    · (intro w' hG; go_simp; try with_reducible rfl)
    try simp only [Act.put, List.setIfInBounds_toArray, List.set_cons_zero, List.set_cons_succ]
    refine wpR_done (by kernel_rfl) ?_ _
    clear Rq0 Fq0
    go_wp2
    refine bodyPost_ret (v := .tuple #[fv (F2 a1 a2), .slice A2 (b.length - 3) c2, .int .i64 0]) (by simp [results, Try.results59, go_sem, cp0]) rfl ?_
    rw [HP.out]
    refine ⟨⟨A2, c2, by rw [List.length_drop], fun _ => ⟨HSL.out.1, Nat.le_trans HSL.out.2.1 hcm, HSL.out.2.2⟩⟩, ?_⟩
    refine Grow.drew (show Grow w _ from ?_)
    show Below w.heap.size w _
    repeat (first | (with_reducible refine Below.setCell ?_ (by simp; try omega) _) | (with_reducible refine Below.alloc ?_ (by simp; try omega) _))
    exact HG1.out
set_option maxRecDepth 100000 in
set_option maxHeartbeats 2000000 in
theorem reffget_1 (B : Option Addr) (b : List UInt8) (cb : Nat) (w : World) (hb : Bytes w B b) (hc : b.length ≤ cb) (hcm : cb ≤ 9223372036854775807) (h1 : 1 ≤ b.length) (h : (b.getD 0 0).toNat = 1) :
    Calls Try.prog 59 #[.slice B b.length cb] w fun r w' => GotF3 B b r (fg b).1 (fg b).2.1 (fg b).2.2 ∧ Grow w w' := by
  have HP := hide (fgc_1 h1 h)
  have HG := hide (fun W => reffgood_any { kind := 1, delay := 0, again := 0, pos := 0, bits := 0 } W)
  rw [show fateB { kind := 1, delay := 0, again := 0, pos := 0, bits := 0 } = true from by decide] at HG
  generalize fg b = Q at *
  have h9 : b.length ≠ 0 := by omega
  have h0 : (b.length == 0) = false := by simpa using h9
  clear h9
  have h0' : 0 < b.length := by omega
  have hl : ¬ ((b.length : Int) < 1) := by omega
  obtain ⟨bb, oo, hA, hcell0⟩ := hb.get 0 (by omega)
  subst hA
  rw [Nat.add_zero] at hcell0
  have hbb : bb < w.heap.size := World.block_lt_of_cell? w _ hcell0
  have hbb1 : bb < w.heap.size + 1 := by omega
  have hbb2 : bb < w.heap.size + 1 + 1 := by omega
  have hn0 : ¬ bb = w.heap.size := by omega
  have hn1 : ¬ bb = w.heap.size + 1 := by omega
  have C0 := fun o => Grow.cell' ((Grow.refl w).alloc o) hcell0
  rw [h] at hcell0 C0
  clear h
  obtain ⟨A2, c2, hsl, hc2, hcm2, hsb⟩ := slice_from (some ⟨bb, oo, none⟩) b cb 1 1 rfl (by omega) hc
  have HSL := hide (And.intro hc2 (And.intro hcm2 hsb))
  clear hsb hc2 hcm2
  have hwn : IntKind.i64.wrap 1 = 1 := by decide
  go_enter Try.func59, Try.ntmps59
  go_wp2_with fail
  refine (HG.out _).mono ?_
  rintro r w1 ⟨rfl, hb1⟩
  obtain ⟨p0, q0, n0, hg1⟩ := peel3 hb1
  have p0_ := hide p0
  clear p0
  have p0 := p0_
  clear p0_
  have q0_ := hide q0
  clear q0
  have q0 := q0_
  clear q0_
  have n0_ := hide n0
  clear n0
  have n0 := n0_
  clear n0_
  have HG1 := hide (show Grow w w1 from hg1)
  have hsz1 : w.heap.size ≤ w1.heap.size := HG1.out.size
  have hq1 : w.heap.size ≤ w1.heap.size := hg1.size
  have HS1 := hide hg1
  clear hb1 hg1
  obtain ⟨cp0, fp0, lp0⟩ := (show Box w1 _ _ from p0.out).rules
  obtain ⟨cq0, fq0, lq0⟩ := (show Box w1 _ _ from q0.out).rules
  obtain ⟨cn0, fn0, ln0⟩ := (show Box w1 _ _ from n0.out).rules
  go_wp2_with fail
  have hrf : ∀ a, Kept w1.heap.size [w.heap.size] a a := fun a => Kept.refl _ _ a
  have htr : ∀ a b c, Kept w1.heap.size [w.heap.size] a b → Kept w1.heap.size [w.heap.size] b c → Kept w1.heap.size [w.heap.size] a c := fun _ _ _ h k => h.trans k
  have Rq0 := fun (W : World) (h : Kept w1.heap.size [w.heap.size] w1.drew W) => ((show Box w1 _ _ from q0.out).drew.kept h (by simp; try omega)).cell
  have Fq0 := fun (W : World) (h : Kept w1.heap.size [w.heap.size] w1.drew W) => ((show Box w1 _ _ from q0.out).drew.kept h (by simp; try omega)).fz
  refine wpR_region (Kept w1.heap.size [w.heap.size]) [] (by kernel_rfl) ?_
  refine wpR_take hrf htr 0 rfl (by kernel_rfl) (fun _ _ _ h => h) rfl (v := ?_) ?_ ?_
  rotate_left
  · (intro w' hG; go_simp; try with_reducible rfl)
  try simp only [Act.put, List.setIfInBounds_toArray, List.set_cons_zero, List.set_cons_succ]
  refine wpR_take hrf htr 1 rfl (by kernel_rfl) (fun _ _ _ h => h) rfl (v := ?_) ?_ ?_
  rotate_left
  · (intro w' hG; go_simp; try with_reducible rfl)
  try simp only [Act.put, List.setIfInBounds_toArray, List.set_cons_zero, List.set_cons_succ]
  refine wpR_take hrf htr 2 rfl (by kernel_rfl) (fun _ _ _ h => h) rfl (v := ?_) ?_ ?_
  rotate_left
  · (intro w' hG; go_simp; try with_reducible rfl)
  try simp only [Act.put, List.setIfInBounds_toArray, List.set_cons_zero, List.set_cons_succ]
  refine wpR_take hrf htr 3 rfl (by kernel_rfl) (fun _ _ _ h => h) rfl (v := ?_) ?_ ?_
  rotate_left
  · (intro w' hG; go_simp; try with_reducible rfl)
  try simp only [Act.put, List.setIfInBounds_toArray, List.set_cons_zero, List.set_cons_succ]
  refine wpR_take hrf htr 4 rfl (by kernel_rfl) (fun _ _ _ h => h) rfl (v := ?_) ?_ ?_
  rotate_left
  · (intro w' hG; go_simp; try with_reducible rfl)
  try simp only [Act.put, List.setIfInBounds_toArray, List.set_cons_zero, List.set_cons_succ]
  refine wpR_call 5 rfl (by kernel_rfl) rfl fun K hK => ?_
  go_simp
  skip
  refine hK.out _ _ (.inr (by refine Kept.fdrew2 ?_; (repeat (with_reducible refine Kept.setCell ?_ (.inr (by simp)) _)); exact Kept.refl _ _ _)) ?_
  clear hK
  try simp only [Act.put, List.setIfInBounds_toArray, List.set_cons_zero, List.set_cons_succ]
  refine wpR_take hrf htr 6 rfl (by kernel_rfl) (fun _ _ _ h => h) rfl (v := ?_) ?_ ?_
  rotate_left
  · (intro w' hG; go_simp; try with_reducible rfl)
  try simp only [Act.put, List.setIfInBounds_toArray, List.set_cons_zero, List.set_cons_succ]
  refine wpR_take hrf htr 7 rfl (by kernel_rfl) (fun _ _ _ h => h) rfl (v := ?_) ?_ ?_
  rotate_left
  · (intro w' hG; go_simp; try with_reducible rfl)
  try simp only [Act.put, List.setIfInBounds_toArray, List.set_cons_zero, List.set_cons_succ]
  refine wpR_done (by kernel_rfl) ?_ _
  clear Rq0 Fq0
  go_wp2
  refine bodyPost_ret (v := .tuple #[fv { kind := 1, delay := 0, again := 0, pos := 0, bits := 0 }, .slice A2 (b.length - 1) c2, .int .i64 0]) (by simp [results, Try.results59, go_sem, cp0]) rfl ?_
  rw [HP.out]
  refine ⟨⟨A2, c2, by rw [List.length_drop], fun _ => ⟨HSL.out.1, Nat.le_trans HSL.out.2.1 hcm, HSL.out.2.2⟩⟩, ?_⟩
  refine Grow.drew (show Grow w _ from ?_)
  show Below w.heap.size w _
  repeat (first | (with_reducible refine Below.setCell ?_ (by simp; try omega) _) | (with_reducible refine Below.alloc ?_ (by simp; try omega) _))
  exact HG1.out
set_option maxRecDepth 100000 in
set_option maxHeartbeats 2000000 in
theorem reffget_3 (B : Option Addr) (b : List UInt8) (cb : Nat) (w : World) (hb : Bytes w B b) (hc : b.length ≤ cb) (hcm : cb ≤ 9223372036854775807) (h3 : 10 ≤ b.length) (h : (b.getD 0 0).toNat = 3) :
    Calls Try.prog 59 #[.slice B b.length cb] w fun r w' => GotF3 B b r (fg b).1 (fg b).2.1 (fg b).2.2 ∧ Grow w w' := by
  have HP := hide (fgc_3 h3 h)
  have HG := hide (fun W => reffgood_any (F3 (b.getD 1 0).toNat (Buf.num ((b.drop 2).take 4)) (Buf.num ((b.drop 6).take 4))) W)
  generalize fateB _ = g at *
  generalize fg b = Q at *
  have h9 : b.length ≠ 0 := by omega
  have h0 : (b.length == 0) = false := by simpa using h9
  clear h9
  have h0' : 0 < b.length := by omega
  have hl : ¬ ((b.length : Int) < 10) := by omega
  obtain ⟨bb, oo, hA, hcell0⟩ := hb.get 0 (by omega)
  subst hA
  rw [Nat.add_zero] at hcell0
  have hbb : bb < w.heap.size := World.block_lt_of_cell? w _ hcell0
  obtain ⟨bb1, oo1, hA1, hcell1⟩ := hb.get 1 (by omega)
  obtain ⟨rfl, rfl⟩ : bb = bb1 ∧ oo = oo1 := by simpa using hA1
  clear hA1
  have hbb1 : bb < w.heap.size + 1 := by omega
  have hbb2 : bb < w.heap.size + 1 + 1 := by omega
  have hn0 : ¬ bb = w.heap.size := by omega
  have hn1 : ¬ bb = w.heap.size + 1 := by omega
  have C0 := fun o => Grow.cell' ((Grow.refl w).alloc o) hcell0
  rw [h] at hcell0 C0
  clear h
  have hx2 : Buf.num ((b.drop 2).take 4) < 4294967296 := by
    have h := Buf.num_lt ((b.drop 2).take 4)
    have h2 : ((b.drop 2).take 4).length ≤ 4 := by rw [List.length_take]; exact Nat.min_le_left _ _
    have h3 := Nat.pow_le_pow_right (show 0 < 256 by decide) h2
    omega
  have hx6 : Buf.num ((b.drop 6).take 4) < 4294967296 := by
    have h := Buf.num_lt ((b.drop 6).take 4)
    have h2 : ((b.drop 6).take 4).length ≤ 4 := by rw [List.length_take]; exact Nat.min_le_left _ _
    have h3 := Nat.pow_le_pow_right (show 0 < 256 by decide) h2
    omega
  have alt1 : (b.getD 1 0).toNat < 256 := u8_lt _
  generalize (b.getD 1 0).toNat = a1 at *
  have hi1 : (1 : Int) < (b.length : Int) := by omega
  obtain ⟨A4, c4, hsl2, hc2, hcm2, hsb2⟩ := slice_from (some ⟨bb, oo, none⟩) b cb 2 2 rfl (by omega) hc
  have hF2 := hide (fun W h => refgetfixed_any A4 (b.drop 2) c4 4 W h hc2 (by omega))
  have hd2 : (b.drop 2).length = b.length - 2 := List.length_drop
  rw [show Buf.getFixed (b.drop 2) 4 = (Buf.num ((b.drop 2).take 4), (b.drop 2).drop 4, 0) from rfix4_long _ (by omega)] at hF2
  simp only [hd2] at hF2 hsl2
  generalize Buf.num ((b.drop 2).take 4) = x2 at *
  generalize (b.drop 2).drop 4 = z2 at *
  generalize b.drop 2 = d2 at *
  obtain ⟨A6, c6, hsl6, hc6, hcm6, hsb6⟩ := slice_from (some ⟨bb, oo, none⟩) b cb 6 6 rfl (by omega) hc
  have hF6 := hide (fun W h => refgetfixed_any A6 (b.drop 6) c6 4 W h hc6 (by omega))
  have hd6 : (b.drop 6).length = b.length - 6 := List.length_drop
  rw [show Buf.getFixed (b.drop 6) 4 = (Buf.num ((b.drop 6).take 4), (b.drop 6).drop 4, 0) from rfix4_long _ (by omega)] at hF6
  simp only [hd6] at hF6 hsl6
  generalize Buf.num ((b.drop 6).take 4) = x6 at *
  generalize (b.drop 6).drop 4 = z6 at *
  generalize b.drop 6 = d6 at *
  obtain ⟨A2, c2, hsl, hc2, hcm2, hsb⟩ := slice_from (some ⟨bb, oo, none⟩) b cb 10 10 rfl (by omega) hc
  have HSL := hide (And.intro hc2 (And.intro hcm2 hsb))
  clear hsb hc2 hcm2
  have hwn : IntKind.i64.wrap 10 = 10 := by decide
  go_enter Try.func59, Try.ntmps59
  go_wp2_with fail
  refine (hF2.out _ (hsb2 _ (((hb.alloc _).alloc _).alloc _))).mono ?_
  rintro r w1 ⟨⟨A7, c7, rfl, hc7, hcm7, hr7⟩, hb1⟩
  obtain ⟨p0, q0, n0, hg1⟩ := peel3 hb1
  have p0_ := hide p0
  clear p0
  have p0 := p0_
  clear p0_
  have q0_ := hide q0
  clear q0
  have q0 := q0_
  clear q0_
  have n0_ := hide n0
  clear n0
  have n0 := n0_
  clear n0_
  have hb := hb.grow hg1
  have HG1 := hide (show Grow w w1 from hg1)
  have hsz1 : w.heap.size ≤ w1.heap.size := HG1.out.size
  have hq1 : w.heap.size ≤ w1.heap.size := hg1.size
  have HS1 := hide hg1
  clear hb1 hg1
  obtain ⟨cp0, fp0, lp0⟩ := (show Box w1 _ _ from p0.out).rules
  obtain ⟨cq0, fq0, lq0⟩ := (show Box w1 _ _ from q0.out).rules
  obtain ⟨cn0, fn0, ln0⟩ := (show Box w1 _ _ from n0.out).rules
  go_wp2_with fail
  refine (hF6.out _ (hsb6 _ hb)).mono ?_
  rintro r w2 ⟨⟨A8, c8, rfl, hc8, hcm8, hr8⟩, hb2⟩
  clear cp0 fp0 lp0 cq0 fq0 lq0 cn0 fn0 ln0
  have hg2 := hb2
  have p0_ := hide ((show Box w1 _ _ from p0.out).grow hg2)
  clear p0
  have p0 := p0_
  clear p0_
  have q0_ := hide ((show Box w1 _ _ from q0.out).grow hg2)
  clear q0
  have q0 := q0_
  clear q0_
  have n0_ := hide ((show Box w1 _ _ from n0.out).grow hg2)
  clear n0
  have n0 := n0_
  clear n0_
  have hb := hb.grow hg2
  have HG2 := hide (Grow.trans (show Grow w w1 from HG1.out) hg2)
  clear HG1
  have hsz2 : w.heap.size ≤ w2.heap.size := HG2.out.size
  have hq2 : w1.heap.size ≤ w2.heap.size := hg2.size
  have HS2 := hide hg2
  clear hb2 hg2
  obtain ⟨cp0, fp0, lp0⟩ := (show Box w2 _ _ from p0.out).rules
  obtain ⟨cq0, fq0, lq0⟩ := (show Box w2 _ _ from q0.out).rules
  obtain ⟨cn0, fn0, ln0⟩ := (show Box w2 _ _ from n0.out).rules
  go_wp2_with fail
  clear cp0 fp0 lp0 cq0 fq0 lq0 cn0 fn0 ln0
  generalize hW3 : World.setCell (World.setCell w2 _ _) _ _ = w3
  have n3 := Box.store2 (show Box w2 _ _ from q0.out) hW3
  have p0_ := hide (Box.keep2 (show Box w2 _ _ from p0.out) hW3 (by simp <;> omega) (by simp <;> omega))
  clear p0
  have p0 := p0_
  clear p0_ n0
  have HG3 := hide (by rw [← hW3]; exact Below.setCell (Below.setCell (show Below w.heap.size w w2 from HG2.out) (by simp) _) (by simp) _ : Grow w w3)
  clear HG2 hW3
  have q0_ := hide n3
  clear n3 q0
  have q0 := q0_
  clear q0_
  have hsz3 : w.heap.size ≤ w3.heap.size := HG3.out.size
  obtain ⟨cp0, fp0, lp0⟩ := (show Box w3 _ _ from p0.out).rules
  obtain ⟨cq0, fq0, lq0⟩ := (show Box w3 _ _ from q0.out).rules
  refine (HG.out _).mono ?_
  rintro r w4 ⟨rfl, hb4⟩
  clear cp0 fp0 lp0 cq0 fq0 lq0
  have hg4 := hb4
  have p0_ := hide ((show Box w3 _ _ from p0.out).grow hg4)
  clear p0
  have p0 := p0_
  clear p0_
  have q0_ := hide ((show Box w3 _ _ from q0.out).grow hg4)
  clear q0
  have q0 := q0_
  clear q0_
  have HG4 := hide (Grow.trans (show Grow w w3 from HG3.out) hg4)
  clear HG3
  have hsz4 : w.heap.size ≤ w4.heap.size := HG4.out.size
  have hq4 : w3.heap.size ≤ w4.heap.size := hg4.size
  have HS4 := hide hg4
  clear hb4 hg4
  obtain ⟨cp0, fp0, lp0⟩ := (show Box w4 _ _ from p0.out).rules
  obtain ⟨cq0, fq0, lq0⟩ := (show Box w4 _ _ from q0.out).rules
  cases g with
  | false =>
    have HP := hide (HP.out.trans (if_pos rfl))
    go_wp2
    refine bodyPost_ret (v := .tuple #[fv noF, .slice none 0 0, .int .i64 2]) (by simp [results, Try.results59, go_sem, cp0]) rfl ?_
    rw [HP.out]
    refine ⟨⟨none, 0, rfl, fun h => by simp at h⟩, ?_⟩
    show Below w.heap.size w _
    repeat (first | (with_reducible refine Below.setCell ?_ (by simp; try omega) _) | (with_reducible refine Below.alloc ?_ (by simp; try omega) _))
    exact HG4.out
  | true =>
    have HP := hide (HP.out.trans (if_neg (by decide)))
    go_wp2_with fail
    have hrf : ∀ a, Kept w4.heap.size [w.heap.size] a a := fun a => Kept.refl _ _ a
    have htr : ∀ a b c, Kept w4.heap.size [w.heap.size] a b → Kept w4.heap.size [w.heap.size] b c → Kept w4.heap.size [w.heap.size] a c := fun _ _ _ h k => h.trans k
    have Rq0 := fun (W : World) (h : Kept w4.heap.size [w.heap.size] w4.drew W) => ((show Box w4 _ _ from q0.out).drew.kept h (by simp; try omega)).cell
    have Fq0 := fun (W : World) (h : Kept w4.heap.size [w.heap.size] w4.drew W) => ((show Box w4 _ _ from q0.out).drew.kept h (by simp; try omega)).fz
    refine wpR_region (Kept w4.heap.size [w.heap.size]) [] (by kernel_rfl) ?_
    refine wpR_take hrf htr 0 rfl (by kernel_rfl) (fun _ _ _ h => h) rfl (v := ?_) ?_ ?_
    rotate_left
    · (intro w' hG; go_simp; try with_reducible rfl)
    try simp only [Act.put, List.setIfInBounds_toArray, List.set_cons_zero, List.set_cons_succ]
    refine wpR_take hrf htr 1 rfl (by kernel_rfl) (fun _ _ _ h => h) rfl (v := ?_) ?_ ?_
    rotate_left
    · (intro w' hG; go_simp; try with_reducible rfl)
    try simp only [Act.put, List.setIfInBounds_toArray, List.set_cons_zero, List.set_cons_succ]
    refine wpR_take hrf htr 2 rfl (by kernel_rfl) (fun _ _ _ h => h) rfl (v := ?_) ?_ ?_
    rotate_left
    · (intro w' hG; go_simp; try with_reducible rfl)
    try simp only [Act.put, List.setIfInBounds_toArray, List.set_cons_zero, List.set_cons_succ]
    refine wpR_take hrf htr 3 rfl (by kernel_rfl) (fun _ _ _ h => h) rfl (v := ?_) ?_ ?_
    rotate_left
    · (intro w' hG; go_simp; try with_reducible rfl)
    try simp only [Act.put, List.setIfInBounds_toArray, List.set_cons_zero, List.set_cons_succ]
    refine wpR_take hrf htr 4 rfl (by kernel_rfl) (fun _ _ _ h => h) rfl (v := ?_) ?_ ?_
    rotate_left
    · (intro w' hG; go_simp; try with_reducible rfl)
    try simp only [Act.put, List.setIfInBounds_toArray, List.set_cons_zero, List.set_cons_succ]
    refine wpR_call 5 rfl (by kernel_rfl) rfl fun K hK => ?_
    go_simp
    skip
    refine hK.out _ _ (.inr (by refine Kept.fdrew2 ?_; (repeat (with_reducible refine Kept.setCell ?_ (.inr (by simp)) _)); exact Kept.refl _ _ _)) ?_
    clear hK
    try simp only [Act.put, List.setIfInBounds_toArray, List.set_cons_zero, List.set_cons_succ]
    refine wpR_take hrf htr 6 rfl (by kernel_rfl) (fun _ _ _ h => h) rfl (v := ?_) ?_ ?_
    rotate_left
    · (intro w' hG; go_simp; try with_reducible rfl)
    try simp only [Act.put, List.setIfInBounds_toArray, List.set_cons_zero, List.set_cons_succ]
    refine wpR_take hrf htr 7 rfl (by kernel_rfl) (fun _ _ _ h => h) rfl (v := ?_) ?_ ?_
    rotate_left
    · (intro w' hG; go_simp; try with_reducible rfl)
    try simp only [Act.put, List.setIfInBounds_toArray, List.set_cons_zero, List.set_cons_succ]
    refine wpR_done (by kernel_rfl) ?_ _
    clear Rq0 Fq0
    go_wp2
    refine bodyPost_ret (v := .tuple #[fv (F3 a1 x2 x6), .slice A2 (b.length - 10) c2, .int .i64 0]) (by simp [results, Try.results59, go_sem, cp0]) rfl ?_
    rw [HP.out]
    refine ⟨⟨A2, c2, by rw [List.length_drop], fun _ => ⟨HSL.out.1, Nat.le_trans HSL.out.2.1 hcm, HSL.out.2.2⟩⟩, ?_⟩
    refine Grow.drew (show Grow w _ from ?_)
    show Below w.heap.size w _
    repeat (first | (with_reducible refine Below.setCell ?_ (by simp; try omega) _) | (with_reducible refine Below.alloc ?_ (by simp; try omega) _))
    exact HG4.out
theorem reffget_any (B : Option Addr) (b : List UInt8) (cb : Nat) (w : World) (hb : Bytes w B b) (hc : b.length ≤ cb) (hcm : cb ≤ 9223372036854775807) :
    Calls Try.prog 59 #[.slice B b.length cb] w fun r w' => GotF3 B b r (fg b).1 (fg b).2.1 (fg b).2.2 ∧ Grow w w' := by
  by_cases h0 : b.length = 0
  · exact reffget_nil B b cb w hb hc hcm h0
  by_cases h4 : 4 ≤ (b.getD 0 0).toNat
  · exact reffget_big B b cb w hb hc hcm (by omega) h4
  have hk : (b.getD 0 0).toNat = 0 ∨ (b.getD 0 0).toNat = 1 ∨ (b.getD 0 0).toNat = 2 ∨ (b.getD 0 0).toNat = 3 := by omega
  rcases hk with k | k | k | k
  · by_cases h : b.length < 2
    · exact reffget_0s B b cb w hb hc hcm (by omega) h k
    · exact reffget_0 B b cb w hb hc hcm (by omega) k
  · exact reffget_1 B b cb w hb hc hcm (by omega) k
  · by_cases h : b.length < 3
    · exact reffget_2s B b cb w hb hc hcm (by omega) h k
    · exact reffget_2 B b cb w hb hc hcm (by omega) k
  · by_cases h : b.length < 10
    · exact reffget_3s B b cb w hb hc hcm (by omega) h k
    · exact reffget_3 B b cb w hb hc hcm (by omega) k
end Go.Proofs.Ytcghgahohmabnaa
