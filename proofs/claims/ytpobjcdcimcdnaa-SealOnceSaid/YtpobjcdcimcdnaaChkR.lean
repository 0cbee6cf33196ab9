/- The walk of the document of chunk.Get. -/
import Derived.Test.YtpobjcdcimcdnaaChkG
namespace Go.Proofs.Ytpobjcdcimcdnaa
open Go.RowKit
theorem gotpk3_bad {B : Option Addr} {b : List UInt8} {e : Int} : GotPk3 B b (.returned (.tuple #[pv noP none 0 0, .slice none 0 0, .int .i64 e])) noP [] [] e :=
  ⟨none, 0, none, 0, rfl, Nat.le_refl _, by decide, fun _ _ => Bytes.nil _ _, Nat.le_refl _, by decide, fun _ _ => Bytes.nil _ _⟩
set_option maxRecDepth 100000 in
set_option maxHeartbeats 8000000 in
theorem refchunkget_any (B : Option Addr) (b : List UInt8) (cb : Nat) (p : Pkt) (A : Option Addr) (n c : Nat) (w : World) (hb : Bytes w B b) (hc : b.length ≤ cb) (hcm : cb ≤ 9223372036854775807) :
    Calls Try.prog 74 #[.slice B b.length cb, pv p A n c] w fun r w' => GotPk3 B b r (cg b p).1 (cg b p).2.1 (cg b p).2.2.1 (cg b p).2.2.2 ∧ Grow w w' := by
  have hF := hide (fun W h => refgetnum_any B b cb W h hc hcm)
  obtain ⟨Q, HQ_⟩ : ∃ Q, Q = cg b p := ⟨_, rfl⟩
  have HQ := hide HQ_
  clear HQ_
  rw [← HQ.out]
  generalize hT : Buf.getNum b = T at *
  obtain ⟨x, rest, e1⟩ := T
  dsimp only at *
  by_cases he : e1 = 0
  rotate_left
  · have HP := hide (HQ.out.trans (cg_bad hT he))
    have he' : (e1 != 0) = true := by simpa using he
    have he2 : (e1 == 0) = false := by simpa using he
    clear he hT
    go_enter Try.func74, Try.ntmps74
    go_wp2_with fail
    refine (hF.out _ ((hb.alloc _).alloc _)).mono ?_
    rintro r w1 ⟨⟨A1, c1, rfl, hc1, hcm1, hr⟩, hb1⟩
    obtain ⟨p0, q0, hg1⟩ := peel2 hb1
    have p0_ := hide p0
    clear p0
    have p0 := p0_
    clear p0_
    have q0_ := hide q0
    clear q0
    have q0 := q0_
    clear q0_
    have HG1 := hide (show Grow w w1 from hg1)
    have hsz1 : w.heap.size ≤ w1.heap.size := HG1.out.size
    have hq1 : w.heap.size ≤ w1.heap.size := hg1.size
    have HS1 := hide hg1
    clear hb1 hg1
    obtain ⟨cp0, fp0, lp0⟩ := (show Box w1 _ _ from p0.out).rules
    obtain ⟨cq0, fq0, lq0⟩ := (show Box w1 _ _ from q0.out).rules
    go_wp2
    refine bodyPost_ret (v := .tuple #[pv noP none 0 0, .slice none 0 0, .int .i64 e1]) (by simp [results, Try.results74, go_sem, cq0, noP]) rfl ?_
    rw [HP.out]
    refine ⟨gotpk3_bad, ?_⟩
    show Below w.heap.size w _
    repeat (with_reducible refine Below.setCell ?_ (by simp) _)
    exact HG1.out
  subst he
  by_cases hx : 1152921504606846976 < x
  · have HP := hide (HQ.out.trans (cg_big hT hx))
    clear hT
    go_enter Try.func74, Try.ntmps74
    go_wp2_with fail
    refine (hF.out _ ((hb.alloc _).alloc _)).mono ?_
    rintro r w1 ⟨⟨A1, c1, rfl, hc1, hcm1, hr⟩, hb1⟩
    obtain ⟨p0, q0, hg1⟩ := peel2 hb1
    have p0_ := hide p0
    clear p0
    have p0 := p0_
    clear p0_
    have q0_ := hide q0
    clear q0
    have q0 := q0_
    clear q0_
    have HG1 := hide (show Grow w w1 from hg1)
    have hsz1 : w.heap.size ≤ w1.heap.size := HG1.out.size
    have hq1 : w.heap.size ≤ w1.heap.size := hg1.size
    have HS1 := hide hg1
    clear hb1 hg1
    obtain ⟨cp0, fp0, lp0⟩ := (show Box w1 _ _ from p0.out).rules
    obtain ⟨cq0, fq0, lq0⟩ := (show Box w1 _ _ from q0.out).rules
    go_wp2
    refine bodyPost_ret (v := .tuple #[pv noP none 0 0, .slice none 0 0, .int .i64 2]) (by simp [results, Try.results74, go_sem, cq0, noP]) rfl ?_
    rw [HP.out]
    refine ⟨gotpk3_bad, ?_⟩
    show Below w.heap.size w _
    repeat (with_reducible refine Below.setCell ?_ (by simp) _)
    exact HG1.out
  have hx2 : x ≤ 1152921504606846976 := by omega
  clear hx
  by_cases h0 : rest.length < 1
  · have h00 : rest = [] := List.eq_nil_of_length_eq_zero (by omega)
    have HP := hide (HQ.out.trans (cg_pl hT hx2 3 (by rw [h00]; exact plE_nil) (by decide)))
    clear hT h00
    go_enter Try.func74, Try.ntmps74
    go_wp2_with fail
    refine (hF.out _ ((hb.alloc _).alloc _)).mono ?_
    rintro r w1 ⟨⟨A1, c1, rfl, hc1, hcm1, hr⟩, hb1⟩
    obtain ⟨p0, q0, hg1⟩ := peel2 hb1
    have p0_ := hide p0
    clear p0
    have p0 := p0_
    clear p0_
    have q0_ := hide q0
    clear q0
    have q0 := q0_
    clear q0_
    have HG1 := hide (show Grow w w1 from hg1)
    have hsz1 : w.heap.size ≤ w1.heap.size := HG1.out.size
    have hq1 : w.heap.size ≤ w1.heap.size := hg1.size
    have HS1 := hide hg1
    clear hb1 hg1
    obtain ⟨cp0, fp0, lp0⟩ := (show Box w1 _ _ from p0.out).rules
    obtain ⟨cq0, fq0, lq0⟩ := (show Box w1 _ _ from q0.out).rules
    go_wp2
    refine bodyPost_ret (v := .tuple #[pv noP none 0 0, .slice none 0 0, .int .i64 3]) (by simp [results, Try.results74, go_sem, cq0, noP]) rfl ?_
    rw [HP.out]
    refine ⟨gotpk3_bad, ?_⟩
    show Below w.heap.size w _
    repeat (with_reducible refine Below.setCell ?_ (by simp) _)
    exact HG1.out
  have h1 : 1 ≤ rest.length := by omega
  clear h0
  have hr1 := hide (getD_one h1)
  by_cases ha : 63 < (rest.getD 0 0).toNat
  · have HP : Hid (Q = (noP, [], [], 8)) := by
      obtain ⟨a, r, hl, h00, _⟩ := hr1.out
      rw [h00] at ha
      exact hide (HQ.out.trans (cg_pl hT hx2 8 (by rw [hl]; exact plE_node a r ha) (by decide)))
    clear hT hr1
    have alt0 : (rest.getD 0 0).toNat < 256 := u8_lt _
    generalize ea0_ : (rest.getD 0 0).toNat = a0 at *
    have ea0 := hide ea0_
    clear ea0_
    go_enter Try.func74, Try.ntmps74
    go_wp2_with fail
    refine (hF.out _ ((hb.alloc _).alloc _)).mono ?_
    rintro r w1 ⟨⟨A1, c1, rfl, hc1, hcm1, hr⟩, hb1⟩
    obtain ⟨p0, q0, hg1⟩ := peel2 hb1
    have p0_ := hide p0
    clear p0
    have p0 := p0_
    clear p0_
    have q0_ := hide q0
    clear q0
    have q0 := q0_
    clear q0_
    have HG1 := hide (show Grow w w1 from hg1)
    have hsz1 : w.heap.size ≤ w1.heap.size := HG1.out.size
    have hq1 : w.heap.size ≤ w1.heap.size := hg1.size
    have HS1 := hide hg1
    clear hb1 hg1
    obtain ⟨cp0, fp0, lp0⟩ := (show Box w1 _ _ from p0.out).rules
    obtain ⟨cq0, fq0, lq0⟩ := (show Box w1 _ _ from q0.out).rules
    obtain ⟨bb, oo, hA, hcell0⟩ := (hr _ (hb.grow (show Grow w w1 from HG1.out))).get 0 (by omega)
    rw [ea0.out] at hcell0
    subst hA
    rw [Nat.add_zero] at hcell0
    go_wp2
    refine bodyPost_ret (v := .tuple #[pv noP none 0 0, .slice none 0 0, .int .i64 8]) (by simp [results, Try.results74, go_sem, cq0, noP]) rfl ?_
    rw [HP.out]
    refine ⟨gotpk3_bad, ?_⟩
    show Below w.heap.size w _
    repeat (with_reducible refine Below.setCell ?_ (by simp) _)
    exact HG1.out
  have ha2 : (rest.getD 0 0).toNat ≤ 63 := by omega
  clear ha
  by_cases h3 : rest.length < 3
  · have HP : Hid (Q = (noP, [], [], 3)) := by
      obtain ⟨a, r, hl, h00, _⟩ := hr1.out
      rw [h00] at ha2
      exact hide (HQ.out.trans (cg_pl hT hx2 3 (by rw [hl]; exact plE_short a r ha2 (by rw [← hl]; exact h3)) (by decide)))
    clear hT hr1
    have alt0 : (rest.getD 0 0).toNat < 256 := u8_lt _
    generalize ea0_ : (rest.getD 0 0).toNat = a0 at *
    have ea0 := hide ea0_
    clear ea0_
    go_enter Try.func74, Try.ntmps74
    go_wp2_with fail
    refine (hF.out _ ((hb.alloc _).alloc _)).mono ?_
    rintro r w1 ⟨⟨A1, c1, rfl, hc1, hcm1, hr⟩, hb1⟩
    obtain ⟨p0, q0, hg1⟩ := peel2 hb1
    have p0_ := hide p0
    clear p0
    have p0 := p0_
    clear p0_
    have q0_ := hide q0
    clear q0
    have q0 := q0_
    clear q0_
    have HG1 := hide (show Grow w w1 from hg1)
    have hsz1 : w.heap.size ≤ w1.heap.size := HG1.out.size
    have hq1 : w.heap.size ≤ w1.heap.size := hg1.size
    have HS1 := hide hg1
    clear hb1 hg1
    obtain ⟨cp0, fp0, lp0⟩ := (show Box w1 _ _ from p0.out).rules
    obtain ⟨cq0, fq0, lq0⟩ := (show Box w1 _ _ from q0.out).rules
    obtain ⟨bb, oo, hA, hcell0⟩ := (hr _ (hb.grow (show Grow w w1 from HG1.out))).get 0 (by omega)
    rw [ea0.out] at hcell0
    subst hA
    rw [Nat.add_zero] at hcell0
    go_wp2
    refine bodyPost_ret (v := .tuple #[pv noP none 0 0, .slice none 0 0, .int .i64 3]) (by simp [results, Try.results74, go_sem, cq0, noP]) rfl ?_
    rw [HP.out]
    refine ⟨gotpk3_bad, ?_⟩
    show Below w.heap.size w _
    repeat (with_reducible refine Below.setCell ?_ (by simp) _)
    exact HG1.out
  have h3' : 3 ≤ rest.length := by omega
  clear h3 h1
  have hr3 := hide (getD_three h3')
  by_cases hi : (rest.getD 2 0).toNat ≤ (rest.getD 1 0).toNat
  · have HP : Hid (Q = (noP, [], [], 5)) := by
      obtain ⟨a, i, t, r, hl, h00, h11, h22, h33⟩ := hr3.out
      rw [h00] at ha2
      rw [h11, h22] at hi
      exact hide (HQ.out.trans (cg_pl hT hx2 5 (by rw [hl, plE_three a i t r ha2, if_neg (by omega)]) (by decide)))
    clear hT hr3 hr1
    have alt0 : (rest.getD 0 0).toNat < 256 := u8_lt _
    generalize ea0_ : (rest.getD 0 0).toNat = a0 at *
    have ea0 := hide ea0_
    clear ea0_
    have alt1 : (rest.getD 1 0).toNat < 256 := u8_lt _
    generalize ea1_ : (rest.getD 1 0).toNat = a1 at *
    have ea1 := hide ea1_
    clear ea1_
    have alt2 : (rest.getD 2 0).toNat < 256 := u8_lt _
    generalize ea2_ : (rest.getD 2 0).toNat = a2 at *
    have ea2 := hide ea2_
    clear ea2_
    go_enter Try.func74, Try.ntmps74
    go_wp2_with fail
    refine (hF.out _ ((hb.alloc _).alloc _)).mono ?_
    rintro r w1 ⟨⟨A1, c1, rfl, hc1, hcm1, hr⟩, hb1⟩
    obtain ⟨p0, q0, hg1⟩ := peel2 hb1
    have p0_ := hide p0
    clear p0
    have p0 := p0_
    clear p0_
    have q0_ := hide q0
    clear q0
    have q0 := q0_
    clear q0_
    have HG1 := hide (show Grow w w1 from hg1)
    have hsz1 : w.heap.size ≤ w1.heap.size := HG1.out.size
    have hq1 : w.heap.size ≤ w1.heap.size := hg1.size
    have HS1 := hide hg1
    clear hb1 hg1
    obtain ⟨cp0, fp0, lp0⟩ := (show Box w1 _ _ from p0.out).rules
    obtain ⟨cq0, fq0, lq0⟩ := (show Box w1 _ _ from q0.out).rules
    obtain ⟨bb, oo, hA, hcell0⟩ := (hr _ (hb.grow (show Grow w w1 from HG1.out))).get 0 (by omega)
    rw [ea0.out] at hcell0
    subst hA
    rw [Nat.add_zero] at hcell0
    obtain ⟨bb1, oo1, hA1, hcell1⟩ := (hr _ (hb.grow (show Grow w w1 from HG1.out))).get 1 (by omega)
    rw [ea1.out] at hcell1
    obtain ⟨rfl, rfl⟩ : bb = bb1 ∧ oo = oo1 := by simpa using hA1
    obtain ⟨bb2, oo2, hA2, hcell2⟩ := (hr _ (hb.grow (show Grow w w1 from HG1.out))).get 2 (by omega)
    rw [ea2.out] at hcell2
    obtain ⟨rfl, rfl⟩ : bb = bb2 ∧ oo = oo2 := by simpa using hA2
    clear hA1 hA2
    go_wp2_with fail
    go_quiet (fail)
    go_wp2
    refine bodyPost_ret (v := .tuple #[pv noP none 0 0, .slice none 0 0, .int .i64 5]) (by simp [results, Try.results74, go_sem, cq0, noP]) rfl ?_
    rw [HP.out]
    refine ⟨gotpk3_bad, ?_⟩
    show Below w.heap.size w _
    repeat (with_reducible refine Below.setCell ?_ (by simp) _)
    first | exact HG1.out | exact Grow.drewN HG1.out _
  have hi2 : (rest.getD 1 0).toNat < (rest.getD 2 0).toNat := by omega
  clear hi
  generalize hU : Buf.getBytes (rest.drop 3) 64 = U at *
  obtain ⟨t, left, e2⟩ := U
  try dsimp only at *
  have HP0 : Hid (Q = if e2 ≠ 0 then (noP, [], [], e2) else ({ p with no := (x : Int), to := ((rest.getD 0 0).toNat : Int), index := ((rest.getD 1 0).toNat : Int), total := ((rest.getD 2 0).toNat : Int) }, t, left, 0)) := by
    obtain ⟨a, i, u, r, hl, h00, h11, h22, h33⟩ := hr3.out
    rw [h00] at ha2
    rw [h11, h22] at hi2
    rw [h33] at hU
    rw [h00, h11, h22]
    rw [hl] at hT
    exact hide (HQ.out.trans (cg_three hT hx2 ha2 hi2 hU))
  have hB := hide (fun A c (W : World) h h1 h2 => refgetbytes_any A (rest.drop 3) c 64 W h h1 h2 (by decide))
  rw [hU] at hB
  have hd3 : (rest.drop 3).length = rest.length - 3 := List.length_drop
  clear hT hr3 hr1 hU
  have alt0 : (rest.getD 0 0).toNat < 256 := u8_lt _
  generalize ea0_ : (rest.getD 0 0).toNat = a0 at *
  have ea0 := hide ea0_
  clear ea0_
  have alt1 : (rest.getD 1 0).toNat < 256 := u8_lt _
  generalize ea1_ : (rest.getD 1 0).toNat = a1 at *
  have ea1 := hide ea1_
  clear ea1_
  have alt2 : (rest.getD 2 0).toNat < 256 := u8_lt _
  generalize ea2_ : (rest.getD 2 0).toNat = a2 at *
  have ea2 := hide ea2_
  clear ea2_
  go_enter Try.func74, Try.ntmps74
  go_wp2_with fail
  refine (hF.out _ ((hb.alloc _).alloc _)).mono ?_
  rintro r w1 ⟨⟨A1, c1, rfl, hc1, hcm1, hr⟩, hb1⟩
  obtain ⟨p0, q0, hg1⟩ := peel2 hb1
  have p0_ := hide p0
  clear p0
  have p0 := p0_
  clear p0_
  have q0_ := hide q0
  clear q0
  have q0 := q0_
  clear q0_
  have HG1 := hide (show Grow w w1 from hg1)
  have hsz1 : w.heap.size ≤ w1.heap.size := HG1.out.size
  have hq1 : w.heap.size ≤ w1.heap.size := hg1.size
  have HS1 := hide hg1
  clear hb1 hg1
  obtain ⟨cp0, fp0, lp0⟩ := (show Box w1 _ _ from p0.out).rules
  obtain ⟨cq0, fq0, lq0⟩ := (show Box w1 _ _ from q0.out).rules
  obtain ⟨bb, oo, hA, hcell0⟩ := (hr _ (hb.grow (show Grow w w1 from HG1.out))).get 0 (by omega)
  rw [ea0.out] at hcell0
  subst hA
  rw [Nat.add_zero] at hcell0
  obtain ⟨bb1, oo1, hA1, hcell1⟩ := (hr _ (hb.grow (show Grow w w1 from HG1.out))).get 1 (by omega)
  rw [ea1.out] at hcell1
  obtain ⟨rfl, rfl⟩ : bb = bb1 ∧ oo = oo1 := by simpa using hA1
  obtain ⟨bb2, oo2, hA2, hcell2⟩ := (hr _ (hb.grow (show Grow w w1 from HG1.out))).get 2 (by omega)
  rw [ea2.out] at hcell2
  obtain ⟨rfl, rfl⟩ : bb = bb2 ∧ oo = oo2 := by simpa using hA2
  clear hA1 hA2
  obtain ⟨A2, c2, hsl, hc2, hcm2, hsb⟩ := slice_from (some ⟨bb, oo, none⟩) rest c1 3 3 rfl h3' hc1
  generalize rest.drop 3 = rest3 at *
  simp only [hd3] at hB
  go_wp2_with fail
  go_quiet (fail)
  go_wp2_with fail
  refine (hB.out _ _ _ (hsb _ (hr _ (hb.grow (Grow.drewN HG1.out _)))) (by omega) (by omega)).mono ?_
  rintro r w2 ⟨⟨A3, c3, A4, c4, rfl, hc3, hcm3, hc4, hcm4, hbt, hbr⟩, hb2⟩
  have hb2 := Grow.of_drewN hb2
  clear cp0 fp0 lp0 cq0 fq0 lq0
  have hg2 := hb2
  have p0_ := hide ((show Box w1 _ _ from p0.out).grow hg2)
  clear p0
  have p0 := p0_
  clear p0_
  have q0_ := hide ((show Box w1 _ _ from q0.out).grow hg2)
  clear q0
  have q0 := q0_
  clear q0_
  have HG2 := hide (Grow.trans (show Grow w w1 from HG1.out) hg2)
  clear HG1
  have hsz2 : w.heap.size ≤ w2.heap.size := HG2.out.size
  have hq2 : w1.heap.size ≤ w2.heap.size := hg2.size
  have HS2 := hide hg2
  clear hb2 hg2
  obtain ⟨cp0, fp0, lp0⟩ := (show Box w2 _ _ from p0.out).rules
  obtain ⟨cq0, fq0, lq0⟩ := (show Box w2 _ _ from q0.out).rules
  by_cases he2 : e2 = 0
  · subst he2
    have HP := hide (HP0.out.trans (if_neg (by simp)))
    have hbb : bb < w.heap.size := by
      obtain ⟨b', o', hA', hc'⟩ := (hr _ hb).get 0 (by omega)
      have := World.block_lt_of_cell? w _ hc'
      obtain ⟨rfl, rfl⟩ : bb = b' ∧ oo = o' := by simpa using hA'
      exact this
    have hcell0 := Grow.cell' HS2.out hcell0
    have hcell1 := Grow.cell' HS2.out hcell1
    have hcell2 := Grow.cell' HS2.out hcell2
    have C0 := fun (W : World) (h : Below w.heap.size w2.drew W) => (Below.cell (p := ⟨bb, oo, none⟩) h hbb).trans hcell0
    have C1 := fun (W : World) (h : Below w.heap.size w2.drew W) => (Below.cell (p := ⟨bb, oo + 1, none⟩) h hbb).trans hcell1
    have C2 := fun (W : World) (h : Below w.heap.size w2.drew W) => (Below.cell (p := ⟨bb, oo + 2, none⟩) h hbb).trans hcell2
    have hrf : ∀ a, Below w.heap.size a a := Below.refl _
    have htr : ∀ a b c, Below w.heap.size a b → Below w.heap.size b c → Below w.heap.size a c := fun _ _ _ h k => h.trans k
    have z0 : 0 < rest.length := by omega
    have z1 : (1 : Int) < (rest.length : Int) := by omega
    have z2 : (2 : Int) < (rest.length : Int) := by omega
    go_wp2_with fail
    refine wpR_region (Below w.heap.size) [] (by kernel_rfl) ?_
    refine wpR_take hrf htr 0 rfl (by kernel_rfl) (fun _ _ _ h => h) rfl (v := ?_) ?_ ?_
    rotate_left
    · (intro w' hG; go_simp; try with_reducible rfl)
    try simp only [Act.put, List.setIfInBounds_toArray, List.set_cons_zero, List.set_cons_succ]
    refine wpR_take hrf htr 1 rfl (by kernel_rfl) (fun _ _ _ h => h) rfl (v := ?_) ?_ ?_
    rotate_left
    · (intro w' hG; go_simp; try with_reducible rfl)
    try simp only [Act.put, List.setIfInBounds_toArray, List.set_cons_zero, List.set_cons_succ]
    refine wpR_take hrf htr 2 rfl (by kernel_rfl) (fun _ _ _ h => h) rfl (v := ?_) ?_ ?_
    rotate_left
    · (intro w' hG; go_simp; try with_reducible rfl)
    try simp only [Act.put, List.setIfInBounds_toArray, List.set_cons_zero, List.set_cons_succ]
    refine wpR_take hrf htr 3 rfl (by kernel_rfl) (fun _ _ _ h => h) rfl (v := ?_) ?_ ?_
    rotate_left
    · (intro w' hG; go_simp; try with_reducible rfl)
    try simp only [Act.put, List.setIfInBounds_toArray, List.set_cons_zero, List.set_cons_succ]
    refine wpR_take hrf htr 4 rfl (by kernel_rfl) (fun _ _ _ h => h) rfl (v := ?_) ?_ ?_
    rotate_left
    · (intro w' hG; go_simp; try with_reducible rfl)
    try simp only [Act.put, List.setIfInBounds_toArray, List.set_cons_zero, List.set_cons_succ]
    refine wpR_take hrf htr 5 rfl (by kernel_rfl) (fun _ _ _ h => h) rfl (v := ?_) ?_ ?_
    rotate_left
    · (intro w' hG; go_simp; try with_reducible rfl)
    try simp only [Act.put, List.setIfInBounds_toArray, List.set_cons_zero, List.set_cons_succ]
    refine wpR_take hrf htr 6 rfl (by kernel_rfl) (fun _ _ _ h => h) rfl (v := ?_) ?_ ?_
    rotate_left
    · (intro w' hG; go_simp; try with_reducible rfl)
    try simp only [Act.put, List.setIfInBounds_toArray, List.set_cons_zero, List.set_cons_succ]
    refine wpR_take hrf htr 7 rfl (by kernel_rfl) (fun _ _ _ h => h) rfl (v := ?_) ?_ ?_
    rotate_left
    · (intro w' hG; go_simp; try with_reducible rfl)
    try simp only [Act.put, List.setIfInBounds_toArray, List.set_cons_zero, List.set_cons_succ]
    refine wpR_take hrf htr 8 rfl (by kernel_rfl) (fun _ _ _ h => h) rfl (v := ?_) ?_ ?_
    rotate_left
    · (intro w' hG; go_simp; try with_reducible rfl)
    try simp only [Act.put, List.setIfInBounds_toArray, List.set_cons_zero, List.set_cons_succ]
    refine wpR_take hrf htr 9 rfl (by kernel_rfl) (fun _ _ _ h => h) rfl (v := ?_) ?_ ?_
    rotate_left
    · (intro w' hG; go_simp; try with_reducible rfl)
    try simp only [Act.put, List.setIfInBounds_toArray, List.set_cons_zero, List.set_cons_succ]
    refine wpR_take hrf htr 10 rfl (by kernel_rfl) (fun _ _ _ h => h) rfl (v := ?_) ?_ ?_
    rotate_left
    · (intro w' hG; go_simp; try with_reducible rfl)
    try simp only [Act.put, List.setIfInBounds_toArray, List.set_cons_zero, List.set_cons_succ]
    refine wpR_take hrf htr 11 rfl (by kernel_rfl) (fun _ _ _ h => h) rfl (v := ?_) ?_ ?_
    rotate_left
    · (intro w' hG; go_simp; try with_reducible rfl)
    try simp only [Act.put, List.setIfInBounds_toArray, List.set_cons_zero, List.set_cons_succ]
    refine wpR_take hrf htr 12 rfl (by kernel_rfl) (fun _ _ _ h => h) rfl (v := ?_) ?_ ?_
    rotate_left
    · (intro w' hG; go_simp; try with_reducible rfl)
    try simp only [Act.put, List.setIfInBounds_toArray, List.set_cons_zero, List.set_cons_succ]
    refine wpR_take hrf htr 13 rfl (by kernel_rfl) (fun _ _ _ h => h) rfl (v := ?_) ?_ ?_
    rotate_left
    · (intro w' hG; go_simp; try with_reducible rfl)
    try simp only [Act.put, List.setIfInBounds_toArray, List.set_cons_zero, List.set_cons_succ]
    refine wpR_take hrf htr 14 rfl (by kernel_rfl) (fun _ _ _ h => h) rfl (v := ?_) ?_ ?_
    rotate_left
    · (intro w' hG; go_simp; try with_reducible rfl)
    try simp only [Act.put, List.setIfInBounds_toArray, List.set_cons_zero, List.set_cons_succ]
    refine wpR_take hrf htr 15 rfl (by kernel_rfl) (fun _ _ _ h => h) rfl (v := ?_) ?_ ?_
    rotate_left
    · (intro w' hG; go_simp; try with_reducible rfl)
    try simp only [Act.put, List.setIfInBounds_toArray, List.set_cons_zero, List.set_cons_succ]
    refine wpR_call 16 rfl (by kernel_rfl) rfl fun K hK => ?_
    go_simp
    skip
    refine hK.out _ _ (.inr (by refine Below.drew2 (Below.setCell (Below.refl _ _) (by simp; try omega) _))) ?_
    clear hK
    try simp only [Act.put, List.setIfInBounds_toArray, List.set_cons_zero, List.set_cons_succ]
    refine wpR_take hrf htr 17 rfl (by kernel_rfl) (fun _ _ _ h => h) rfl (v := ?_) ?_ ?_
    rotate_left
    · (intro w' hG; go_simp; try with_reducible rfl)
    try simp only [Act.put, List.setIfInBounds_toArray, List.set_cons_zero, List.set_cons_succ]
    refine wpR_call 18 rfl (by kernel_rfl) rfl fun K hK => ?_
    go_simp
    skip
    refine hK.out _ _ (.inr (by refine Below.drew2 (Below.setCell (Below.refl _ _) (by simp; try omega) _))) ?_
    clear hK
    try simp only [Act.put, List.setIfInBounds_toArray, List.set_cons_zero, List.set_cons_succ]
    refine wpR_take hrf htr 19 rfl (by kernel_rfl) (fun _ _ _ h => h) rfl (v := ?_) ?_ ?_
    rotate_left
    · (intro w' hG; go_simp; try with_reducible rfl)
    try simp only [Act.put, List.setIfInBounds_toArray, List.set_cons_zero, List.set_cons_succ]
    refine wpR_call 20 rfl (by kernel_rfl) rfl fun K hK => ?_
    go_simp
    skip
    refine hK.out _ _ (.inr (by refine Below.drew2 (Below.setCell (Below.refl _ _) (by simp; try omega) _))) ?_
    clear hK
    try simp only [Act.put, List.setIfInBounds_toArray, List.set_cons_zero, List.set_cons_succ]
    refine wpR_take hrf htr 21 rfl (by kernel_rfl) (fun _ _ _ h => h) rfl (v := ?_) ?_ ?_
    rotate_left
    · (intro w' hG; go_simp; try with_reducible rfl)
    try simp only [Act.put, List.setIfInBounds_toArray, List.set_cons_zero, List.set_cons_succ]
    refine wpR_call 22 rfl (by kernel_rfl) rfl fun K hK => ?_
    go_simp
    skip
    refine hK.out _ _ (.inr (by refine Below.drew2 (Below.setCell (Below.refl _ _) (by simp; try omega) _))) ?_
    clear hK
    try simp only [Act.put, List.setIfInBounds_toArray, List.set_cons_zero, List.set_cons_succ]
    refine wpR_take hrf htr 23 rfl (by kernel_rfl) (fun _ _ _ h => h) rfl (v := ?_) ?_ ?_
    rotate_left
    · (intro w' hG; go_simp; try with_reducible rfl)
    try simp only [Act.put, List.setIfInBounds_toArray, List.set_cons_zero, List.set_cons_succ]
    refine wpR_call 24 rfl (by kernel_rfl) rfl fun K hK => ?_
    go_simp
    skip
    refine hK.out _ _ (.inr (by refine Below.drew2 (Below.setCell (Below.refl _ _) (by simp; try omega) _))) ?_
    clear hK
    try simp only [Act.put, List.setIfInBounds_toArray, List.set_cons_zero, List.set_cons_succ]
    refine wpR_done (by kernel_rfl) ?_ _
    clear C0 C1 C2
    go_wp2
    refine bodyPost_ret (v := .tuple #[pv { p with no := (x : Int), to := (a0 : Int), index := (a1 : Int), total := (a2 : Int) } A3 t.length c3, .slice A4 left.length c4, .int .i64 0]) (by simp [results, Try.results74, go_sem, cq0]) rfl ?_
    rw [HP.out]
    refine ⟨⟨A3, c3, A4, c4, rfl, hc3, hcm3, fun W h => hbt W (hsb W (hr W h)), hc4, hcm4, fun W h => hbr W (hsb W (hr W h))⟩, ?_⟩
    refine Grow.drew (show Grow w _ from ?_)
    show Below w.heap.size w _
    repeat (with_reducible refine Below.setCell ?_ (by simp; try omega) _)
    exact HG2.out
  · have HP := hide (HP0.out.trans (if_pos he2))
    have he' : (e2 != 0) = true := by simpa using he2
    clear he2
    go_wp2
    refine bodyPost_ret (v := .tuple #[pv noP none 0 0, .slice none 0 0, .int .i64 e2]) (by simp [results, Try.results74, go_sem, cq0, noP]) rfl ?_
    rw [HP.out]
    refine ⟨gotpk3_bad, ?_⟩
    show Below w.heap.size w _
    repeat (with_reducible refine Below.setCell ?_ (by simp) _)
    exact HG2.out
end Go.Proofs.Ytpobjcdcimcdnaa
