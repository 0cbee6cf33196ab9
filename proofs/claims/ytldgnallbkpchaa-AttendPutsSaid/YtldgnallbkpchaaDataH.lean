/- The walks of the statements DataGood and DataEntry. -/
import Derived.Test.YtldgnallbkpchaaDataG
namespace Go.Proofs.Ytldgnallbkpchaa
open Go.RowKit
theorem dataB_t (p : Pkt) (n : Nat) (h : dataB p n = true) : 0 ≤ p.t ∧ p.t ≤ 1152921504606846976 := by
  simp only [dataB, Bool.and_eq_true, beq_iff_eq] at h
  obtain ⟨⟨⟨h1, h2⟩, _⟩, _⟩ := h
  unfold headB at h2
  rw [if_pos (by simp [floodB, h1])] at h2
  simp [keyB] at h2
  omega
set_option maxRecDepth 100000 in
set_option maxHeartbeats 2000000 in
theorem dataGood_any (p : Pkt) (A : Option Addr) (l : List UInt8) (c : Nat) (w : World) (hl : l.length ≤ c) (hc : c ≤ 9223372036854775807) (hb : Bytes w A l) :
    Calls Try.prog 14 #[pv p A l.length c] w fun e w' => e = .returned (.bool true) ∧ Grow w w' := by
  go_enter Try.func14, Try.ntmps14
  go_wp2_with fail
  refine (cut10_any p A l c _ hl hc (hb.alloc _)).mono ?_
  rintro r w1 ⟨A1, c1, rfl, hown, hb1⟩
  have hlb := hown.bytes
  have hlc := hown.le
  have hlt1 := fun q h => hown.lt (q := q) h
  have hln : (l.take 1100).length ≤ 1100 := by rw [List.length_take]; omega
  have hlo : ∀ q, blk A1 = some q → q ∉ [w.heap.size] := fun q hq => by have := hown.base hq; simp at this; simp; omega
  clear hown hb
  generalize l.take 1100 = m at *
  obtain ⟨p0, hg1⟩ := peel1 hb1
  have p0_ := hide p0
  clear p0
  have p0 := p0_
  clear p0_
  have HG1 := hide (show Grow w w1 from hg1)
  have hsz1 : w.heap.size ≤ w1.heap.size := HG1.out.size
  have hq1 : w.heap.size ≤ w1.heap.size := hg1.size
  have HS1 := hide hg1
  clear hb1 hg1
  obtain ⟨cp0, fp0, lp0⟩ := (show Box w1 _ _ from p0.out).rules
  have HD := hide (fun W => datagood_any p A1 m.length c1 W (by omega))
  have HR := hide (fun W h => refdatagood_any p A1 m c1 W h)
  generalize dataB p m.length = b at *
  go_wp2_with fail
  clear cp0 fp0 lp0
  generalize hW2 : (World.setCell (World.setCell (World.setCell (World.setCell (World.setCell (World.setCell (World.setCell (World.setCell (World.setCell (World.setCell (World.setCell (World.setCell w1 _ _) _ _) _ _) _ _) _ _) _ _) _ _) _ _) _ _) _ _) _ _) _ _) = w2
  have np0 := Box.store12 (show Box w1 _ _ from p0.out) hW2
  have hb2 := Kept.store12 hW2
  clear hW2 p0
  have hg2 := hb2
  have hlb := hlb.kept hg2 hlo
  have HG2 := hide (Kept.fresh1 hg2 (show Grow w w1 from HG1.out) (by omega))
  clear HG1
  have hsz2 : w.heap.size ≤ w2.heap.size := HG2.out.size
  have hq2 : w1.heap.size ≤ w2.heap.size := hg2.size
  have HS2 := hide hg2
  clear hb2 hg2
  have p0 := hide np0
  clear np0
  obtain ⟨cp0, fp0, lp0⟩ := (show Box w2 _ _ from p0.out).rules
  have Rp0 := fun (W : World) (h : Grow w2.drew W) => ((show Box w2 _ _ from p0.out).grow (Grow.of_drew h)).cell
  have Fp0 := fun (W : World) (h : Grow w2.drew W) => ((show Box w2 _ _ from p0.out).grow (Grow.of_drew h)).fz
  refine wpR_region (Grow) [] (by kernel_rfl) ?_
  refine wpR_take grow_rf grow_tr 0 rfl (by kernel_rfl) (fun _ _ _ h => h) rfl (v := ?_) ?_ ?_
  rotate_left
  · (intro w' hG; go_simp; try with_reducible rfl)
  try simp only [Act.put, List.setIfInBounds_toArray, List.set_cons_zero, List.set_cons_succ]
  refine wpR_take grow_rf grow_tr 2 rfl (by kernel_rfl) (fun _ _ _ h => h) rfl (v := ?_) ?_ ?_
  rotate_left
  · (intro w' hG; go_simp; try with_reducible rfl)
  try simp only [Act.put, List.setIfInBounds_toArray, List.set_cons_zero, List.set_cons_succ]
  refine wpR_call 1 rfl (by kernel_rfl) rfl fun K hK => ?_
  go_simp
  refine (HD.out _).mono ?_
  rintro r w3 ⟨rfl, hb3⟩
  refine hK.out _ _ (.inr (hb3)) ?_
  clear hK
  try simp only [Act.put, List.setIfInBounds_toArray, List.set_cons_zero, List.set_cons_succ]
  clear Rp0 Fp0
  have hb3 := Grow.of_drew hb3
  clear cp0 fp0 lp0
  have hg3 := hb3
  have p0_ := hide ((show Box w2 _ _ from p0.out).grow hg3)
  clear p0
  have p0 := p0_
  clear p0_
  have hlb := hlb.grow hg3
  have HG3 := hide (Grow.trans (show Grow w w2 from HG2.out) hg3)
  clear HG2
  have hsz3 : w.heap.size ≤ w3.heap.size := HG3.out.size
  have hq3 : w2.heap.size ≤ w3.heap.size := hg3.size
  have HS3 := hide hg3
  clear hb3 hg3
  obtain ⟨cp0, fp0, lp0⟩ := (show Box w3 _ _ from p0.out).rules
  have Rp0 := fun (W : World) (h : Grow w3 W) => ((show Box w3 _ _ from p0.out).grow h).cell
  have Fp0 := fun (W : World) (h : Grow w3 W) => ((show Box w3 _ _ from p0.out).grow h).fz
  refine wpR_call 3 rfl (by kernel_rfl) rfl fun K hK => ?_
  go_simp
  refine (HR.out _ hlb).mono ?_
  rintro r w4 ⟨rfl, hb4⟩
  refine hK.out _ _ (.inr (hb4)) ?_
  clear hK
  try simp only [Act.put, List.setIfInBounds_toArray, List.set_cons_zero, List.set_cons_succ]
  clear Rp0 Fp0
  clear cp0 fp0 lp0
  have hg4 := hb4
  have p0_ := hide ((show Box w3 _ _ from p0.out).grow hg4)
  clear p0
  have p0 := p0_
  clear p0_
  have hlb := hlb.grow hg4
  have HG4 := hide (Grow.trans (show Grow w w3 from HG3.out) hg4)
  clear HG3
  have hsz4 : w.heap.size ≤ w4.heap.size := HG4.out.size
  have hq4 : w3.heap.size ≤ w4.heap.size := hg4.size
  have HS4 := hide hg4
  clear hb4 hg4
  obtain ⟨cp0, fp0, lp0⟩ := (show Box w4 _ _ from p0.out).rules
  have Rp0 := fun (W : World) (h : Grow w4 W) => ((show Box w4 _ _ from p0.out).grow h).cell
  have Fp0 := fun (W : World) (h : Grow w4 W) => ((show Box w4 _ _ from p0.out).grow h).fz
  refine wpR_take grow_rf grow_tr 4 rfl (by kernel_rfl) (fun _ _ _ h => h) rfl (v := ?_) ?_ ?_
  rotate_left
  · (intro w' hG; go_simp; try with_reducible rfl)
  try simp only [Act.put, List.setIfInBounds_toArray, List.set_cons_zero, List.set_cons_succ]
  refine wpR_take grow_rf grow_tr 5 rfl (by kernel_rfl) (fun _ _ _ h => h) rfl (v := ?_) ?_ ?_
  rotate_left
  · (intro w' hG; go_simp; try with_reducible rfl)
  try simp only [Act.put, List.setIfInBounds_toArray, List.set_cons_zero, List.set_cons_succ]
  refine wpR_call 6 rfl (by kernel_rfl) rfl fun K hK => ?_
  go_simp
  refine (works10_any _).mono ?_
  rintro r w5 ⟨rfl, hb5⟩
  refine hK.out _ _ (.inr (hb5)) ?_
  clear hK
  try simp only [Act.put, List.setIfInBounds_toArray, List.set_cons_zero, List.set_cons_succ]
  clear Rp0 Fp0
  clear cp0 fp0 lp0
  have hg5 := hb5
  have p0_ := hide ((show Box w4 _ _ from p0.out).grow hg5)
  clear p0
  have p0 := p0_
  clear p0_
  have hlb := hlb.grow hg5
  have HG5 := hide (Grow.trans (show Grow w w4 from HG4.out) hg5)
  clear HG4
  have hsz5 : w.heap.size ≤ w5.heap.size := HG5.out.size
  have hq5 : w4.heap.size ≤ w5.heap.size := hg5.size
  have HS5 := hide hg5
  clear hb5 hg5
  obtain ⟨cp0, fp0, lp0⟩ := (show Box w5 _ _ from p0.out).rules
  have Rp0 := fun (W : World) (h : Grow w5 W) => ((show Box w5 _ _ from p0.out).grow h).cell
  have Fp0 := fun (W : World) (h : Grow w5 W) => ((show Box w5 _ _ from p0.out).grow h).fz
  refine wpR_take grow_rf grow_tr 7 rfl (by kernel_rfl) (fun _ _ _ h => h) rfl (v := ?_) ?_ ?_
  rotate_left
  · (intro w' hG; go_simp; try with_reducible rfl)
  try simp only [Act.put, List.setIfInBounds_toArray, List.set_cons_zero, List.set_cons_succ]
  refine wpR_take grow_rf grow_tr 8 rfl (by kernel_rfl) (fun _ _ _ h => h) rfl (v := ?_) ?_ ?_
  rotate_left
  · (intro w' hG; go_simp; try with_reducible rfl)
  try simp only [Act.put, List.setIfInBounds_toArray, List.set_cons_zero, List.set_cons_succ]
  refine wpR_done (by kernel_rfl) ?_ _
  clear Rp0 Fp0
  go_wp2
  go_ret
  exact ⟨rfl, HG5.out⟩
set_option maxRecDepth 100000 in
set_option maxHeartbeats 2000000 in
theorem dataEntry_bad (p : Pkt) (A : Option Addr) (l : List UInt8) (c : Nat) (d : Int) (w : World) (hl : l.length ≤ c) (hc : c ≤ 9223372036854775807) (hb : Bytes w A l) (h : dataB p (l.take 1100).length = false) :
    Calls Try.prog 15 #[pv p A l.length c, .int .i64 d] w fun e w' => e = .returned (.bool true) ∧ Grow w w' := by
  go_enter Try.func15, Try.ntmps15
  go_wp2_with fail
  refine (cut10_any p A l c _ hl hc (hb.alloc _)).mono ?_
  rintro r w1 ⟨A1, c1, rfl, hown, hb1⟩
  have hlb := hown.bytes
  have hlc := hown.le
  have hlt1 := fun q h => hown.lt (q := q) h
  have hln : (l.take 1100).length ≤ 1100 := by rw [List.length_take]; omega
  have hlo : ∀ q, blk A1 = some q → q ∉ [w.heap.size] := fun q hq => by have := hown.base hq; simp at this; simp; omega
  clear hown hb
  generalize l.take 1100 = m at *
  obtain ⟨p0, hg1⟩ := peel1 hb1
  have p0_ := hide p0
  clear p0
  have p0 := p0_
  clear p0_
  have HG1 := hide (show Grow w w1 from hg1)
  have hsz1 : w.heap.size ≤ w1.heap.size := HG1.out.size
  have hq1 : w.heap.size ≤ w1.heap.size := hg1.size
  have HS1 := hide hg1
  clear hb1 hg1
  obtain ⟨cp0, fp0, lp0⟩ := (show Box w1 _ _ from p0.out).rules
  have HE := hide (fun W => entry_bad p A1 m c1 d W (by omega) (.inl h))
  have HR := hide (fun W h => refdatagood_any p A1 m c1 W h)
  rw [h] at HR
  clear h
  go_wp2_with fail
  clear cp0 fp0 lp0
  generalize hW2 : (World.setCell (World.setCell (World.setCell (World.setCell (World.setCell (World.setCell (World.setCell (World.setCell (World.setCell (World.setCell (World.setCell (World.setCell w1 _ _) _ _) _ _) _ _) _ _) _ _) _ _) _ _) _ _) _ _) _ _) _ _) = w2
  have np0 := Box.store12 (show Box w1 _ _ from p0.out) hW2
  have hb2 := Kept.store12 hW2
  clear hW2 p0
  have hg2 := hb2
  have hlb := hlb.kept hg2 hlo
  have HG2 := hide (Kept.fresh1 hg2 (show Grow w w1 from HG1.out) (by omega))
  clear HG1
  have hsz2 : w.heap.size ≤ w2.heap.size := HG2.out.size
  have hq2 : w1.heap.size ≤ w2.heap.size := hg2.size
  have HS2 := hide hg2
  clear hb2 hg2
  have p0 := hide np0
  clear np0
  obtain ⟨cp0, fp0, lp0⟩ := (show Box w2 _ _ from p0.out).rules
  go_wp2_with fail
  refine (HE.out _).mono ?_
  rintro r w3 ⟨rfl, hb3⟩
  clear cp0 fp0 lp0
  have hg3 := hb3
  have p0_ := hide ((show Box w2 _ _ from p0.out).grow hg3)
  clear p0
  have p0 := p0_
  clear p0_
  have hlb := hlb.grow hg3
  have HG3 := hide (Grow.trans (show Grow w w2 from HG2.out) hg3)
  clear HG2
  have hsz3 : w.heap.size ≤ w3.heap.size := HG3.out.size
  have hq3 : w2.heap.size ≤ w3.heap.size := hg3.size
  have HS3 := hide hg3
  clear hb3 hg3
  obtain ⟨cp0, fp0, lp0⟩ := (show Box w3 _ _ from p0.out).rules
  go_wp2_with fail
  refine (HR.out _ (hlb.alloc _)).mono ?_
  rintro r w4 ⟨rfl, hb4⟩
  clear cp0 fp0 lp0
  obtain ⟨x0, hg4⟩ := peel1 hb4
  have p0_ := hide ((show Box w3 _ _ from p0.out).grow hg4)
  clear p0
  have p0 := p0_
  clear p0_
  have x0_ := hide x0
  clear x0
  have x0 := x0_
  clear x0_
  have hlb := hlb.grow hg4
  have HG4 := hide (Grow.trans (show Grow w w3 from HG3.out) hg4)
  clear HG3
  have hsz4 : w.heap.size ≤ w4.heap.size := HG4.out.size
  have hq4 : w3.heap.size ≤ w4.heap.size := hg4.size
  have HS4 := hide hg4
  clear hb4 hg4
  obtain ⟨cp0, fp0, lp0⟩ := (show Box w4 _ _ from p0.out).rules
  obtain ⟨cx0, fx0, lx0⟩ := (show Box w4 _ _ from x0.out).rules
  have hk := fun W => run_eqKey noP noP W
  rw [show keyEq noP noP = true from rfl] at hk
  go_wp2_with fail
  refine (works10_any _).mono ?_
  rintro r w5 ⟨rfl, hb5⟩
  clear cp0 fp0 lp0 cx0 fx0 lx0
  have hg5 := hb5
  have p0_ := hide ((show Box w4 _ _ from p0.out).grow hg5)
  clear p0
  have p0 := p0_
  clear p0_
  have x0_ := hide ((show Box w4 _ _ from x0.out).grow hg5)
  clear x0
  have x0 := x0_
  clear x0_
  have hlb := hlb.grow hg5
  have HG5 := hide (Grow.trans (show Grow w w4 from HG4.out) hg5)
  clear HG4
  have hsz5 : w.heap.size ≤ w5.heap.size := HG5.out.size
  have hq5 : w4.heap.size ≤ w5.heap.size := hg5.size
  have HS5 := hide hg5
  clear hb5 hg5
  obtain ⟨cp0, fp0, lp0⟩ := (show Box w5 _ _ from p0.out).rules
  obtain ⟨cx0, fx0, lx0⟩ := (show Box w5 _ _ from x0.out).rules
  go_wp2
  go_ret
  exact ⟨rfl, HG5.out⟩
set_option maxRecDepth 100000 in
set_option maxHeartbeats 2000000 in
theorem dataEntry_neg (p : Pkt) (A : Option Addr) (l : List UInt8) (c : Nat) (d : Int) (w : World) (hl : l.length ≤ c) (hc : c ≤ 9223372036854775807) (hb : Bytes w A l) (h : dataB p (l.take 1100).length = true) (hd : d < 0) :
    Calls Try.prog 15 #[pv p A l.length c, .int .i64 d] w fun e w' => e = .returned (.bool true) ∧ Grow w w' := by
  go_enter Try.func15, Try.ntmps15
  go_wp2_with fail
  refine (cut10_any p A l c _ hl hc (hb.alloc _)).mono ?_
  rintro r w1 ⟨A1, c1, rfl, hown, hb1⟩
  have hlb := hown.bytes
  have hlc := hown.le
  have hlt1 := fun q h => hown.lt (q := q) h
  have hln : (l.take 1100).length ≤ 1100 := by rw [List.length_take]; omega
  have hlo : ∀ q, blk A1 = some q → q ∉ [w.heap.size] := fun q hq => by have := hown.base hq; simp at this; simp; omega
  clear hown hb
  generalize l.take 1100 = m at *
  obtain ⟨p0, hg1⟩ := peel1 hb1
  have p0_ := hide p0
  clear p0
  have p0 := p0_
  clear p0_
  have HG1 := hide (show Grow w w1 from hg1)
  have hsz1 : w.heap.size ≤ w1.heap.size := HG1.out.size
  have hq1 : w.heap.size ≤ w1.heap.size := hg1.size
  have HS1 := hide hg1
  clear hb1 hg1
  obtain ⟨cp0, fp0, lp0⟩ := (show Box w1 _ _ from p0.out).rules
  have HE := hide (fun W => entry_bad p A1 m c1 d W (by omega) (.inr hd))
  have HR := hide (fun W h => refdatagood_any p A1 m c1 W h)
  rw [h] at HR
  clear h
  go_wp2_with fail
  clear cp0 fp0 lp0
  generalize hW2 : (World.setCell (World.setCell (World.setCell (World.setCell (World.setCell (World.setCell (World.setCell (World.setCell (World.setCell (World.setCell (World.setCell (World.setCell w1 _ _) _ _) _ _) _ _) _ _) _ _) _ _) _ _) _ _) _ _) _ _) _ _) = w2
  have np0 := Box.store12 (show Box w1 _ _ from p0.out) hW2
  have hb2 := Kept.store12 hW2
  clear hW2 p0
  have hg2 := hb2
  have hlb := hlb.kept hg2 hlo
  have HG2 := hide (Kept.fresh1 hg2 (show Grow w w1 from HG1.out) (by omega))
  clear HG1
  have hsz2 : w.heap.size ≤ w2.heap.size := HG2.out.size
  have hq2 : w1.heap.size ≤ w2.heap.size := hg2.size
  have HS2 := hide hg2
  clear hb2 hg2
  have p0 := hide np0
  clear np0
  obtain ⟨cp0, fp0, lp0⟩ := (show Box w2 _ _ from p0.out).rules
  go_wp2_with fail
  refine (HE.out _).mono ?_
  rintro r w3 ⟨rfl, hb3⟩
  clear cp0 fp0 lp0
  have hg3 := hb3
  have p0_ := hide ((show Box w2 _ _ from p0.out).grow hg3)
  clear p0
  have p0 := p0_
  clear p0_
  have hlb := hlb.grow hg3
  have HG3 := hide (Grow.trans (show Grow w w2 from HG2.out) hg3)
  clear HG2
  have hsz3 : w.heap.size ≤ w3.heap.size := HG3.out.size
  have hq3 : w2.heap.size ≤ w3.heap.size := hg3.size
  have HS3 := hide hg3
  clear hb3 hg3
  obtain ⟨cp0, fp0, lp0⟩ := (show Box w3 _ _ from p0.out).rules
  go_wp2_with fail
  refine (HR.out _ (hlb.alloc _)).mono ?_
  rintro r w4 ⟨rfl, hb4⟩
  clear cp0 fp0 lp0
  obtain ⟨x0, hg4⟩ := peel1 hb4
  have p0_ := hide ((show Box w3 _ _ from p0.out).grow hg4)
  clear p0
  have p0 := p0_
  clear p0_
  have x0_ := hide x0
  clear x0
  have x0 := x0_
  clear x0_
  have hlb := hlb.grow hg4
  have HG4 := hide (Grow.trans (show Grow w w3 from HG3.out) hg4)
  clear HG3
  have hsz4 : w.heap.size ≤ w4.heap.size := HG4.out.size
  have hq4 : w3.heap.size ≤ w4.heap.size := hg4.size
  have HS4 := hide hg4
  clear hb4 hg4
  obtain ⟨cp0, fp0, lp0⟩ := (show Box w4 _ _ from p0.out).rules
  obtain ⟨cx0, fx0, lx0⟩ := (show Box w4 _ _ from x0.out).rules
  have hk := fun W => run_eqKey noP noP W
  rw [show keyEq noP noP = true from rfl] at hk
  go_wp2_with fail
  refine (works10_any _).mono ?_
  rintro r w5 ⟨rfl, hb5⟩
  clear cp0 fp0 lp0 cx0 fx0 lx0
  have hg5 := hb5
  have p0_ := hide ((show Box w4 _ _ from p0.out).grow hg5)
  clear p0
  have p0 := p0_
  clear p0_
  have x0_ := hide ((show Box w4 _ _ from x0.out).grow hg5)
  clear x0
  have x0 := x0_
  clear x0_
  have hlb := hlb.grow hg5
  have HG5 := hide (Grow.trans (show Grow w w4 from HG4.out) hg5)
  clear HG4
  have hsz5 : w.heap.size ≤ w5.heap.size := HG5.out.size
  have hq5 : w4.heap.size ≤ w5.heap.size := hg5.size
  have HS5 := hide hg5
  clear hb5 hg5
  obtain ⟨cp0, fp0, lp0⟩ := (show Box w5 _ _ from p0.out).rules
  obtain ⟨cx0, fx0, lx0⟩ := (show Box w5 _ _ from x0.out).rules
  go_wp2
  go_ret
  exact ⟨rfl, HG5.out⟩
set_option maxRecDepth 100000 in
set_option maxHeartbeats 2000000 in
theorem dataEntry_over (p : Pkt) (A : Option Addr) (l : List UInt8) (c : Nat) (d : Int) (w : World) (hl : l.length ≤ c) (hc : c ≤ 9223372036854775807) (hb : Bytes w A l) (h : dataB p (l.take 1100).length = true) (hd : 0 ≤ d) (h1 : 1152921504606846976 - p.t < d) :
    Calls Try.prog 15 #[pv p A l.length c, .int .i64 d] w fun e w' => e = .returned (.bool true) ∧ Grow w w' := by
  go_enter Try.func15, Try.ntmps15
  go_wp2_with fail
  refine (cut10_any p A l c _ hl hc (hb.alloc _)).mono ?_
  rintro r w1 ⟨A1, c1, rfl, hown, hb1⟩
  have hlb := hown.bytes
  have hlc := hown.le
  have hlt1 := fun q h => hown.lt (q := q) h
  have hln : (l.take 1100).length ≤ 1100 := by rw [List.length_take]; omega
  have hlo : ∀ q, blk A1 = some q → q ∉ [w.heap.size] := fun q hq => by have := hown.base hq; simp at this; simp; omega
  clear hown hb
  generalize l.take 1100 = m at *
  obtain ⟨p0, hg1⟩ := peel1 hb1
  have p0_ := hide p0
  clear p0
  have p0 := p0_
  clear p0_
  have HG1 := hide (show Grow w w1 from hg1)
  have hsz1 : w.heap.size ≤ w1.heap.size := HG1.out.size
  have hq1 : w.heap.size ≤ w1.heap.size := hg1.size
  have HS1 := hide hg1
  clear hb1 hg1
  obtain ⟨cp0, fp0, lp0⟩ := (show Box w1 _ _ from p0.out).rules
  obtain ⟨ht1, ht2⟩ := dataB_t p _ h
  have HE := hide (fun W => entry_over p A1 m c1 d W (by omega) h hd h1)
  have HR := hide (fun W h => refdatagood_any p A1 m c1 W h)
  rw [h] at HR
  clear h
  go_wp2_with fail
  clear cp0 fp0 lp0
  generalize hW2 : (World.setCell (World.setCell (World.setCell (World.setCell (World.setCell (World.setCell (World.setCell (World.setCell (World.setCell (World.setCell (World.setCell (World.setCell w1 _ _) _ _) _ _) _ _) _ _) _ _) _ _) _ _) _ _) _ _) _ _) _ _) = w2
  have np0 := Box.store12 (show Box w1 _ _ from p0.out) hW2
  have hb2 := Kept.store12 hW2
  clear hW2 p0
  have hg2 := hb2
  have hlb := hlb.kept hg2 hlo
  have HG2 := hide (Kept.fresh1 hg2 (show Grow w w1 from HG1.out) (by omega))
  clear HG1
  have hsz2 : w.heap.size ≤ w2.heap.size := HG2.out.size
  have hq2 : w1.heap.size ≤ w2.heap.size := hg2.size
  have HS2 := hide hg2
  clear hb2 hg2
  have p0 := hide np0
  clear np0
  obtain ⟨cp0, fp0, lp0⟩ := (show Box w2 _ _ from p0.out).rules
  go_wp2_with fail
  refine (HE.out _).mono ?_
  rintro r w3 ⟨rfl, hb3⟩
  clear cp0 fp0 lp0
  have hg3 := hb3
  have p0_ := hide ((show Box w2 _ _ from p0.out).grow hg3)
  clear p0
  have p0 := p0_
  clear p0_
  have hlb := hlb.grow hg3
  have HG3 := hide (Grow.trans (show Grow w w2 from HG2.out) hg3)
  clear HG2
  have hsz3 : w.heap.size ≤ w3.heap.size := HG3.out.size
  have hq3 : w2.heap.size ≤ w3.heap.size := hg3.size
  have HS3 := hide hg3
  clear hb3 hg3
  obtain ⟨cp0, fp0, lp0⟩ := (show Box w3 _ _ from p0.out).rules
  go_wp2_with fail
  refine (HR.out _ (hlb.alloc _)).mono ?_
  rintro r w4 ⟨rfl, hb4⟩
  clear cp0 fp0 lp0
  obtain ⟨x0, hg4⟩ := peel1 hb4
  have p0_ := hide ((show Box w3 _ _ from p0.out).grow hg4)
  clear p0
  have p0 := p0_
  clear p0_
  have x0_ := hide x0
  clear x0
  have x0 := x0_
  clear x0_
  have hlb := hlb.grow hg4
  have HG4 := hide (Grow.trans (show Grow w w3 from HG3.out) hg4)
  clear HG3
  have hsz4 : w.heap.size ≤ w4.heap.size := HG4.out.size
  have hq4 : w3.heap.size ≤ w4.heap.size := hg4.size
  have HS4 := hide hg4
  clear hb4 hg4
  obtain ⟨cp0, fp0, lp0⟩ := (show Box w4 _ _ from p0.out).rules
  obtain ⟨cx0, fx0, lx0⟩ := (show Box w4 _ _ from x0.out).rules
  have hk := fun W => run_eqKey noP noP W
  rw [show keyEq noP noP = true from rfl] at hk
  go_wp2_with fail
  refine (works10_any _).mono ?_
  rintro r w5 ⟨rfl, hb5⟩
  clear cp0 fp0 lp0 cx0 fx0 lx0
  have hg5 := hb5
  have p0_ := hide ((show Box w4 _ _ from p0.out).grow hg5)
  clear p0
  have p0 := p0_
  clear p0_
  have x0_ := hide ((show Box w4 _ _ from x0.out).grow hg5)
  clear x0
  have x0 := x0_
  clear x0_
  have hlb := hlb.grow hg5
  have HG5 := hide (Grow.trans (show Grow w w4 from HG4.out) hg5)
  clear HG4
  have hsz5 : w.heap.size ≤ w5.heap.size := HG5.out.size
  have hq5 : w4.heap.size ≤ w5.heap.size := hg5.size
  have HS5 := hide hg5
  clear hb5 hg5
  obtain ⟨cp0, fp0, lp0⟩ := (show Box w5 _ _ from p0.out).rules
  obtain ⟨cx0, fx0, lx0⟩ := (show Box w5 _ _ from x0.out).rules
  go_wp2
  go_ret
  exact ⟨rfl, HG5.out⟩
set_option maxRecDepth 100000 in
set_option maxHeartbeats 2000000 in
theorem dataEntry_ok (p : Pkt) (A : Option Addr) (l : List UInt8) (c : Nat) (d : Int) (w : World) (hl : l.length ≤ c) (hc : c ≤ 9223372036854775807) (hb : Bytes w A l) (h : dataB p (l.take 1100).length = true) (hd : 0 ≤ d) (h1 : d ≤ 1152921504606846976 - p.t) :
    Calls Try.prog 15 #[pv p A l.length c, .int .i64 d] w fun e w' => e = .returned (.bool true) ∧ Grow w w' := by
  go_enter Try.func15, Try.ntmps15
  go_wp2_with fail
  refine (cut10_any p A l c _ hl hc (hb.alloc _)).mono ?_
  rintro r w1 ⟨A1, c1, rfl, hown, hb1⟩
  have hlb := hown.bytes
  have hlc := hown.le
  have hlt1 := fun q h => hown.lt (q := q) h
  have hln : (l.take 1100).length ≤ 1100 := by rw [List.length_take]; omega
  have hlo : ∀ q, blk A1 = some q → q ∉ [w.heap.size] := fun q hq => by have := hown.base hq; simp at this; simp; omega
  clear hown hb
  generalize l.take 1100 = m at *
  obtain ⟨p0, hg1⟩ := peel1 hb1
  have p0_ := hide p0
  clear p0
  have p0 := p0_
  clear p0_
  have HG1 := hide (show Grow w w1 from hg1)
  have hsz1 : w.heap.size ≤ w1.heap.size := HG1.out.size
  have hq1 : w.heap.size ≤ w1.heap.size := hg1.size
  have HS1 := hide hg1
  clear hb1 hg1
  obtain ⟨cp0, fp0, lp0⟩ := (show Box w1 _ _ from p0.out).rules
  obtain ⟨ht1, ht2⟩ := dataB_t p _ h
  have HE := hide (fun W hl => entry_ok p A1 m c1 d W hl (by omega) h hd h1 hlc.1)
  have HR := hide (fun W h => refdatagood_any p A1 m c1 W h)
  rw [h] at HR
  clear h
  go_wp2_with fail
  clear cp0 fp0 lp0
  generalize hW2 : (World.setCell (World.setCell (World.setCell (World.setCell (World.setCell (World.setCell (World.setCell (World.setCell (World.setCell (World.setCell (World.setCell (World.setCell w1 _ _) _ _) _ _) _ _) _ _) _ _) _ _) _ _) _ _) _ _) _ _) _ _) = w2
  have np0 := Box.store12 (show Box w1 _ _ from p0.out) hW2
  have hb2 := Kept.store12 hW2
  clear hW2 p0
  have hg2 := hb2
  have hlb := hlb.kept hg2 hlo
  have HG2 := hide (Kept.fresh1 hg2 (show Grow w w1 from HG1.out) (by omega))
  clear HG1
  have hsz2 : w.heap.size ≤ w2.heap.size := HG2.out.size
  have hq2 : w1.heap.size ≤ w2.heap.size := hg2.size
  have HS2 := hide hg2
  clear hb2 hg2
  have p0 := hide np0
  clear np0
  obtain ⟨cp0, fp0, lp0⟩ := (show Box w2 _ _ from p0.out).rules
  go_wp2_with fail
  refine (HE.out _ hlb).mono ?_
  rintro r w3 ⟨⟨A3, c3, rfl, hown3⟩, hb3⟩
  have hl3 := hown3.bytes
  clear hown3
  clear cp0 fp0 lp0
  have hg3 := hb3
  have p0_ := hide ((show Box w2 _ _ from p0.out).grow hg3)
  clear p0
  have p0 := p0_
  clear p0_
  have hlb := hlb.grow hg3
  have HG3 := hide (Grow.trans (show Grow w w2 from HG2.out) hg3)
  clear HG2
  have hsz3 : w.heap.size ≤ w3.heap.size := HG3.out.size
  have hq3 : w2.heap.size ≤ w3.heap.size := hg3.size
  have HS3 := hide hg3
  clear hb3 hg3
  obtain ⟨cp0, fp0, lp0⟩ := (show Box w3 _ _ from p0.out).rules
  go_wp2_with fail
  refine (HR.out _ (hlb.alloc _)).mono ?_
  rintro r w4 ⟨rfl, hb4⟩
  clear cp0 fp0 lp0
  obtain ⟨x0, hg4⟩ := peel1 hb4
  have p0_ := hide ((show Box w3 _ _ from p0.out).grow hg4)
  clear p0
  have p0 := p0_
  clear p0_
  have x0_ := hide x0
  clear x0
  have x0 := x0_
  clear x0_
  have hlb := hlb.grow hg4
  have hl3 := hl3.grow hg4
  have HG4 := hide (Grow.trans (show Grow w w3 from HG3.out) hg4)
  clear HG3
  have hsz4 : w.heap.size ≤ w4.heap.size := HG4.out.size
  have hq4 : w3.heap.size ≤ w4.heap.size := hg4.size
  have HS4 := hide hg4
  clear hb4 hg4
  obtain ⟨cp0, fp0, lp0⟩ := (show Box w4 _ _ from p0.out).rules
  obtain ⟨cx0, fx0, lx0⟩ := (show Box w4 _ _ from x0.out).rules
  have hk := fun W => run_eqKey p p W
  rw [show keyEq p p = true by simp [keyEq]] at hk
  have hv1 := fun (W : World) (h : Grow w4 W) => conv_any c3 (hl3.grow h)
  have hv2 := fun (W : World) (h : Grow w4 W) => conv_any c1 (hlb.grow h)
  have hw := hide (show IntKind.i64.wrap (p.t + d) = p.t + d from IntWalk.i64_in _ (by omega))
  have grf := Grow.refl w4
  have hv1 := hv1 _ grf
  have hv2 := hv2 _ grf
  go_wp2_with fail
  refine (works10_any _).mono ?_
  rintro r w5 ⟨rfl, hb5⟩
  clear cp0 fp0 lp0 cx0 fx0 lx0
  have hg5 := hb5
  have p0_ := hide ((show Box w4 _ _ from p0.out).grow hg5)
  clear p0
  have p0 := p0_
  clear p0_
  have x0_ := hide ((show Box w4 _ _ from x0.out).grow hg5)
  clear x0
  have x0 := x0_
  clear x0_
  have hlb := hlb.grow hg5
  have hl3 := hl3.grow hg5
  have HG5 := hide (Grow.trans (show Grow w w4 from HG4.out) hg5)
  clear HG4
  have hsz5 : w.heap.size ≤ w5.heap.size := HG5.out.size
  have hq5 : w4.heap.size ≤ w5.heap.size := hg5.size
  have HS5 := hide hg5
  clear hb5 hg5
  obtain ⟨cp0, fp0, lp0⟩ := (show Box w5 _ _ from p0.out).rules
  obtain ⟨cx0, fx0, lx0⟩ := (show Box w5 _ _ from x0.out).rules
  go_wp2
  go_ret
  exact ⟨rfl, HG5.out⟩
theorem dataEntry_any (p : Pkt) (A : Option Addr) (l : List UInt8) (c : Nat) (d : Int) (w : World) (hl : l.length ≤ c) (hc : c ≤ 9223372036854775807) (hb : Bytes w A l) :
    Calls Try.prog 15 #[pv p A l.length c, .int .i64 d] w fun e w' => e = .returned (.bool true) ∧ Grow w w' := by
  cases h : dataB p (l.take 1100).length with
  | false => exact dataEntry_bad p A l c d w hl hc hb h
  | true =>
    by_cases hd : 0 ≤ d
    · by_cases h1 : d ≤ 1152921504606846976 - p.t
      · exact dataEntry_ok p A l c d w hl hc hb h hd h1
      · exact dataEntry_over p A l c d w hl hc hb h hd (by omega)
    · exact dataEntry_neg p A l c d w hl hc hb h (by omega)
end Go.Proofs.Ytldgnallbkpchaa
