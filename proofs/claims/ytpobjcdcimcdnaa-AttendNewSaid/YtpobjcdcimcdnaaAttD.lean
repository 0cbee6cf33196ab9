/- The walk of the statement AttendNew. -/
import Derived.Test.YtpobjcdcimcdnaaFewT
namespace Go.Proofs.Ytpobjcdcimcdnaa
open Go.RowKit
set_option maxRecDepth 100000 in
set_option maxHeartbeats 2000000 in
theorem attendNew_any (t f q no : Int) (p : Pkt) (A : Option Addr) (l : List UInt8) (c : Nat) (w : World) (hlb : Bytes w A l) :
    Calls Try.prog 11 #[kv t f q, .int .i64 no, pv p A l.length c] w fun e w' => e = .returned (.bool true) ∧ Grow w w' := by
  have HS := hide (fun W => same_self (attP t f q 1 no) W)
  have G1 := hide (fun W => attgood_any (attP t f q 1 no) none [] 0 W (Bytes.nil _ _))
  have R1 := hide (fun W => refattgood_any (attP t f q 1 no) none [] 0 W (Bytes.nil _ _))
  have G2 := hide (fun W h => attgood_any p A l c W h)
  have R2 := hide (fun W h => refattgood_any p A l c W h)
  generalize attB (attP t f q 1 no) [] = b1 at *
  generalize attB p l = b2 at *
  go_enter Try.func11, Try.ntmps11
  go_wp2_with fail
  generalize hW1 : World.alloc (World.alloc w _) _ = w1
  have hb1 := Grow.of_eq hW1
  clear hW1
  obtain ⟨k0, p0, hg1⟩ := peel2 hb1
  have k0_ := hide k0
  clear k0
  have k0 := k0_
  clear k0_
  have p0_ := hide p0
  clear p0
  have p0 := p0_
  clear p0_
  have hlb := hlb.grow hg1
  have HG1 := hide (show Grow w w1 from hg1)
  have hsz1 : w.heap.size ≤ w1.heap.size := HG1.out.size
  have hq1 : w.heap.size ≤ w1.heap.size := hg1.size
  have HS1 := hide hg1
  clear hb1 hg1
  obtain ⟨ck0, fk0, lk0⟩ := (show Box w1 _ _ from k0.out).rules
  obtain ⟨cp0, fp0, lp0⟩ := (show Box w1 _ _ from p0.out).rules
  have Rk0 := fun (W : World) (h : Grow w1.drew W) => ((show Box w1 _ _ from k0.out).grow (Grow.of_drew h)).cell
  have Fk0 := fun (W : World) (h : Grow w1.drew W) => ((show Box w1 _ _ from k0.out).grow (Grow.of_drew h)).fz
  have Rp0 := fun (W : World) (h : Grow w1.drew W) => ((show Box w1 _ _ from p0.out).grow (Grow.of_drew h)).cell
  have Fp0 := fun (W : World) (h : Grow w1.drew W) => ((show Box w1 _ _ from p0.out).grow (Grow.of_drew h)).fz
  refine wpR_region (Grow) [] (by kernel_rfl) ?_
  refine wpR_take grow_rf grow_tr 0 rfl (by kernel_rfl) (fun _ _ _ h => h) rfl (v := ?_) ?_ ?_
  rotate_left
  · (intro w' hG; go_simp; try with_reducible rfl)
  try simp only [Act.put, List.setIfInBounds_toArray, List.set_cons_zero, List.set_cons_succ]
  refine wpR_take grow_rf grow_tr 1 rfl (by kernel_rfl) (fun _ _ _ h => h) rfl (v := ?_) ?_ ?_
  rotate_left
  · (intro w' hG; go_simp; try with_reducible rfl)
  try simp only [Act.put, List.setIfInBounds_toArray, List.set_cons_zero, List.set_cons_succ]
  refine wpR_take grow_rf grow_tr 3 rfl (by kernel_rfl) (fun _ _ _ h => h) rfl (v := ?_) ?_ ?_
  rotate_left
  · (intro w' hG; go_simp; try with_reducible rfl)
  try simp only [Act.put, List.setIfInBounds_toArray, List.set_cons_zero, List.set_cons_succ]
  refine wpR_take grow_rf grow_tr 4 rfl (by kernel_rfl) (fun _ _ _ h => h) rfl (v := ?_) ?_ ?_
  rotate_left
  · (intro w' hG; go_simp; try with_reducible rfl)
  try simp only [Act.put, List.setIfInBounds_toArray, List.set_cons_zero, List.set_cons_succ]
  refine wpR_call 2 rfl (by kernel_rfl) rfl fun K hK => ?_
  go_simp
  refine (attnew_any t f q no _).mono ?_
  rintro r w2 ⟨rfl, hb2⟩
  refine hK.out _ _ (.inr (hb2)) ?_
  clear hK
  try simp only [Act.put, List.setIfInBounds_toArray, List.set_cons_zero, List.set_cons_succ]
  clear Rk0 Fk0 Rp0 Fp0
  have hb2 := Grow.of_drew hb2
  clear ck0 fk0 lk0 cp0 fp0 lp0
  have hg2 := hb2
  have k0_ := hide ((show Box w1 _ _ from k0.out).grow hg2)
  clear k0
  have k0 := k0_
  clear k0_
  have p0_ := hide ((show Box w1 _ _ from p0.out).grow hg2)
  clear p0
  have p0 := p0_
  clear p0_
  have hlb := hlb.grow hg2
  have HG2 := hide (Grow.trans (show Grow w w1 from HG1.out) hg2)
  clear HG1
  have hsz2 : w.heap.size ≤ w2.heap.size := HG2.out.size
  have hq2 : w1.heap.size ≤ w2.heap.size := hg2.size
  have HS2 := hide hg2
  clear hb2 hg2
  obtain ⟨ck0, fk0, lk0⟩ := (show Box w2 _ _ from k0.out).rules
  obtain ⟨cp0, fp0, lp0⟩ := (show Box w2 _ _ from p0.out).rules
  have Rk0 := fun (W : World) (h : Grow w2 W) => ((show Box w2 _ _ from k0.out).grow h).cell
  have Fk0 := fun (W : World) (h : Grow w2 W) => ((show Box w2 _ _ from k0.out).grow h).fz
  have Rp0 := fun (W : World) (h : Grow w2 W) => ((show Box w2 _ _ from p0.out).grow h).cell
  have Fp0 := fun (W : World) (h : Grow w2 W) => ((show Box w2 _ _ from p0.out).grow h).fz
  refine wpR_call 5 rfl (by kernel_rfl) rfl fun K hK => ?_
  go_simp
  refine (refattnew_any t f q no _).mono ?_
  rintro r w3 ⟨rfl, hb3⟩
  refine hK.out _ _ (.inr (hb3)) ?_
  clear hK
  try simp only [Act.put, List.setIfInBounds_toArray, List.set_cons_zero, List.set_cons_succ]
  clear Rk0 Fk0 Rp0 Fp0
  clear ck0 fk0 lk0 cp0 fp0 lp0
  have hg3 := hb3
  have k0_ := hide ((show Box w2 _ _ from k0.out).grow hg3)
  clear k0
  have k0 := k0_
  clear k0_
  have p0_ := hide ((show Box w2 _ _ from p0.out).grow hg3)
  clear p0
  have p0 := p0_
  clear p0_
  have hlb := hlb.grow hg3
  have HG3 := hide (Grow.trans (show Grow w w2 from HG2.out) hg3)
  clear HG2
  have hsz3 : w.heap.size ≤ w3.heap.size := HG3.out.size
  have hq3 : w2.heap.size ≤ w3.heap.size := hg3.size
  have HS3 := hide hg3
  clear hb3 hg3
  obtain ⟨ck0, fk0, lk0⟩ := (show Box w3 _ _ from k0.out).rules
  obtain ⟨cp0, fp0, lp0⟩ := (show Box w3 _ _ from p0.out).rules
  have Rk0 := fun (W : World) (h : Grow w3 W) => ((show Box w3 _ _ from k0.out).grow h).cell
  have Fk0 := fun (W : World) (h : Grow w3 W) => ((show Box w3 _ _ from k0.out).grow h).fz
  have Rp0 := fun (W : World) (h : Grow w3 W) => ((show Box w3 _ _ from p0.out).grow h).cell
  have Fp0 := fun (W : World) (h : Grow w3 W) => ((show Box w3 _ _ from p0.out).grow h).fz
  refine wpR_call 6 rfl (by kernel_rfl) rfl fun K hK => ?_
  go_simp
  refine (HS.out _).mono ?_
  rintro r w4 ⟨rfl, hb4⟩
  refine hK.out _ _ (.inr (hb4)) ?_
  clear hK
  try simp only [Act.put, List.setIfInBounds_toArray, List.set_cons_zero, List.set_cons_succ]
  clear Rk0 Fk0 Rp0 Fp0
  clear ck0 fk0 lk0 cp0 fp0 lp0
  have hg4 := hb4
  have k0_ := hide ((show Box w3 _ _ from k0.out).grow hg4)
  clear k0
  have k0 := k0_
  clear k0_
  have p0_ := hide ((show Box w3 _ _ from p0.out).grow hg4)
  clear p0
  have p0 := p0_
  clear p0_
  have hlb := hlb.grow hg4
  have HG4 := hide (Grow.trans (show Grow w w3 from HG3.out) hg4)
  clear HG3
  have hsz4 : w.heap.size ≤ w4.heap.size := HG4.out.size
  have hq4 : w3.heap.size ≤ w4.heap.size := hg4.size
  have HS4 := hide hg4
  clear hb4 hg4
  obtain ⟨ck0, fk0, lk0⟩ := (show Box w4 _ _ from k0.out).rules
  obtain ⟨cp0, fp0, lp0⟩ := (show Box w4 _ _ from p0.out).rules
  have Rk0 := fun (W : World) (h : Grow w4 W) => ((show Box w4 _ _ from k0.out).grow h).cell
  have Fk0 := fun (W : World) (h : Grow w4 W) => ((show Box w4 _ _ from k0.out).grow h).fz
  have Rp0 := fun (W : World) (h : Grow w4 W) => ((show Box w4 _ _ from p0.out).grow h).cell
  have Fp0 := fun (W : World) (h : Grow w4 W) => ((show Box w4 _ _ from p0.out).grow h).fz
  refine wpR_take grow_rf grow_tr 7 rfl (by kernel_rfl) (fun _ _ _ h => h) rfl (v := ?_) ?_ ?_
  rotate_left
  · (intro w' hG; go_simp; try with_reducible rfl)
  try simp only [Act.put, List.setIfInBounds_toArray, List.set_cons_zero, List.set_cons_succ]
  refine wpR_take grow_rf grow_tr 8 rfl (by kernel_rfl) (fun _ _ _ h => h) rfl (v := ?_) ?_ ?_
  rotate_left
  · (intro w' hG; go_simp; try with_reducible rfl)
  try simp only [Act.put, List.setIfInBounds_toArray, List.set_cons_zero, List.set_cons_succ]
  refine wpR_take grow_rf grow_tr 9 rfl (by kernel_rfl) (fun _ _ _ h => h) rfl (v := ?_) ?_ ?_
  rotate_left
  · (intro w' hG; go_simp; try with_reducible rfl)
  try simp only [Act.put, List.setIfInBounds_toArray, List.set_cons_zero, List.set_cons_succ]
  refine wpR_take grow_rf grow_tr 12 rfl (by kernel_rfl) (fun _ _ _ h => h) rfl (v := ?_) ?_ ?_
  rotate_left
  · (intro w' hG; go_simp; try with_reducible rfl)
  try simp only [Act.put, List.setIfInBounds_toArray, List.set_cons_zero, List.set_cons_succ]
  refine wpR_take grow_rf grow_tr 13 rfl (by kernel_rfl) (fun _ _ _ h => h) rfl (v := ?_) ?_ ?_
  rotate_left
  · (intro w' hG; go_simp; try with_reducible rfl)
  try simp only [Act.put, List.setIfInBounds_toArray, List.set_cons_zero, List.set_cons_succ]
  refine wpR_call 10 rfl (by kernel_rfl) rfl fun K hK => ?_
  go_simp
  refine (attnew_any t f q no _).mono ?_
  rintro r w5 ⟨rfl, hb5⟩
  refine hK.out _ _ (.inr (hb5)) ?_
  clear hK
  try simp only [Act.put, List.setIfInBounds_toArray, List.set_cons_zero, List.set_cons_succ]
  clear Rk0 Fk0 Rp0 Fp0
  clear ck0 fk0 lk0 cp0 fp0 lp0
  have hg5 := hb5
  have k0_ := hide ((show Box w4 _ _ from k0.out).grow hg5)
  clear k0
  have k0 := k0_
  clear k0_
  have p0_ := hide ((show Box w4 _ _ from p0.out).grow hg5)
  clear p0
  have p0 := p0_
  clear p0_
  have hlb := hlb.grow hg5
  have HG5 := hide (Grow.trans (show Grow w w4 from HG4.out) hg5)
  clear HG4
  have hsz5 : w.heap.size ≤ w5.heap.size := HG5.out.size
  have hq5 : w4.heap.size ≤ w5.heap.size := hg5.size
  have HS5 := hide hg5
  clear hb5 hg5
  obtain ⟨ck0, fk0, lk0⟩ := (show Box w5 _ _ from k0.out).rules
  obtain ⟨cp0, fp0, lp0⟩ := (show Box w5 _ _ from p0.out).rules
  have Rk0 := fun (W : World) (h : Grow w5 W) => ((show Box w5 _ _ from k0.out).grow h).cell
  have Fk0 := fun (W : World) (h : Grow w5 W) => ((show Box w5 _ _ from k0.out).grow h).fz
  have Rp0 := fun (W : World) (h : Grow w5 W) => ((show Box w5 _ _ from p0.out).grow h).cell
  have Fp0 := fun (W : World) (h : Grow w5 W) => ((show Box w5 _ _ from p0.out).grow h).fz
  refine wpR_call 11 rfl (by kernel_rfl) rfl fun K hK => ?_
  go_simp
  refine (G1.out _).mono ?_
  rintro r w6 ⟨rfl, hb6⟩
  refine hK.out _ _ (.inr (hb6)) ?_
  clear hK
  try simp only [Act.put, List.setIfInBounds_toArray, List.set_cons_zero, List.set_cons_succ]
  clear Rk0 Fk0 Rp0 Fp0
  clear ck0 fk0 lk0 cp0 fp0 lp0
  have hg6 := hb6
  have k0_ := hide ((show Box w5 _ _ from k0.out).grow hg6)
  clear k0
  have k0 := k0_
  clear k0_
  have p0_ := hide ((show Box w5 _ _ from p0.out).grow hg6)
  clear p0
  have p0 := p0_
  clear p0_
  have hlb := hlb.grow hg6
  have HG6 := hide (Grow.trans (show Grow w w5 from HG5.out) hg6)
  clear HG5
  have hsz6 : w.heap.size ≤ w6.heap.size := HG6.out.size
  have hq6 : w5.heap.size ≤ w6.heap.size := hg6.size
  have HS6 := hide hg6
  clear hb6 hg6
  obtain ⟨ck0, fk0, lk0⟩ := (show Box w6 _ _ from k0.out).rules
  obtain ⟨cp0, fp0, lp0⟩ := (show Box w6 _ _ from p0.out).rules
  have Rk0 := fun (W : World) (h : Grow w6 W) => ((show Box w6 _ _ from k0.out).grow h).cell
  have Fk0 := fun (W : World) (h : Grow w6 W) => ((show Box w6 _ _ from k0.out).grow h).fz
  have Rp0 := fun (W : World) (h : Grow w6 W) => ((show Box w6 _ _ from p0.out).grow h).cell
  have Fp0 := fun (W : World) (h : Grow w6 W) => ((show Box w6 _ _ from p0.out).grow h).fz
  refine wpR_call 14 rfl (by kernel_rfl) rfl fun K hK => ?_
  go_simp
  refine (refattnew_any t f q no _).mono ?_
  rintro r w7 ⟨rfl, hb7⟩
  refine hK.out _ _ (.inr (hb7)) ?_
  clear hK
  try simp only [Act.put, List.setIfInBounds_toArray, List.set_cons_zero, List.set_cons_succ]
  clear Rk0 Fk0 Rp0 Fp0
  clear ck0 fk0 lk0 cp0 fp0 lp0
  have hg7 := hb7
  have k0_ := hide ((show Box w6 _ _ from k0.out).grow hg7)
  clear k0
  have k0 := k0_
  clear k0_
  have p0_ := hide ((show Box w6 _ _ from p0.out).grow hg7)
  clear p0
  have p0 := p0_
  clear p0_
  have hlb := hlb.grow hg7
  have HG7 := hide (Grow.trans (show Grow w w6 from HG6.out) hg7)
  clear HG6
  have hsz7 : w.heap.size ≤ w7.heap.size := HG7.out.size
  have hq7 : w6.heap.size ≤ w7.heap.size := hg7.size
  have HS7 := hide hg7
  clear hb7 hg7
  obtain ⟨ck0, fk0, lk0⟩ := (show Box w7 _ _ from k0.out).rules
  obtain ⟨cp0, fp0, lp0⟩ := (show Box w7 _ _ from p0.out).rules
  have Rk0 := fun (W : World) (h : Grow w7 W) => ((show Box w7 _ _ from k0.out).grow h).cell
  have Fk0 := fun (W : World) (h : Grow w7 W) => ((show Box w7 _ _ from k0.out).grow h).fz
  have Rp0 := fun (W : World) (h : Grow w7 W) => ((show Box w7 _ _ from p0.out).grow h).cell
  have Fp0 := fun (W : World) (h : Grow w7 W) => ((show Box w7 _ _ from p0.out).grow h).fz
  refine wpR_call 15 rfl (by kernel_rfl) rfl fun K hK => ?_
  go_simp
  refine (R1.out _).mono ?_
  rintro r w8 ⟨rfl, hb8⟩
  refine hK.out _ _ (.inr (hb8)) ?_
  clear hK
  try simp only [Act.put, List.setIfInBounds_toArray, List.set_cons_zero, List.set_cons_succ]
  clear Rk0 Fk0 Rp0 Fp0
  clear ck0 fk0 lk0 cp0 fp0 lp0
  have hg8 := hb8
  have k0_ := hide ((show Box w7 _ _ from k0.out).grow hg8)
  clear k0
  have k0 := k0_
  clear k0_
  have p0_ := hide ((show Box w7 _ _ from p0.out).grow hg8)
  clear p0
  have p0 := p0_
  clear p0_
  have hlb := hlb.grow hg8
  have HG8 := hide (Grow.trans (show Grow w w7 from HG7.out) hg8)
  clear HG7
  have hsz8 : w.heap.size ≤ w8.heap.size := HG8.out.size
  have hq8 : w7.heap.size ≤ w8.heap.size := hg8.size
  have HS8 := hide hg8
  clear hb8 hg8
  obtain ⟨ck0, fk0, lk0⟩ := (show Box w8 _ _ from k0.out).rules
  obtain ⟨cp0, fp0, lp0⟩ := (show Box w8 _ _ from p0.out).rules
  have Rk0 := fun (W : World) (h : Grow w8 W) => ((show Box w8 _ _ from k0.out).grow h).cell
  have Fk0 := fun (W : World) (h : Grow w8 W) => ((show Box w8 _ _ from k0.out).grow h).fz
  have Rp0 := fun (W : World) (h : Grow w8 W) => ((show Box w8 _ _ from p0.out).grow h).cell
  have Fp0 := fun (W : World) (h : Grow w8 W) => ((show Box w8 _ _ from p0.out).grow h).fz
  refine wpR_take grow_rf grow_tr 16 rfl (by kernel_rfl) (fun _ _ _ h => h) rfl (v := ?_) ?_ ?_
  rotate_left
  · (intro w' hG; go_simp; try with_reducible rfl)
  try simp only [Act.put, List.setIfInBounds_toArray, List.set_cons_zero, List.set_cons_succ]
  refine wpR_take grow_rf grow_tr 17 rfl (by kernel_rfl) (fun _ _ _ h => h) rfl (v := ?_) ?_ ?_
  rotate_left
  · (intro w' hG; go_simp; try with_reducible rfl)
  try simp only [Act.put, List.setIfInBounds_toArray, List.set_cons_zero, List.set_cons_succ]
  refine wpR_take grow_rf grow_tr 18 rfl (by kernel_rfl) (fun _ _ _ h => h) rfl (v := ?_) ?_ ?_
  rotate_left
  · (intro w' hG; go_simp; try with_reducible rfl)
  try simp only [Act.put, List.setIfInBounds_toArray, List.set_cons_zero, List.set_cons_succ]
  refine wpR_take grow_rf grow_tr 19 rfl (by kernel_rfl) (fun _ _ _ h => h) rfl (v := ?_) ?_ ?_
  rotate_left
  · (intro w' hG; go_simp; try with_reducible rfl)
  try simp only [Act.put, List.setIfInBounds_toArray, List.set_cons_zero, List.set_cons_succ]
  refine wpR_take grow_rf grow_tr 21 rfl (by kernel_rfl) (fun _ _ _ h => h) rfl (v := ?_) ?_ ?_
  rotate_left
  · (intro w' hG; go_simp; try with_reducible rfl)
  try simp only [Act.put, List.setIfInBounds_toArray, List.set_cons_zero, List.set_cons_succ]
  refine wpR_call 20 rfl (by kernel_rfl) rfl fun K hK => ?_
  go_simp
  refine (G2.out _ hlb).mono ?_
  rintro r w9 ⟨rfl, hb9⟩
  refine hK.out _ _ (.inr (hb9)) ?_
  clear hK
  try simp only [Act.put, List.setIfInBounds_toArray, List.set_cons_zero, List.set_cons_succ]
  clear Rk0 Fk0 Rp0 Fp0
  clear ck0 fk0 lk0 cp0 fp0 lp0
  have hg9 := hb9
  have k0_ := hide ((show Box w8 _ _ from k0.out).grow hg9)
  clear k0
  have k0 := k0_
  clear k0_
  have p0_ := hide ((show Box w8 _ _ from p0.out).grow hg9)
  clear p0
  have p0 := p0_
  clear p0_
  have hlb := hlb.grow hg9
  have HG9 := hide (Grow.trans (show Grow w w8 from HG8.out) hg9)
  clear HG8
  have hsz9 : w.heap.size ≤ w9.heap.size := HG9.out.size
  have hq9 : w8.heap.size ≤ w9.heap.size := hg9.size
  have HS9 := hide hg9
  clear hb9 hg9
  obtain ⟨ck0, fk0, lk0⟩ := (show Box w9 _ _ from k0.out).rules
  obtain ⟨cp0, fp0, lp0⟩ := (show Box w9 _ _ from p0.out).rules
  have Rk0 := fun (W : World) (h : Grow w9 W) => ((show Box w9 _ _ from k0.out).grow h).cell
  have Fk0 := fun (W : World) (h : Grow w9 W) => ((show Box w9 _ _ from k0.out).grow h).fz
  have Rp0 := fun (W : World) (h : Grow w9 W) => ((show Box w9 _ _ from p0.out).grow h).cell
  have Fp0 := fun (W : World) (h : Grow w9 W) => ((show Box w9 _ _ from p0.out).grow h).fz
  refine wpR_call 22 rfl (by kernel_rfl) rfl fun K hK => ?_
  go_simp
  refine (R2.out _ hlb).mono ?_
  rintro r w10 ⟨rfl, hb10⟩
  refine hK.out _ _ (.inr (hb10)) ?_
  clear hK
  try simp only [Act.put, List.setIfInBounds_toArray, List.set_cons_zero, List.set_cons_succ]
  clear Rk0 Fk0 Rp0 Fp0
  clear ck0 fk0 lk0 cp0 fp0 lp0
  have hg10 := hb10
  have k0_ := hide ((show Box w9 _ _ from k0.out).grow hg10)
  clear k0
  have k0 := k0_
  clear k0_
  have p0_ := hide ((show Box w9 _ _ from p0.out).grow hg10)
  clear p0
  have p0 := p0_
  clear p0_
  have hlb := hlb.grow hg10
  have HG10 := hide (Grow.trans (show Grow w w9 from HG9.out) hg10)
  clear HG9
  have hsz10 : w.heap.size ≤ w10.heap.size := HG10.out.size
  have hq10 : w9.heap.size ≤ w10.heap.size := hg10.size
  have HS10 := hide hg10
  clear hb10 hg10
  obtain ⟨ck0, fk0, lk0⟩ := (show Box w10 _ _ from k0.out).rules
  obtain ⟨cp0, fp0, lp0⟩ := (show Box w10 _ _ from p0.out).rules
  have Rk0 := fun (W : World) (h : Grow w10 W) => ((show Box w10 _ _ from k0.out).grow h).cell
  have Fk0 := fun (W : World) (h : Grow w10 W) => ((show Box w10 _ _ from k0.out).grow h).fz
  have Rp0 := fun (W : World) (h : Grow w10 W) => ((show Box w10 _ _ from p0.out).grow h).cell
  have Fp0 := fun (W : World) (h : Grow w10 W) => ((show Box w10 _ _ from p0.out).grow h).fz
  refine wpR_take grow_rf grow_tr 23 rfl (by kernel_rfl) (fun _ _ _ h => h) rfl (v := ?_) ?_ ?_
  rotate_left
  · (intro w' hG; go_simp; try with_reducible rfl)
  try simp only [Act.put, List.setIfInBounds_toArray, List.set_cons_zero, List.set_cons_succ]
  refine wpR_take grow_rf grow_tr 24 rfl (by kernel_rfl) (fun _ _ _ h => h) rfl (v := ?_) ?_ ?_
  rotate_left
  · (intro w' hG; go_simp; try with_reducible rfl)
  try simp only [Act.put, List.setIfInBounds_toArray, List.set_cons_zero, List.set_cons_succ]
  refine wpR_take grow_rf grow_tr 25 rfl (by kernel_rfl) (fun _ _ _ h => h) rfl (v := ?_) ?_ ?_
  rotate_left
  · (intro w' hG; go_simp; try with_reducible rfl)
  try simp only [Act.put, List.setIfInBounds_toArray, List.set_cons_zero, List.set_cons_succ]
  refine wpR_call 26 rfl (by kernel_rfl) rfl fun K hK => ?_
  go_simp
  refine (works12_any _).mono ?_
  rintro r w11 ⟨rfl, hb11⟩
  refine hK.out _ _ (.inr (hb11)) ?_
  clear hK
  try simp only [Act.put, List.setIfInBounds_toArray, List.set_cons_zero, List.set_cons_succ]
  clear Rk0 Fk0 Rp0 Fp0
  clear ck0 fk0 lk0 cp0 fp0 lp0
  have hg11 := hb11
  have k0_ := hide ((show Box w10 _ _ from k0.out).grow hg11)
  clear k0
  have k0 := k0_
  clear k0_
  have p0_ := hide ((show Box w10 _ _ from p0.out).grow hg11)
  clear p0
  have p0 := p0_
  clear p0_
  have hlb := hlb.grow hg11
  have HG11 := hide (Grow.trans (show Grow w w10 from HG10.out) hg11)
  clear HG10
  have hsz11 : w.heap.size ≤ w11.heap.size := HG11.out.size
  have hq11 : w10.heap.size ≤ w11.heap.size := hg11.size
  have HS11 := hide hg11
  clear hb11 hg11
  obtain ⟨ck0, fk0, lk0⟩ := (show Box w11 _ _ from k0.out).rules
  obtain ⟨cp0, fp0, lp0⟩ := (show Box w11 _ _ from p0.out).rules
  have Rk0 := fun (W : World) (h : Grow w11 W) => ((show Box w11 _ _ from k0.out).grow h).cell
  have Fk0 := fun (W : World) (h : Grow w11 W) => ((show Box w11 _ _ from k0.out).grow h).fz
  have Rp0 := fun (W : World) (h : Grow w11 W) => ((show Box w11 _ _ from p0.out).grow h).cell
  have Fp0 := fun (W : World) (h : Grow w11 W) => ((show Box w11 _ _ from p0.out).grow h).fz
  refine wpR_take grow_rf grow_tr 27 rfl (by kernel_rfl) (fun _ _ _ h => h) rfl (v := ?_) ?_ ?_
  rotate_left
  · (intro w' hG; go_simp; try with_reducible rfl)
  try simp only [Act.put, List.setIfInBounds_toArray, List.set_cons_zero, List.set_cons_succ]
  refine wpR_take grow_rf grow_tr 28 rfl (by kernel_rfl) (fun _ _ _ h => h) rfl (v := ?_) ?_ ?_
  rotate_left
  · (intro w' hG; go_simp; try with_reducible rfl)
  try simp only [Act.put, List.setIfInBounds_toArray, List.set_cons_zero, List.set_cons_succ]
  refine wpR_done (by kernel_rfl) ?_ _
  clear Rk0 Fk0 Rp0 Fp0
  go_wp2
  go_ret
  exact ⟨rfl, HG11.out⟩
end Go.Proofs.Ytpobjcdcimcdnaa
