/- The walk of the statement ChunkGood. -/
import Derived.Test.YtpobjcdcimcdnaaChkH
namespace Go.Proofs.Ytpobjcdcimcdnaa
open Go.RowKit
set_option maxRecDepth 100000 in
set_option maxHeartbeats 16000000 in
theorem chunkGood_any (p q : Pkt) (A B : Option Addr) (l m : List UInt8) (c d : Nat) (w : World) (hl : l.length ≤ c) (hc : c ≤ 9223372036854775807) (hlb : Bytes w A l) (hm : m.length ≤ d) (hd : d ≤ 9223372036854775807) (hmb : Bytes w B m) :
    Calls Try.prog 14 #[pv p A l.length c, pv q B m.length d] w fun e w' => e = .returned (.bool true) ∧ Grow w w' := by
  have KP := hide (fun A c W => chunkgood_any p A (l.take 80).length c W (by rw [List.length_take]; omega))
  have RP := hide (fun A c W => refchunkgood_any p A (l.take 80).length c W (by rw [List.length_take]; omega))
  have RQ := hide (fun A c W => refchunkgood_any q A (m.take 80).length c W (by rw [List.length_take]; omega))
  have MP := hide (fun A B c d W => mate_any p q A B (l.take 80).length (m.take 80).length c d W (by rw [List.length_take]; omega) (by rw [List.length_take]; omega))
  generalize chunkB p (l.take 80).length = b1 at *
  generalize chunkB q (m.take 80).length = b2 at *
  go_enter Try.func14, Try.ntmps14
  go_wp2_with fail
  generalize hW1 : World.alloc (World.alloc w _) _ = w1
  have hb1 := Grow.of_eq hW1
  clear hW1
  obtain ⟨p0, q0, hg1⟩ := peel2 hb1
  have p0_ := hide p0
  clear p0
  have p0 := p0_
  clear p0_
  have q0_ := hide q0
  clear q0
  have q0 := q0_
  clear q0_
  have hlb := hlb.grow hg1
  have hmb := hmb.grow hg1
  have HG1 := hide (show Grow w w1 from hg1)
  have hsz1 : w.heap.size ≤ w1.heap.size := HG1.out.size
  have hq1 : w.heap.size ≤ w1.heap.size := hg1.size
  have HS1 := hide hg1
  clear hb1 hg1
  obtain ⟨cp0, fp0, lp0⟩ := (show Box w1 _ _ from p0.out).rules
  obtain ⟨cq0, fq0, lq0⟩ := (show Box w1 _ _ from q0.out).rules
  have Rp0 := fun (W : World) (h : Grow w1.drew W) => ((show Box w1 _ _ from p0.out).grow (Grow.of_drew h)).cell
  have Fp0 := fun (W : World) (h : Grow w1.drew W) => ((show Box w1 _ _ from p0.out).grow (Grow.of_drew h)).fz
  have Rq0 := fun (W : World) (h : Grow w1.drew W) => ((show Box w1 _ _ from q0.out).grow (Grow.of_drew h)).cell
  have Fq0 := fun (W : World) (h : Grow w1.drew W) => ((show Box w1 _ _ from q0.out).grow (Grow.of_drew h)).fz
  refine wpR_region (Grow) [4,5] (by kernel_rfl) ?_
  refine wpR_take grow_rf grow_tr 0 rfl (by kernel_rfl) (fun _ _ _ h => h) rfl (v := ?_) ?_ ?_
  rotate_left
  · (intro w' hG; go_simp; try with_reducible rfl)
  try simp only [Act.put, List.setIfInBounds_toArray, List.set_cons_zero, List.set_cons_succ]
  refine wpR_takeV [3, 4, 5] grow_rf grow_tr 2 rfl (by kernel_rfl) (fun _ _ _ h => h) rfl (v := ?_) ?_ ?_
  rotate_left
  · (intro w' hG; go_simp; try with_reducible rfl)
  try simp only [Act.put, List.setIfInBounds_toArray, List.set_cons_zero, List.set_cons_succ]
  refine wpR_call 1 rfl (by kernel_rfl) rfl fun K hK => ?_
  go_simp
  refine (cut13_any p A l c _ hl hc hlb.drew).mono ?_
  rintro r w2 ⟨A2, c2, rfl, hown2, hb2⟩
  clear hown2
  generalize (l.take 80).length = n1 at *
  refine hK.out _ _ (.inr (hb2)) ?_
  clear hK
  try simp only [Act.put, List.setIfInBounds_toArray, List.set_cons_zero, List.set_cons_succ]
  clear Rp0 Fp0 Rq0 Fq0
  have hb2 := Grow.of_drew hb2
  clear cp0 fp0 lp0 cq0 fq0 lq0
  have hg2 := hb2
  have p0_ := hide ((show Box w1 _ _ from p0.out).grow hg2)
  clear p0
  have p0 := p0_
  clear p0_
  have q0_ := hide ((show Box w1 _ _ from q0.out).grow hg2)
  clear q0
  have q0 := q0_
  clear q0_
  have hlb := hlb.grow hg2
  have hmb := hmb.grow hg2
  have HG2 := hide (Grow.trans (show Grow w w1 from HG1.out) hg2)
  clear HG1
  have hsz2 : w.heap.size ≤ w2.heap.size := HG2.out.size
  have hq2 : w1.heap.size ≤ w2.heap.size := hg2.size
  have HS2 := hide hg2
  clear hb2 hg2
  obtain ⟨cp0, fp0, lp0⟩ := (show Box w2 _ _ from p0.out).rules
  obtain ⟨cq0, fq0, lq0⟩ := (show Box w2 _ _ from q0.out).rules
  have Rp0 := fun (W : World) (h : Grow w2 W) => ((show Box w2 _ _ from p0.out).grow h).cell
  have Fp0 := fun (W : World) (h : Grow w2 W) => ((show Box w2 _ _ from p0.out).grow h).fz
  have Rq0 := fun (W : World) (h : Grow w2 W) => ((show Box w2 _ _ from q0.out).grow h).cell
  have Fq0 := fun (W : World) (h : Grow w2 W) => ((show Box w2 _ _ from q0.out).grow h).fz
  refine wpR_call 3 rfl (by kernel_rfl) rfl fun K hK => ?_
  go_simp
  refine (cut13_any q B m d _ hm hd hmb).mono ?_
  rintro r w3 ⟨A3, c3, rfl, hown3, hb3⟩
  clear hown3
  generalize (m.take 80).length = n2 at *
  refine hK.out _ _ (.inr (hb3)) ?_
  clear hK
  try simp only [Act.put, List.setIfInBounds_toArray, List.set_cons_zero, List.set_cons_succ]
  clear Rp0 Fp0 Rq0 Fq0
  clear cp0 fp0 lp0 cq0 fq0 lq0
  have hg3 := hb3
  have p0_ := hide ((show Box w2 _ _ from p0.out).grow hg3)
  clear p0
  have p0 := p0_
  clear p0_
  have q0_ := hide ((show Box w2 _ _ from q0.out).grow hg3)
  clear q0
  have q0 := q0_
  clear q0_
  have hlb := hlb.grow hg3
  have hmb := hmb.grow hg3
  have HG3 := hide (Grow.trans (show Grow w w2 from HG2.out) hg3)
  clear HG2
  have hsz3 : w.heap.size ≤ w3.heap.size := HG3.out.size
  have hq3 : w2.heap.size ≤ w3.heap.size := hg3.size
  have HS3 := hide hg3
  clear hb3 hg3
  obtain ⟨cp0, fp0, lp0⟩ := (show Box w3 _ _ from p0.out).rules
  obtain ⟨cq0, fq0, lq0⟩ := (show Box w3 _ _ from q0.out).rules
  have Rp0 := fun (W : World) (h : Grow w3 W) => ((show Box w3 _ _ from p0.out).grow h).cell
  have Fp0 := fun (W : World) (h : Grow w3 W) => ((show Box w3 _ _ from p0.out).grow h).fz
  have Rq0 := fun (W : World) (h : Grow w3 W) => ((show Box w3 _ _ from q0.out).grow h).cell
  have Fq0 := fun (W : World) (h : Grow w3 W) => ((show Box w3 _ _ from q0.out).grow h).fz
  refine wpR_call 4 rfl (by kernel_rfl) rfl fun K hK => ?_
  go_simp
  skip
  refine hK.out _ _ (.inl (by simp)) ?_
  clear hK
  try simp only [Act.put, List.setIfInBounds_toArray, List.set_cons_zero, List.set_cons_succ]
  refine wpR_call 5 rfl (by kernel_rfl) rfl fun K hK => ?_
  go_simp
  skip
  refine hK.out _ _ (.inl (by simp)) ?_
  clear hK
  try simp only [Act.put, List.setIfInBounds_toArray, List.set_cons_zero, List.set_cons_succ]
  refine wpR_done (by kernel_rfl) ?_ _
  clear Rp0 Fp0 Rq0 Fq0
  clear hlb hmb
  go_wp2_with fail
  clear cp0 fp0 lp0 cq0 fq0 lq0
  generalize hW4 : (World.setCell (World.setCell (World.setCell (World.setCell (World.setCell (World.setCell (World.setCell (World.setCell (World.setCell (World.setCell (World.setCell (World.setCell w3 _ _) _ _) _ _) _ _) _ _) _ _) _ _) _ _) _ _) _ _) _ _) _ _) = w4
  have np0 := Box.store12 (show Box w3 _ _ from p0.out) hW4
  have hb4 := Kept.store12 hW4
  clear hW4 p0
  have hg4 := hb4
  have q0_ := hide ((show Box w3 _ _ from q0.out).kept hg4 (by simp; try omega))
  clear q0
  have q0 := q0_
  clear q0_
  have HG4 := hide (Kept.fresh1 hg4 (show Grow w w3 from HG3.out) (by omega))
  clear HG3
  have hsz4 : w.heap.size ≤ w4.heap.size := HG4.out.size
  have hq4 : w3.heap.size ≤ w4.heap.size := hg4.size
  have HS4 := hide hg4
  clear hb4 hg4
  have p0 := hide np0
  clear np0
  obtain ⟨cq0, fq0, lq0⟩ := (show Box w4 _ _ from q0.out).rules
  obtain ⟨cp0, fp0, lp0⟩ := (show Box w4 _ _ from p0.out).rules
  clear cq0 fq0 lq0 cp0 fp0 lp0
  generalize hW5 : (World.setCell (World.setCell (World.setCell (World.setCell (World.setCell (World.setCell (World.setCell (World.setCell (World.setCell (World.setCell (World.setCell (World.setCell w4 _ _) _ _) _ _) _ _) _ _) _ _) _ _) _ _) _ _) _ _) _ _) _ _) = w5
  have nq0 := Box.store12 (show Box w4 _ _ from q0.out) hW5
  have hb5 := Kept.store12 hW5
  clear hW5 q0
  have hg5 := hb5
  have p0_ := hide ((show Box w4 _ _ from p0.out).kept hg5 (by simp; try omega))
  clear p0
  have p0 := p0_
  clear p0_
  have HG5 := hide (Kept.fresh1 hg5 (show Grow w w4 from HG4.out) (by omega))
  clear HG4
  have hsz5 : w.heap.size ≤ w5.heap.size := HG5.out.size
  have hq5 : w4.heap.size ≤ w5.heap.size := hg5.size
  have HS5 := hide hg5
  clear hb5 hg5
  have q0 := hide nq0
  clear nq0
  obtain ⟨cp0, fp0, lp0⟩ := (show Box w5 _ _ from p0.out).rules
  obtain ⟨cq0, fq0, lq0⟩ := (show Box w5 _ _ from q0.out).rules
  refine (RP.out _ _ _).mono ?_
  rintro r w6 ⟨rfl, hb6⟩
  clear cp0 fp0 lp0 cq0 fq0 lq0
  have hg6 := hb6
  have p0_ := hide ((show Box w5 _ _ from p0.out).grow hg6)
  clear p0
  have p0 := p0_
  clear p0_
  have q0_ := hide ((show Box w5 _ _ from q0.out).grow hg6)
  clear q0
  have q0 := q0_
  clear q0_
  have HG6 := hide (Grow.trans (show Grow w w5 from HG5.out) hg6)
  clear HG5
  have hsz6 : w.heap.size ≤ w6.heap.size := HG6.out.size
  have hq6 : w5.heap.size ≤ w6.heap.size := hg6.size
  have HS6 := hide hg6
  clear hb6 hg6
  obtain ⟨cp0, fp0, lp0⟩ := (show Box w6 _ _ from p0.out).rules
  obtain ⟨cq0, fq0, lq0⟩ := (show Box w6 _ _ from q0.out).rules
  cases b1 with
  | false =>
    simp only [Bool.false_and] at MP
    go_wp2_with fail
    have Rp0 := fun (W : World) (h : Grow w6.drew W) => ((show Box w6 _ _ from p0.out).grow (Grow.of_drew h)).cell
    have Fp0 := fun (W : World) (h : Grow w6.drew W) => ((show Box w6 _ _ from p0.out).grow (Grow.of_drew h)).fz
    have Rq0 := fun (W : World) (h : Grow w6.drew W) => ((show Box w6 _ _ from q0.out).grow (Grow.of_drew h)).cell
    have Fq0 := fun (W : World) (h : Grow w6.drew W) => ((show Box w6 _ _ from q0.out).grow (Grow.of_drew h)).fz
    refine wpR_region (Grow) [] (by kernel_rfl) ?_
    refine wpR_take grow_rf grow_tr 0 rfl (by kernel_rfl) (fun _ _ _ h => h) rfl (v := ?_) ?_ ?_
    rotate_left
    · (intro w' hG; go_simp; try with_reducible rfl)
    try simp only [Act.put, List.setIfInBounds_toArray, List.set_cons_zero, List.set_cons_succ]
    refine wpR_take grow_rf grow_tr 2 rfl (by kernel_rfl) (fun _ _ _ h => h) rfl (v := ?_) ?_ ?_
    rotate_left
    · (intro w' hG; go_simp; try with_reducible rfl)
    try simp only [Act.put, List.setIfInBounds_toArray, List.set_cons_zero, List.set_cons_succ]
    refine wpR_call 1 rfl (by kernel_rfl) rfl fun K hK => ?_
    go_simp
    refine (KP.out _ _ _).mono ?_
    rintro r w8 ⟨rfl, hb8⟩
    refine hK.out _ _ (.inr (hb8)) ?_
    clear hK
    try simp only [Act.put, List.setIfInBounds_toArray, List.set_cons_zero, List.set_cons_succ]
    clear Rp0 Fp0 Rq0 Fq0
    have hb8 := Grow.of_drew hb8
    clear cp0 fp0 lp0 cq0 fq0 lq0
    have hg8 := hb8
    have p0_ := hide ((show Box w6 _ _ from p0.out).grow hg8)
    clear p0
    have p0 := p0_
    clear p0_
    have q0_ := hide ((show Box w6 _ _ from q0.out).grow hg8)
    clear q0
    have q0 := q0_
    clear q0_
    have HG8 := hide (Grow.trans (show Grow w w6 from HG6.out) hg8)
    clear HG6
    have hsz8 : w.heap.size ≤ w8.heap.size := HG8.out.size
    have hq8 : w6.heap.size ≤ w8.heap.size := hg8.size
    have HS8 := hide hg8
    clear hb8 hg8
    obtain ⟨cp0, fp0, lp0⟩ := (show Box w8 _ _ from p0.out).rules
    obtain ⟨cq0, fq0, lq0⟩ := (show Box w8 _ _ from q0.out).rules
    have Rp0 := fun (W : World) (h : Grow w8 W) => ((show Box w8 _ _ from p0.out).grow h).cell
    have Fp0 := fun (W : World) (h : Grow w8 W) => ((show Box w8 _ _ from p0.out).grow h).fz
    have Rq0 := fun (W : World) (h : Grow w8 W) => ((show Box w8 _ _ from q0.out).grow h).cell
    have Fq0 := fun (W : World) (h : Grow w8 W) => ((show Box w8 _ _ from q0.out).grow h).fz
    refine wpR_call 3 rfl (by kernel_rfl) rfl fun K hK => ?_
    go_simp
    refine (RP.out _ _ _).mono ?_
    rintro r w9 ⟨rfl, hb9⟩
    refine hK.out _ _ (.inr (hb9)) ?_
    clear hK
    try simp only [Act.put, List.setIfInBounds_toArray, List.set_cons_zero, List.set_cons_succ]
    clear Rp0 Fp0 Rq0 Fq0
    clear cp0 fp0 lp0 cq0 fq0 lq0
    have hg9 := hb9
    have p0_ := hide ((show Box w8 _ _ from p0.out).grow hg9)
    clear p0
    have p0 := p0_
    clear p0_
    have q0_ := hide ((show Box w8 _ _ from q0.out).grow hg9)
    clear q0
    have q0 := q0_
    clear q0_
    have HG9 := hide (Grow.trans (show Grow w w8 from HG8.out) hg9)
    clear HG8
    have hsz9 : w.heap.size ≤ w9.heap.size := HG9.out.size
    have hq9 : w8.heap.size ≤ w9.heap.size := hg9.size
    have HS9 := hide hg9
    clear hb9 hg9
    obtain ⟨cp0, fp0, lp0⟩ := (show Box w9 _ _ from p0.out).rules
    obtain ⟨cq0, fq0, lq0⟩ := (show Box w9 _ _ from q0.out).rules
    have Rp0 := fun (W : World) (h : Grow w9 W) => ((show Box w9 _ _ from p0.out).grow h).cell
    have Fp0 := fun (W : World) (h : Grow w9 W) => ((show Box w9 _ _ from p0.out).grow h).fz
    have Rq0 := fun (W : World) (h : Grow w9 W) => ((show Box w9 _ _ from q0.out).grow h).cell
    have Fq0 := fun (W : World) (h : Grow w9 W) => ((show Box w9 _ _ from q0.out).grow h).fz
    refine wpR_take grow_rf grow_tr 4 rfl (by kernel_rfl) (fun _ _ _ h => h) rfl (v := ?_) ?_ ?_
    rotate_left
    · (intro w' hG; go_simp; try with_reducible rfl)
    try simp only [Act.put, List.setIfInBounds_toArray, List.set_cons_zero, List.set_cons_succ]
    refine wpR_take grow_rf grow_tr 5 rfl (by kernel_rfl) (fun _ _ _ h => h) rfl (v := ?_) ?_ ?_
    rotate_left
    · (intro w' hG; go_simp; try with_reducible rfl)
    try simp only [Act.put, List.setIfInBounds_toArray, List.set_cons_zero, List.set_cons_succ]
    refine wpR_take grow_rf grow_tr 6 rfl (by kernel_rfl) (fun _ _ _ h => h) rfl (v := ?_) ?_ ?_
    rotate_left
    · (intro w' hG; go_simp; try with_reducible rfl)
    try simp only [Act.put, List.setIfInBounds_toArray, List.set_cons_zero, List.set_cons_succ]
    refine wpR_take grow_rf grow_tr 7 rfl (by kernel_rfl) (fun _ _ _ h => h) rfl (v := ?_) ?_ ?_
    rotate_left
    · (intro w' hG; go_simp; try with_reducible rfl)
    try simp only [Act.put, List.setIfInBounds_toArray, List.set_cons_zero, List.set_cons_succ]
    refine wpR_take grow_rf grow_tr 9 rfl (by kernel_rfl) (fun _ _ _ h => h) rfl (v := ?_) ?_ ?_
    rotate_left
    · (intro w' hG; go_simp; try with_reducible rfl)
    try simp only [Act.put, List.setIfInBounds_toArray, List.set_cons_zero, List.set_cons_succ]
    refine wpR_call 8 rfl (by kernel_rfl) rfl fun K hK => ?_
    go_simp
    refine (MP.out _ _ _ _ _).mono ?_
    rintro r w10 ⟨rfl, hb10⟩
    refine hK.out _ _ (.inr (hb10)) ?_
    clear hK
    try simp only [Act.put, List.setIfInBounds_toArray, List.set_cons_zero, List.set_cons_succ]
    clear Rp0 Fp0 Rq0 Fq0
    clear cp0 fp0 lp0 cq0 fq0 lq0
    have hg10 := hb10
    have p0_ := hide ((show Box w9 _ _ from p0.out).grow hg10)
    clear p0
    have p0 := p0_
    clear p0_
    have q0_ := hide ((show Box w9 _ _ from q0.out).grow hg10)
    clear q0
    have q0 := q0_
    clear q0_
    have HG10 := hide (Grow.trans (show Grow w w9 from HG9.out) hg10)
    clear HG9
    have hsz10 : w.heap.size ≤ w10.heap.size := HG10.out.size
    have hq10 : w9.heap.size ≤ w10.heap.size := hg10.size
    have HS10 := hide hg10
    clear hb10 hg10
    obtain ⟨cp0, fp0, lp0⟩ := (show Box w10 _ _ from p0.out).rules
    obtain ⟨cq0, fq0, lq0⟩ := (show Box w10 _ _ from q0.out).rules
    have Rp0 := fun (W : World) (h : Grow w10 W) => ((show Box w10 _ _ from p0.out).grow h).cell
    have Fp0 := fun (W : World) (h : Grow w10 W) => ((show Box w10 _ _ from p0.out).grow h).fz
    have Rq0 := fun (W : World) (h : Grow w10 W) => ((show Box w10 _ _ from q0.out).grow h).cell
    have Fq0 := fun (W : World) (h : Grow w10 W) => ((show Box w10 _ _ from q0.out).grow h).fz
    refine wpR_take grow_rf grow_tr 10 rfl (by kernel_rfl) (fun _ _ _ h => h) rfl (v := ?_) ?_ ?_
    rotate_left
    · (intro w' hG; go_simp; try with_reducible rfl)
    try simp only [Act.put, List.setIfInBounds_toArray, List.set_cons_zero, List.set_cons_succ]
    refine wpR_take grow_rf grow_tr 11 rfl (by kernel_rfl) (fun _ _ _ h => h) rfl (v := ?_) ?_ ?_
    rotate_left
    · (intro w' hG; go_simp; try with_reducible rfl)
    try simp only [Act.put, List.setIfInBounds_toArray, List.set_cons_zero, List.set_cons_succ]
    refine wpR_take grow_rf grow_tr 12 rfl (by kernel_rfl) (fun _ _ _ h => h) rfl (v := ?_) ?_ ?_
    rotate_left
    · (intro w' hG; go_simp; try with_reducible rfl)
    try simp only [Act.put, List.setIfInBounds_toArray, List.set_cons_zero, List.set_cons_succ]
    refine wpR_call 13 rfl (by kernel_rfl) rfl fun K hK => ?_
    go_simp
    refine (works13_any _).mono ?_
    rintro r w11 ⟨rfl, hb11⟩
    refine hK.out _ _ (.inr (hb11)) ?_
    clear hK
    try simp only [Act.put, List.setIfInBounds_toArray, List.set_cons_zero, List.set_cons_succ]
    clear Rp0 Fp0 Rq0 Fq0
    clear cp0 fp0 lp0 cq0 fq0 lq0
    have hg11 := hb11
    have p0_ := hide ((show Box w10 _ _ from p0.out).grow hg11)
    clear p0
    have p0 := p0_
    clear p0_
    have q0_ := hide ((show Box w10 _ _ from q0.out).grow hg11)
    clear q0
    have q0 := q0_
    clear q0_
    have HG11 := hide (Grow.trans (show Grow w w10 from HG10.out) hg11)
    clear HG10
    have hsz11 : w.heap.size ≤ w11.heap.size := HG11.out.size
    have hq11 : w10.heap.size ≤ w11.heap.size := hg11.size
    have HS11 := hide hg11
    clear hb11 hg11
    obtain ⟨cp0, fp0, lp0⟩ := (show Box w11 _ _ from p0.out).rules
    obtain ⟨cq0, fq0, lq0⟩ := (show Box w11 _ _ from q0.out).rules
    have Rp0 := fun (W : World) (h : Grow w11 W) => ((show Box w11 _ _ from p0.out).grow h).cell
    have Fp0 := fun (W : World) (h : Grow w11 W) => ((show Box w11 _ _ from p0.out).grow h).fz
    have Rq0 := fun (W : World) (h : Grow w11 W) => ((show Box w11 _ _ from q0.out).grow h).cell
    have Fq0 := fun (W : World) (h : Grow w11 W) => ((show Box w11 _ _ from q0.out).grow h).fz
    refine wpR_take grow_rf grow_tr 14 rfl (by kernel_rfl) (fun _ _ _ h => h) rfl (v := ?_) ?_ ?_
    rotate_left
    · (intro w' hG; go_simp; try with_reducible rfl)
    try simp only [Act.put, List.setIfInBounds_toArray, List.set_cons_zero, List.set_cons_succ]
    refine wpR_take grow_rf grow_tr 15 rfl (by kernel_rfl) (fun _ _ _ h => h) rfl (v := ?_) ?_ ?_
    rotate_left
    · (intro w' hG; go_simp; try with_reducible rfl)
    try simp only [Act.put, List.setIfInBounds_toArray, List.set_cons_zero, List.set_cons_succ]
    refine wpR_done (by kernel_rfl) ?_ _
    clear Rp0 Fp0 Rq0 Fq0
    go_wp2
    go_ret
    exact ⟨rfl, HG11.out⟩
  | true =>
    go_wp2_with fail
    refine (RQ.out _ _ _).mono ?_
    rintro r w7 ⟨rfl, hb7⟩
    clear cp0 fp0 lp0 cq0 fq0 lq0
    have hg7 := hb7
    have p0_ := hide ((show Box w6 _ _ from p0.out).grow hg7)
    clear p0
    have p0 := p0_
    clear p0_
    have q0_ := hide ((show Box w6 _ _ from q0.out).grow hg7)
    clear q0
    have q0 := q0_
    clear q0_
    have HG7 := hide (Grow.trans (show Grow w w6 from HG6.out) hg7)
    clear HG6
    have hsz7 : w.heap.size ≤ w7.heap.size := HG7.out.size
    have hq7 : w6.heap.size ≤ w7.heap.size := hg7.size
    have HS7 := hide hg7
    clear hb7 hg7
    obtain ⟨cp0, fp0, lp0⟩ := (show Box w7 _ _ from p0.out).rules
    obtain ⟨cq0, fq0, lq0⟩ := (show Box w7 _ _ from q0.out).rules
    simp only [Bool.true_and] at MP
    cases b2 with
    | false =>
      simp only [Bool.false_and] at MP
      go_wp2_with fail
      have Rp0 := fun (W : World) (h : Grow w7.drew W) => ((show Box w7 _ _ from p0.out).grow (Grow.of_drew h)).cell
      have Fp0 := fun (W : World) (h : Grow w7.drew W) => ((show Box w7 _ _ from p0.out).grow (Grow.of_drew h)).fz
      have Rq0 := fun (W : World) (h : Grow w7.drew W) => ((show Box w7 _ _ from q0.out).grow (Grow.of_drew h)).cell
      have Fq0 := fun (W : World) (h : Grow w7.drew W) => ((show Box w7 _ _ from q0.out).grow (Grow.of_drew h)).fz
      refine wpR_region (Grow) [] (by kernel_rfl) ?_
      refine wpR_take grow_rf grow_tr 0 rfl (by kernel_rfl) (fun _ _ _ h => h) rfl (v := ?_) ?_ ?_
      rotate_left
      · (intro w' hG; go_simp; try with_reducible rfl)
      try simp only [Act.put, List.setIfInBounds_toArray, List.set_cons_zero, List.set_cons_succ]
      refine wpR_take grow_rf grow_tr 2 rfl (by kernel_rfl) (fun _ _ _ h => h) rfl (v := ?_) ?_ ?_
      rotate_left
      · (intro w' hG; go_simp; try with_reducible rfl)
      try simp only [Act.put, List.setIfInBounds_toArray, List.set_cons_zero, List.set_cons_succ]
      refine wpR_call 1 rfl (by kernel_rfl) rfl fun K hK => ?_
      go_simp
      refine (KP.out _ _ _).mono ?_
      rintro r w8 ⟨rfl, hb8⟩
      refine hK.out _ _ (.inr (hb8)) ?_
      clear hK
      try simp only [Act.put, List.setIfInBounds_toArray, List.set_cons_zero, List.set_cons_succ]
      clear Rp0 Fp0 Rq0 Fq0
      have hb8 := Grow.of_drew hb8
      clear cp0 fp0 lp0 cq0 fq0 lq0
      have hg8 := hb8
      have p0_ := hide ((show Box w7 _ _ from p0.out).grow hg8)
      clear p0
      have p0 := p0_
      clear p0_
      have q0_ := hide ((show Box w7 _ _ from q0.out).grow hg8)
      clear q0
      have q0 := q0_
      clear q0_
      have HG8 := hide (Grow.trans (show Grow w w7 from HG7.out) hg8)
      clear HG7
      have hsz8 : w.heap.size ≤ w8.heap.size := HG8.out.size
      have hq8 : w7.heap.size ≤ w8.heap.size := hg8.size
      have HS8 := hide hg8
      clear hb8 hg8
      obtain ⟨cp0, fp0, lp0⟩ := (show Box w8 _ _ from p0.out).rules
      obtain ⟨cq0, fq0, lq0⟩ := (show Box w8 _ _ from q0.out).rules
      have Rp0 := fun (W : World) (h : Grow w8 W) => ((show Box w8 _ _ from p0.out).grow h).cell
      have Fp0 := fun (W : World) (h : Grow w8 W) => ((show Box w8 _ _ from p0.out).grow h).fz
      have Rq0 := fun (W : World) (h : Grow w8 W) => ((show Box w8 _ _ from q0.out).grow h).cell
      have Fq0 := fun (W : World) (h : Grow w8 W) => ((show Box w8 _ _ from q0.out).grow h).fz
      refine wpR_call 3 rfl (by kernel_rfl) rfl fun K hK => ?_
      go_simp
      refine (RP.out _ _ _).mono ?_
      rintro r w9 ⟨rfl, hb9⟩
      refine hK.out _ _ (.inr (hb9)) ?_
      clear hK
      try simp only [Act.put, List.setIfInBounds_toArray, List.set_cons_zero, List.set_cons_succ]
      clear Rp0 Fp0 Rq0 Fq0
      clear cp0 fp0 lp0 cq0 fq0 lq0
      have hg9 := hb9
      have p0_ := hide ((show Box w8 _ _ from p0.out).grow hg9)
      clear p0
      have p0 := p0_
      clear p0_
      have q0_ := hide ((show Box w8 _ _ from q0.out).grow hg9)
      clear q0
      have q0 := q0_
      clear q0_
      have HG9 := hide (Grow.trans (show Grow w w8 from HG8.out) hg9)
      clear HG8
      have hsz9 : w.heap.size ≤ w9.heap.size := HG9.out.size
      have hq9 : w8.heap.size ≤ w9.heap.size := hg9.size
      have HS9 := hide hg9
      clear hb9 hg9
      obtain ⟨cp0, fp0, lp0⟩ := (show Box w9 _ _ from p0.out).rules
      obtain ⟨cq0, fq0, lq0⟩ := (show Box w9 _ _ from q0.out).rules
      have Rp0 := fun (W : World) (h : Grow w9 W) => ((show Box w9 _ _ from p0.out).grow h).cell
      have Fp0 := fun (W : World) (h : Grow w9 W) => ((show Box w9 _ _ from p0.out).grow h).fz
      have Rq0 := fun (W : World) (h : Grow w9 W) => ((show Box w9 _ _ from q0.out).grow h).cell
      have Fq0 := fun (W : World) (h : Grow w9 W) => ((show Box w9 _ _ from q0.out).grow h).fz
      refine wpR_take grow_rf grow_tr 4 rfl (by kernel_rfl) (fun _ _ _ h => h) rfl (v := ?_) ?_ ?_
      rotate_left
      · (intro w' hG; go_simp; try with_reducible rfl)
      try simp only [Act.put, List.setIfInBounds_toArray, List.set_cons_zero, List.set_cons_succ]
      refine wpR_take grow_rf grow_tr 5 rfl (by kernel_rfl) (fun _ _ _ h => h) rfl (v := ?_) ?_ ?_
      rotate_left
      · (intro w' hG; go_simp; try with_reducible rfl)
      try simp only [Act.put, List.setIfInBounds_toArray, List.set_cons_zero, List.set_cons_succ]
      refine wpR_take grow_rf grow_tr 6 rfl (by kernel_rfl) (fun _ _ _ h => h) rfl (v := ?_) ?_ ?_
      rotate_left
      · (intro w' hG; go_simp; try with_reducible rfl)
      try simp only [Act.put, List.setIfInBounds_toArray, List.set_cons_zero, List.set_cons_succ]
      refine wpR_take grow_rf grow_tr 7 rfl (by kernel_rfl) (fun _ _ _ h => h) rfl (v := ?_) ?_ ?_
      rotate_left
      · (intro w' hG; go_simp; try with_reducible rfl)
      try simp only [Act.put, List.setIfInBounds_toArray, List.set_cons_zero, List.set_cons_succ]
      refine wpR_take grow_rf grow_tr 9 rfl (by kernel_rfl) (fun _ _ _ h => h) rfl (v := ?_) ?_ ?_
      rotate_left
      · (intro w' hG; go_simp; try with_reducible rfl)
      try simp only [Act.put, List.setIfInBounds_toArray, List.set_cons_zero, List.set_cons_succ]
      refine wpR_call 8 rfl (by kernel_rfl) rfl fun K hK => ?_
      go_simp
      refine (MP.out _ _ _ _ _).mono ?_
      rintro r w10 ⟨rfl, hb10⟩
      refine hK.out _ _ (.inr (hb10)) ?_
      clear hK
      try simp only [Act.put, List.setIfInBounds_toArray, List.set_cons_zero, List.set_cons_succ]
      clear Rp0 Fp0 Rq0 Fq0
      clear cp0 fp0 lp0 cq0 fq0 lq0
      have hg10 := hb10
      have p0_ := hide ((show Box w9 _ _ from p0.out).grow hg10)
      clear p0
      have p0 := p0_
      clear p0_
      have q0_ := hide ((show Box w9 _ _ from q0.out).grow hg10)
      clear q0
      have q0 := q0_
      clear q0_
      have HG10 := hide (Grow.trans (show Grow w w9 from HG9.out) hg10)
      clear HG9
      have hsz10 : w.heap.size ≤ w10.heap.size := HG10.out.size
      have hq10 : w9.heap.size ≤ w10.heap.size := hg10.size
      have HS10 := hide hg10
      clear hb10 hg10
      obtain ⟨cp0, fp0, lp0⟩ := (show Box w10 _ _ from p0.out).rules
      obtain ⟨cq0, fq0, lq0⟩ := (show Box w10 _ _ from q0.out).rules
      have Rp0 := fun (W : World) (h : Grow w10 W) => ((show Box w10 _ _ from p0.out).grow h).cell
      have Fp0 := fun (W : World) (h : Grow w10 W) => ((show Box w10 _ _ from p0.out).grow h).fz
      have Rq0 := fun (W : World) (h : Grow w10 W) => ((show Box w10 _ _ from q0.out).grow h).cell
      have Fq0 := fun (W : World) (h : Grow w10 W) => ((show Box w10 _ _ from q0.out).grow h).fz
      refine wpR_take grow_rf grow_tr 10 rfl (by kernel_rfl) (fun _ _ _ h => h) rfl (v := ?_) ?_ ?_
      rotate_left
      · (intro w' hG; go_simp; try with_reducible rfl)
      try simp only [Act.put, List.setIfInBounds_toArray, List.set_cons_zero, List.set_cons_succ]
      refine wpR_take grow_rf grow_tr 11 rfl (by kernel_rfl) (fun _ _ _ h => h) rfl (v := ?_) ?_ ?_
      rotate_left
      · (intro w' hG; go_simp; try with_reducible rfl)
      try simp only [Act.put, List.setIfInBounds_toArray, List.set_cons_zero, List.set_cons_succ]
      refine wpR_take grow_rf grow_tr 12 rfl (by kernel_rfl) (fun _ _ _ h => h) rfl (v := ?_) ?_ ?_
      rotate_left
      · (intro w' hG; go_simp; try with_reducible rfl)
      try simp only [Act.put, List.setIfInBounds_toArray, List.set_cons_zero, List.set_cons_succ]
      refine wpR_call 13 rfl (by kernel_rfl) rfl fun K hK => ?_
      go_simp
      refine (works13_any _).mono ?_
      rintro r w11 ⟨rfl, hb11⟩
      refine hK.out _ _ (.inr (hb11)) ?_
      clear hK
      try simp only [Act.put, List.setIfInBounds_toArray, List.set_cons_zero, List.set_cons_succ]
      clear Rp0 Fp0 Rq0 Fq0
      clear cp0 fp0 lp0 cq0 fq0 lq0
      have hg11 := hb11
      have p0_ := hide ((show Box w10 _ _ from p0.out).grow hg11)
      clear p0
      have p0 := p0_
      clear p0_
      have q0_ := hide ((show Box w10 _ _ from q0.out).grow hg11)
      clear q0
      have q0 := q0_
      clear q0_
      have HG11 := hide (Grow.trans (show Grow w w10 from HG10.out) hg11)
      clear HG10
      have hsz11 : w.heap.size ≤ w11.heap.size := HG11.out.size
      have hq11 : w10.heap.size ≤ w11.heap.size := hg11.size
      have HS11 := hide hg11
      clear hb11 hg11
      obtain ⟨cp0, fp0, lp0⟩ := (show Box w11 _ _ from p0.out).rules
      obtain ⟨cq0, fq0, lq0⟩ := (show Box w11 _ _ from q0.out).rules
      have Rp0 := fun (W : World) (h : Grow w11 W) => ((show Box w11 _ _ from p0.out).grow h).cell
      have Fp0 := fun (W : World) (h : Grow w11 W) => ((show Box w11 _ _ from p0.out).grow h).fz
      have Rq0 := fun (W : World) (h : Grow w11 W) => ((show Box w11 _ _ from q0.out).grow h).cell
      have Fq0 := fun (W : World) (h : Grow w11 W) => ((show Box w11 _ _ from q0.out).grow h).fz
      refine wpR_take grow_rf grow_tr 14 rfl (by kernel_rfl) (fun _ _ _ h => h) rfl (v := ?_) ?_ ?_
      rotate_left
      · (intro w' hG; go_simp; try with_reducible rfl)
      try simp only [Act.put, List.setIfInBounds_toArray, List.set_cons_zero, List.set_cons_succ]
      refine wpR_take grow_rf grow_tr 15 rfl (by kernel_rfl) (fun _ _ _ h => h) rfl (v := ?_) ?_ ?_
      rotate_left
      · (intro w' hG; go_simp; try with_reducible rfl)
      try simp only [Act.put, List.setIfInBounds_toArray, List.set_cons_zero, List.set_cons_succ]
      refine wpR_done (by kernel_rfl) ?_ _
      clear Rp0 Fp0 Rq0 Fq0
      go_wp2
      go_ret
      exact ⟨rfl, HG11.out⟩
    | true =>
      simp only [Bool.true_and] at MP
      obtain ⟨qk, qt, qf, qs, qh, qno, qto, qix, qtot, qst, qva⟩ := q
      dsimp only at *
      by_cases e1 : p.to = qto
      · subst e1
        by_cases e2 : p.no = qno
        · subst e2
          by_cases e3 : p.total = qtot
          · subst e3
            have hM : mateB p ⟨qk, qt, qf, qs, qh, p.no, p.to, qix, p.total, qst, qva⟩ = true := by simp [mateB]
            rw [hM] at MP
            clear hM
            go_wp2_with fail
            have Rp0 := fun (W : World) (h : Grow w7.drew W) => ((show Box w7 _ _ from p0.out).grow (Grow.of_drew h)).cell
            have Fp0 := fun (W : World) (h : Grow w7.drew W) => ((show Box w7 _ _ from p0.out).grow (Grow.of_drew h)).fz
            have Rq0 := fun (W : World) (h : Grow w7.drew W) => ((show Box w7 _ _ from q0.out).grow (Grow.of_drew h)).cell
            have Fq0 := fun (W : World) (h : Grow w7.drew W) => ((show Box w7 _ _ from q0.out).grow (Grow.of_drew h)).fz
            refine wpR_region (Grow) [] (by kernel_rfl) ?_
            refine wpR_take grow_rf grow_tr 0 rfl (by kernel_rfl) (fun _ _ _ h => h) rfl (v := ?_) ?_ ?_
            rotate_left
            · (intro w' hG; go_simp; try with_reducible rfl)
            try simp only [Act.put, List.setIfInBounds_toArray, List.set_cons_zero, List.set_cons_succ]
            refine wpR_take grow_rf grow_tr 2 rfl (by kernel_rfl) (fun _ _ _ h => h) rfl (v := ?_) ?_ ?_
            rotate_left
            · (intro w' hG; go_simp; try with_reducible rfl)
            try simp only [Act.put, List.setIfInBounds_toArray, List.set_cons_zero, List.set_cons_succ]
            refine wpR_call 1 rfl (by kernel_rfl) rfl fun K hK => ?_
            go_simp
            refine (KP.out _ _ _).mono ?_
            rintro r w8 ⟨rfl, hb8⟩
            refine hK.out _ _ (.inr (hb8)) ?_
            clear hK
            try simp only [Act.put, List.setIfInBounds_toArray, List.set_cons_zero, List.set_cons_succ]
            clear Rp0 Fp0 Rq0 Fq0
            have hb8 := Grow.of_drew hb8
            clear cp0 fp0 lp0 cq0 fq0 lq0
            have hg8 := hb8
            have p0_ := hide ((show Box w7 _ _ from p0.out).grow hg8)
            clear p0
            have p0 := p0_
            clear p0_
            have q0_ := hide ((show Box w7 _ _ from q0.out).grow hg8)
            clear q0
            have q0 := q0_
            clear q0_
            have HG8 := hide (Grow.trans (show Grow w w7 from HG7.out) hg8)
            clear HG7
            have hsz8 : w.heap.size ≤ w8.heap.size := HG8.out.size
            have hq8 : w7.heap.size ≤ w8.heap.size := hg8.size
            have HS8 := hide hg8
            clear hb8 hg8
            obtain ⟨cp0, fp0, lp0⟩ := (show Box w8 _ _ from p0.out).rules
            obtain ⟨cq0, fq0, lq0⟩ := (show Box w8 _ _ from q0.out).rules
            have Rp0 := fun (W : World) (h : Grow w8 W) => ((show Box w8 _ _ from p0.out).grow h).cell
            have Fp0 := fun (W : World) (h : Grow w8 W) => ((show Box w8 _ _ from p0.out).grow h).fz
            have Rq0 := fun (W : World) (h : Grow w8 W) => ((show Box w8 _ _ from q0.out).grow h).cell
            have Fq0 := fun (W : World) (h : Grow w8 W) => ((show Box w8 _ _ from q0.out).grow h).fz
            refine wpR_call 3 rfl (by kernel_rfl) rfl fun K hK => ?_
            go_simp
            refine (RP.out _ _ _).mono ?_
            rintro r w9 ⟨rfl, hb9⟩
            refine hK.out _ _ (.inr (hb9)) ?_
            clear hK
            try simp only [Act.put, List.setIfInBounds_toArray, List.set_cons_zero, List.set_cons_succ]
            clear Rp0 Fp0 Rq0 Fq0
            clear cp0 fp0 lp0 cq0 fq0 lq0
            have hg9 := hb9
            have p0_ := hide ((show Box w8 _ _ from p0.out).grow hg9)
            clear p0
            have p0 := p0_
            clear p0_
            have q0_ := hide ((show Box w8 _ _ from q0.out).grow hg9)
            clear q0
            have q0 := q0_
            clear q0_
            have HG9 := hide (Grow.trans (show Grow w w8 from HG8.out) hg9)
            clear HG8
            have hsz9 : w.heap.size ≤ w9.heap.size := HG9.out.size
            have hq9 : w8.heap.size ≤ w9.heap.size := hg9.size
            have HS9 := hide hg9
            clear hb9 hg9
            obtain ⟨cp0, fp0, lp0⟩ := (show Box w9 _ _ from p0.out).rules
            obtain ⟨cq0, fq0, lq0⟩ := (show Box w9 _ _ from q0.out).rules
            have Rp0 := fun (W : World) (h : Grow w9 W) => ((show Box w9 _ _ from p0.out).grow h).cell
            have Fp0 := fun (W : World) (h : Grow w9 W) => ((show Box w9 _ _ from p0.out).grow h).fz
            have Rq0 := fun (W : World) (h : Grow w9 W) => ((show Box w9 _ _ from q0.out).grow h).cell
            have Fq0 := fun (W : World) (h : Grow w9 W) => ((show Box w9 _ _ from q0.out).grow h).fz
            refine wpR_take grow_rf grow_tr 4 rfl (by kernel_rfl) (fun _ _ _ h => h) rfl (v := ?_) ?_ ?_
            rotate_left
            · (intro w' hG; go_simp; try with_reducible rfl)
            try simp only [Act.put, List.setIfInBounds_toArray, List.set_cons_zero, List.set_cons_succ]
            refine wpR_take grow_rf grow_tr 5 rfl (by kernel_rfl) (fun _ _ _ h => h) rfl (v := ?_) ?_ ?_
            rotate_left
            · (intro w' hG; go_simp; try with_reducible rfl)
            try simp only [Act.put, List.setIfInBounds_toArray, List.set_cons_zero, List.set_cons_succ]
            refine wpR_take grow_rf grow_tr 6 rfl (by kernel_rfl) (fun _ _ _ h => h) rfl (v := ?_) ?_ ?_
            rotate_left
            · (intro w' hG; go_simp; try with_reducible rfl)
            try simp only [Act.put, List.setIfInBounds_toArray, List.set_cons_zero, List.set_cons_succ]
            refine wpR_take grow_rf grow_tr 7 rfl (by kernel_rfl) (fun _ _ _ h => h) rfl (v := ?_) ?_ ?_
            rotate_left
            · (intro w' hG; go_simp; try with_reducible rfl)
            try simp only [Act.put, List.setIfInBounds_toArray, List.set_cons_zero, List.set_cons_succ]
            refine wpR_take grow_rf grow_tr 9 rfl (by kernel_rfl) (fun _ _ _ h => h) rfl (v := ?_) ?_ ?_
            rotate_left
            · (intro w' hG; go_simp; try with_reducible rfl)
            try simp only [Act.put, List.setIfInBounds_toArray, List.set_cons_zero, List.set_cons_succ]
            refine wpR_call 8 rfl (by kernel_rfl) rfl fun K hK => ?_
            go_simp
            refine (MP.out _ _ _ _ _).mono ?_
            rintro r w10 ⟨rfl, hb10⟩
            refine hK.out _ _ (.inr (hb10)) ?_
            clear hK
            try simp only [Act.put, List.setIfInBounds_toArray, List.set_cons_zero, List.set_cons_succ]
            clear Rp0 Fp0 Rq0 Fq0
            clear cp0 fp0 lp0 cq0 fq0 lq0
            have hg10 := hb10
            have p0_ := hide ((show Box w9 _ _ from p0.out).grow hg10)
            clear p0
            have p0 := p0_
            clear p0_
            have q0_ := hide ((show Box w9 _ _ from q0.out).grow hg10)
            clear q0
            have q0 := q0_
            clear q0_
            have HG10 := hide (Grow.trans (show Grow w w9 from HG9.out) hg10)
            clear HG9
            have hsz10 : w.heap.size ≤ w10.heap.size := HG10.out.size
            have hq10 : w9.heap.size ≤ w10.heap.size := hg10.size
            have HS10 := hide hg10
            clear hb10 hg10
            obtain ⟨cp0, fp0, lp0⟩ := (show Box w10 _ _ from p0.out).rules
            obtain ⟨cq0, fq0, lq0⟩ := (show Box w10 _ _ from q0.out).rules
            have Rp0 := fun (W : World) (h : Grow w10 W) => ((show Box w10 _ _ from p0.out).grow h).cell
            have Fp0 := fun (W : World) (h : Grow w10 W) => ((show Box w10 _ _ from p0.out).grow h).fz
            have Rq0 := fun (W : World) (h : Grow w10 W) => ((show Box w10 _ _ from q0.out).grow h).cell
            have Fq0 := fun (W : World) (h : Grow w10 W) => ((show Box w10 _ _ from q0.out).grow h).fz
            refine wpR_take grow_rf grow_tr 10 rfl (by kernel_rfl) (fun _ _ _ h => h) rfl (v := ?_) ?_ ?_
            rotate_left
            · (intro w' hG; go_simp; try with_reducible rfl)
            try simp only [Act.put, List.setIfInBounds_toArray, List.set_cons_zero, List.set_cons_succ]
            refine wpR_take grow_rf grow_tr 11 rfl (by kernel_rfl) (fun _ _ _ h => h) rfl (v := ?_) ?_ ?_
            rotate_left
            · (intro w' hG; go_simp; try with_reducible rfl)
            try simp only [Act.put, List.setIfInBounds_toArray, List.set_cons_zero, List.set_cons_succ]
            refine wpR_take grow_rf grow_tr 12 rfl (by kernel_rfl) (fun _ _ _ h => h) rfl (v := ?_) ?_ ?_
            rotate_left
            · (intro w' hG; go_simp; try with_reducible rfl)
            try simp only [Act.put, List.setIfInBounds_toArray, List.set_cons_zero, List.set_cons_succ]
            refine wpR_call 13 rfl (by kernel_rfl) rfl fun K hK => ?_
            go_simp
            refine (works13_any _).mono ?_
            rintro r w11 ⟨rfl, hb11⟩
            refine hK.out _ _ (.inr (hb11)) ?_
            clear hK
            try simp only [Act.put, List.setIfInBounds_toArray, List.set_cons_zero, List.set_cons_succ]
            clear Rp0 Fp0 Rq0 Fq0
            clear cp0 fp0 lp0 cq0 fq0 lq0
            have hg11 := hb11
            have p0_ := hide ((show Box w10 _ _ from p0.out).grow hg11)
            clear p0
            have p0 := p0_
            clear p0_
            have q0_ := hide ((show Box w10 _ _ from q0.out).grow hg11)
            clear q0
            have q0 := q0_
            clear q0_
            have HG11 := hide (Grow.trans (show Grow w w10 from HG10.out) hg11)
            clear HG10
            have hsz11 : w.heap.size ≤ w11.heap.size := HG11.out.size
            have hq11 : w10.heap.size ≤ w11.heap.size := hg11.size
            have HS11 := hide hg11
            clear hb11 hg11
            obtain ⟨cp0, fp0, lp0⟩ := (show Box w11 _ _ from p0.out).rules
            obtain ⟨cq0, fq0, lq0⟩ := (show Box w11 _ _ from q0.out).rules
            have Rp0 := fun (W : World) (h : Grow w11 W) => ((show Box w11 _ _ from p0.out).grow h).cell
            have Fp0 := fun (W : World) (h : Grow w11 W) => ((show Box w11 _ _ from p0.out).grow h).fz
            have Rq0 := fun (W : World) (h : Grow w11 W) => ((show Box w11 _ _ from q0.out).grow h).cell
            have Fq0 := fun (W : World) (h : Grow w11 W) => ((show Box w11 _ _ from q0.out).grow h).fz
            refine wpR_take grow_rf grow_tr 14 rfl (by kernel_rfl) (fun _ _ _ h => h) rfl (v := ?_) ?_ ?_
            rotate_left
            · (intro w' hG; go_simp; try with_reducible rfl)
            try simp only [Act.put, List.setIfInBounds_toArray, List.set_cons_zero, List.set_cons_succ]
            refine wpR_take grow_rf grow_tr 15 rfl (by kernel_rfl) (fun _ _ _ h => h) rfl (v := ?_) ?_ ?_
            rotate_left
            · (intro w' hG; go_simp; try with_reducible rfl)
            try simp only [Act.put, List.setIfInBounds_toArray, List.set_cons_zero, List.set_cons_succ]
            refine wpR_done (by kernel_rfl) ?_ _
            clear Rp0 Fp0 Rq0 Fq0
            go_wp2
            go_ret
            exact ⟨rfl, HG11.out⟩
          · have e3' : (p.total == qtot) = false := by simpa using e3
            have hM : mateB p ⟨qk, qt, qf, qs, qh, p.no, p.to, qix, qtot, qst, qva⟩ = false := by simp [mateB, e3]
            rw [hM] at MP
            clear hM e3
            go_wp2_with fail
            have Rp0 := fun (W : World) (h : Grow w7.drew W) => ((show Box w7 _ _ from p0.out).grow (Grow.of_drew h)).cell
            have Fp0 := fun (W : World) (h : Grow w7.drew W) => ((show Box w7 _ _ from p0.out).grow (Grow.of_drew h)).fz
            have Rq0 := fun (W : World) (h : Grow w7.drew W) => ((show Box w7 _ _ from q0.out).grow (Grow.of_drew h)).cell
            have Fq0 := fun (W : World) (h : Grow w7.drew W) => ((show Box w7 _ _ from q0.out).grow (Grow.of_drew h)).fz
            refine wpR_region (Grow) [] (by kernel_rfl) ?_
            refine wpR_take grow_rf grow_tr 0 rfl (by kernel_rfl) (fun _ _ _ h => h) rfl (v := ?_) ?_ ?_
            rotate_left
            · (intro w' hG; go_simp; try with_reducible rfl)
            try simp only [Act.put, List.setIfInBounds_toArray, List.set_cons_zero, List.set_cons_succ]
            refine wpR_take grow_rf grow_tr 2 rfl (by kernel_rfl) (fun _ _ _ h => h) rfl (v := ?_) ?_ ?_
            rotate_left
            · (intro w' hG; go_simp; try with_reducible rfl)
            try simp only [Act.put, List.setIfInBounds_toArray, List.set_cons_zero, List.set_cons_succ]
            refine wpR_call 1 rfl (by kernel_rfl) rfl fun K hK => ?_
            go_simp
            refine (KP.out _ _ _).mono ?_
            rintro r w8 ⟨rfl, hb8⟩
            refine hK.out _ _ (.inr (hb8)) ?_
            clear hK
            try simp only [Act.put, List.setIfInBounds_toArray, List.set_cons_zero, List.set_cons_succ]
            clear Rp0 Fp0 Rq0 Fq0
            have hb8 := Grow.of_drew hb8
            clear cp0 fp0 lp0 cq0 fq0 lq0
            have hg8 := hb8
            have p0_ := hide ((show Box w7 _ _ from p0.out).grow hg8)
            clear p0
            have p0 := p0_
            clear p0_
            have q0_ := hide ((show Box w7 _ _ from q0.out).grow hg8)
            clear q0
            have q0 := q0_
            clear q0_
            have HG8 := hide (Grow.trans (show Grow w w7 from HG7.out) hg8)
            clear HG7
            have hsz8 : w.heap.size ≤ w8.heap.size := HG8.out.size
            have hq8 : w7.heap.size ≤ w8.heap.size := hg8.size
            have HS8 := hide hg8
            clear hb8 hg8
            obtain ⟨cp0, fp0, lp0⟩ := (show Box w8 _ _ from p0.out).rules
            obtain ⟨cq0, fq0, lq0⟩ := (show Box w8 _ _ from q0.out).rules
            have Rp0 := fun (W : World) (h : Grow w8 W) => ((show Box w8 _ _ from p0.out).grow h).cell
            have Fp0 := fun (W : World) (h : Grow w8 W) => ((show Box w8 _ _ from p0.out).grow h).fz
            have Rq0 := fun (W : World) (h : Grow w8 W) => ((show Box w8 _ _ from q0.out).grow h).cell
            have Fq0 := fun (W : World) (h : Grow w8 W) => ((show Box w8 _ _ from q0.out).grow h).fz
            refine wpR_call 3 rfl (by kernel_rfl) rfl fun K hK => ?_
            go_simp
            refine (RP.out _ _ _).mono ?_
            rintro r w9 ⟨rfl, hb9⟩
            refine hK.out _ _ (.inr (hb9)) ?_
            clear hK
            try simp only [Act.put, List.setIfInBounds_toArray, List.set_cons_zero, List.set_cons_succ]
            clear Rp0 Fp0 Rq0 Fq0
            clear cp0 fp0 lp0 cq0 fq0 lq0
            have hg9 := hb9
            have p0_ := hide ((show Box w8 _ _ from p0.out).grow hg9)
            clear p0
            have p0 := p0_
            clear p0_
            have q0_ := hide ((show Box w8 _ _ from q0.out).grow hg9)
            clear q0
            have q0 := q0_
            clear q0_
            have HG9 := hide (Grow.trans (show Grow w w8 from HG8.out) hg9)
            clear HG8
            have hsz9 : w.heap.size ≤ w9.heap.size := HG9.out.size
            have hq9 : w8.heap.size ≤ w9.heap.size := hg9.size
            have HS9 := hide hg9
            clear hb9 hg9
            obtain ⟨cp0, fp0, lp0⟩ := (show Box w9 _ _ from p0.out).rules
            obtain ⟨cq0, fq0, lq0⟩ := (show Box w9 _ _ from q0.out).rules
            have Rp0 := fun (W : World) (h : Grow w9 W) => ((show Box w9 _ _ from p0.out).grow h).cell
            have Fp0 := fun (W : World) (h : Grow w9 W) => ((show Box w9 _ _ from p0.out).grow h).fz
            have Rq0 := fun (W : World) (h : Grow w9 W) => ((show Box w9 _ _ from q0.out).grow h).cell
            have Fq0 := fun (W : World) (h : Grow w9 W) => ((show Box w9 _ _ from q0.out).grow h).fz
            refine wpR_take grow_rf grow_tr 4 rfl (by kernel_rfl) (fun _ _ _ h => h) rfl (v := ?_) ?_ ?_
            rotate_left
            · (intro w' hG; go_simp; try with_reducible rfl)
            try simp only [Act.put, List.setIfInBounds_toArray, List.set_cons_zero, List.set_cons_succ]
            refine wpR_take grow_rf grow_tr 5 rfl (by kernel_rfl) (fun _ _ _ h => h) rfl (v := ?_) ?_ ?_
            rotate_left
            · (intro w' hG; go_simp; try with_reducible rfl)
            try simp only [Act.put, List.setIfInBounds_toArray, List.set_cons_zero, List.set_cons_succ]
            refine wpR_take grow_rf grow_tr 6 rfl (by kernel_rfl) (fun _ _ _ h => h) rfl (v := ?_) ?_ ?_
            rotate_left
            · (intro w' hG; go_simp; try with_reducible rfl)
            try simp only [Act.put, List.setIfInBounds_toArray, List.set_cons_zero, List.set_cons_succ]
            refine wpR_take grow_rf grow_tr 7 rfl (by kernel_rfl) (fun _ _ _ h => h) rfl (v := ?_) ?_ ?_
            rotate_left
            · (intro w' hG; go_simp; try with_reducible rfl)
            try simp only [Act.put, List.setIfInBounds_toArray, List.set_cons_zero, List.set_cons_succ]
            refine wpR_take grow_rf grow_tr 9 rfl (by kernel_rfl) (fun _ _ _ h => h) rfl (v := ?_) ?_ ?_
            rotate_left
            · (intro w' hG; go_simp; try with_reducible rfl)
            try simp only [Act.put, List.setIfInBounds_toArray, List.set_cons_zero, List.set_cons_succ]
            refine wpR_call 8 rfl (by kernel_rfl) rfl fun K hK => ?_
            go_simp
            refine (MP.out _ _ _ _ _).mono ?_
            rintro r w10 ⟨rfl, hb10⟩
            refine hK.out _ _ (.inr (hb10)) ?_
            clear hK
            try simp only [Act.put, List.setIfInBounds_toArray, List.set_cons_zero, List.set_cons_succ]
            clear Rp0 Fp0 Rq0 Fq0
            clear cp0 fp0 lp0 cq0 fq0 lq0
            have hg10 := hb10
            have p0_ := hide ((show Box w9 _ _ from p0.out).grow hg10)
            clear p0
            have p0 := p0_
            clear p0_
            have q0_ := hide ((show Box w9 _ _ from q0.out).grow hg10)
            clear q0
            have q0 := q0_
            clear q0_
            have HG10 := hide (Grow.trans (show Grow w w9 from HG9.out) hg10)
            clear HG9
            have hsz10 : w.heap.size ≤ w10.heap.size := HG10.out.size
            have hq10 : w9.heap.size ≤ w10.heap.size := hg10.size
            have HS10 := hide hg10
            clear hb10 hg10
            obtain ⟨cp0, fp0, lp0⟩ := (show Box w10 _ _ from p0.out).rules
            obtain ⟨cq0, fq0, lq0⟩ := (show Box w10 _ _ from q0.out).rules
            have Rp0 := fun (W : World) (h : Grow w10 W) => ((show Box w10 _ _ from p0.out).grow h).cell
            have Fp0 := fun (W : World) (h : Grow w10 W) => ((show Box w10 _ _ from p0.out).grow h).fz
            have Rq0 := fun (W : World) (h : Grow w10 W) => ((show Box w10 _ _ from q0.out).grow h).cell
            have Fq0 := fun (W : World) (h : Grow w10 W) => ((show Box w10 _ _ from q0.out).grow h).fz
            refine wpR_take grow_rf grow_tr 10 rfl (by kernel_rfl) (fun _ _ _ h => h) rfl (v := ?_) ?_ ?_
            rotate_left
            · (intro w' hG; go_simp; try with_reducible rfl)
            try simp only [Act.put, List.setIfInBounds_toArray, List.set_cons_zero, List.set_cons_succ]
            refine wpR_take grow_rf grow_tr 11 rfl (by kernel_rfl) (fun _ _ _ h => h) rfl (v := ?_) ?_ ?_
            rotate_left
            · (intro w' hG; go_simp; try with_reducible rfl)
            try simp only [Act.put, List.setIfInBounds_toArray, List.set_cons_zero, List.set_cons_succ]
            refine wpR_take grow_rf grow_tr 12 rfl (by kernel_rfl) (fun _ _ _ h => h) rfl (v := ?_) ?_ ?_
            rotate_left
            · (intro w' hG; go_simp; try with_reducible rfl)
            try simp only [Act.put, List.setIfInBounds_toArray, List.set_cons_zero, List.set_cons_succ]
            refine wpR_call 13 rfl (by kernel_rfl) rfl fun K hK => ?_
            go_simp
            refine (works13_any _).mono ?_
            rintro r w11 ⟨rfl, hb11⟩
            refine hK.out _ _ (.inr (hb11)) ?_
            clear hK
            try simp only [Act.put, List.setIfInBounds_toArray, List.set_cons_zero, List.set_cons_succ]
            clear Rp0 Fp0 Rq0 Fq0
            clear cp0 fp0 lp0 cq0 fq0 lq0
            have hg11 := hb11
            have p0_ := hide ((show Box w10 _ _ from p0.out).grow hg11)
            clear p0
            have p0 := p0_
            clear p0_
            have q0_ := hide ((show Box w10 _ _ from q0.out).grow hg11)
            clear q0
            have q0 := q0_
            clear q0_
            have HG11 := hide (Grow.trans (show Grow w w10 from HG10.out) hg11)
            clear HG10
            have hsz11 : w.heap.size ≤ w11.heap.size := HG11.out.size
            have hq11 : w10.heap.size ≤ w11.heap.size := hg11.size
            have HS11 := hide hg11
            clear hb11 hg11
            obtain ⟨cp0, fp0, lp0⟩ := (show Box w11 _ _ from p0.out).rules
            obtain ⟨cq0, fq0, lq0⟩ := (show Box w11 _ _ from q0.out).rules
            have Rp0 := fun (W : World) (h : Grow w11 W) => ((show Box w11 _ _ from p0.out).grow h).cell
            have Fp0 := fun (W : World) (h : Grow w11 W) => ((show Box w11 _ _ from p0.out).grow h).fz
            have Rq0 := fun (W : World) (h : Grow w11 W) => ((show Box w11 _ _ from q0.out).grow h).cell
            have Fq0 := fun (W : World) (h : Grow w11 W) => ((show Box w11 _ _ from q0.out).grow h).fz
            refine wpR_take grow_rf grow_tr 14 rfl (by kernel_rfl) (fun _ _ _ h => h) rfl (v := ?_) ?_ ?_
            rotate_left
            · (intro w' hG; go_simp; try with_reducible rfl)
            try simp only [Act.put, List.setIfInBounds_toArray, List.set_cons_zero, List.set_cons_succ]
            refine wpR_take grow_rf grow_tr 15 rfl (by kernel_rfl) (fun _ _ _ h => h) rfl (v := ?_) ?_ ?_
            rotate_left
            · (intro w' hG; go_simp; try with_reducible rfl)
            try simp only [Act.put, List.setIfInBounds_toArray, List.set_cons_zero, List.set_cons_succ]
            refine wpR_done (by kernel_rfl) ?_ _
            clear Rp0 Fp0 Rq0 Fq0
            go_wp2
            go_ret
            exact ⟨rfl, HG11.out⟩
        · have e2' : (p.no == qno) = false := by simpa using e2
          have hM : mateB p ⟨qk, qt, qf, qs, qh, qno, p.to, qix, qtot, qst, qva⟩ = false := by simp [mateB, e2]
          rw [hM] at MP
          clear hM e2
          go_wp2_with fail
          have Rp0 := fun (W : World) (h : Grow w7.drew W) => ((show Box w7 _ _ from p0.out).grow (Grow.of_drew h)).cell
          have Fp0 := fun (W : World) (h : Grow w7.drew W) => ((show Box w7 _ _ from p0.out).grow (Grow.of_drew h)).fz
          have Rq0 := fun (W : World) (h : Grow w7.drew W) => ((show Box w7 _ _ from q0.out).grow (Grow.of_drew h)).cell
          have Fq0 := fun (W : World) (h : Grow w7.drew W) => ((show Box w7 _ _ from q0.out).grow (Grow.of_drew h)).fz
          refine wpR_region (Grow) [] (by kernel_rfl) ?_
          refine wpR_take grow_rf grow_tr 0 rfl (by kernel_rfl) (fun _ _ _ h => h) rfl (v := ?_) ?_ ?_
          rotate_left
          · (intro w' hG; go_simp; try with_reducible rfl)
          try simp only [Act.put, List.setIfInBounds_toArray, List.set_cons_zero, List.set_cons_succ]
          refine wpR_take grow_rf grow_tr 2 rfl (by kernel_rfl) (fun _ _ _ h => h) rfl (v := ?_) ?_ ?_
          rotate_left
          · (intro w' hG; go_simp; try with_reducible rfl)
          try simp only [Act.put, List.setIfInBounds_toArray, List.set_cons_zero, List.set_cons_succ]
          refine wpR_call 1 rfl (by kernel_rfl) rfl fun K hK => ?_
          go_simp
          refine (KP.out _ _ _).mono ?_
          rintro r w8 ⟨rfl, hb8⟩
          refine hK.out _ _ (.inr (hb8)) ?_
          clear hK
          try simp only [Act.put, List.setIfInBounds_toArray, List.set_cons_zero, List.set_cons_succ]
          clear Rp0 Fp0 Rq0 Fq0
          have hb8 := Grow.of_drew hb8
          clear cp0 fp0 lp0 cq0 fq0 lq0
          have hg8 := hb8
          have p0_ := hide ((show Box w7 _ _ from p0.out).grow hg8)
          clear p0
          have p0 := p0_
          clear p0_
          have q0_ := hide ((show Box w7 _ _ from q0.out).grow hg8)
          clear q0
          have q0 := q0_
          clear q0_
          have HG8 := hide (Grow.trans (show Grow w w7 from HG7.out) hg8)
          clear HG7
          have hsz8 : w.heap.size ≤ w8.heap.size := HG8.out.size
          have hq8 : w7.heap.size ≤ w8.heap.size := hg8.size
          have HS8 := hide hg8
          clear hb8 hg8
          obtain ⟨cp0, fp0, lp0⟩ := (show Box w8 _ _ from p0.out).rules
          obtain ⟨cq0, fq0, lq0⟩ := (show Box w8 _ _ from q0.out).rules
          have Rp0 := fun (W : World) (h : Grow w8 W) => ((show Box w8 _ _ from p0.out).grow h).cell
          have Fp0 := fun (W : World) (h : Grow w8 W) => ((show Box w8 _ _ from p0.out).grow h).fz
          have Rq0 := fun (W : World) (h : Grow w8 W) => ((show Box w8 _ _ from q0.out).grow h).cell
          have Fq0 := fun (W : World) (h : Grow w8 W) => ((show Box w8 _ _ from q0.out).grow h).fz
          refine wpR_call 3 rfl (by kernel_rfl) rfl fun K hK => ?_
          go_simp
          refine (RP.out _ _ _).mono ?_
          rintro r w9 ⟨rfl, hb9⟩
          refine hK.out _ _ (.inr (hb9)) ?_
          clear hK
          try simp only [Act.put, List.setIfInBounds_toArray, List.set_cons_zero, List.set_cons_succ]
          clear Rp0 Fp0 Rq0 Fq0
          clear cp0 fp0 lp0 cq0 fq0 lq0
          have hg9 := hb9
          have p0_ := hide ((show Box w8 _ _ from p0.out).grow hg9)
          clear p0
          have p0 := p0_
          clear p0_
          have q0_ := hide ((show Box w8 _ _ from q0.out).grow hg9)
          clear q0
          have q0 := q0_
          clear q0_
          have HG9 := hide (Grow.trans (show Grow w w8 from HG8.out) hg9)
          clear HG8
          have hsz9 : w.heap.size ≤ w9.heap.size := HG9.out.size
          have hq9 : w8.heap.size ≤ w9.heap.size := hg9.size
          have HS9 := hide hg9
          clear hb9 hg9
          obtain ⟨cp0, fp0, lp0⟩ := (show Box w9 _ _ from p0.out).rules
          obtain ⟨cq0, fq0, lq0⟩ := (show Box w9 _ _ from q0.out).rules
          have Rp0 := fun (W : World) (h : Grow w9 W) => ((show Box w9 _ _ from p0.out).grow h).cell
          have Fp0 := fun (W : World) (h : Grow w9 W) => ((show Box w9 _ _ from p0.out).grow h).fz
          have Rq0 := fun (W : World) (h : Grow w9 W) => ((show Box w9 _ _ from q0.out).grow h).cell
          have Fq0 := fun (W : World) (h : Grow w9 W) => ((show Box w9 _ _ from q0.out).grow h).fz
          refine wpR_take grow_rf grow_tr 4 rfl (by kernel_rfl) (fun _ _ _ h => h) rfl (v := ?_) ?_ ?_
          rotate_left
          · (intro w' hG; go_simp; try with_reducible rfl)
          try simp only [Act.put, List.setIfInBounds_toArray, List.set_cons_zero, List.set_cons_succ]
          refine wpR_take grow_rf grow_tr 5 rfl (by kernel_rfl) (fun _ _ _ h => h) rfl (v := ?_) ?_ ?_
          rotate_left
          · (intro w' hG; go_simp; try with_reducible rfl)
          try simp only [Act.put, List.setIfInBounds_toArray, List.set_cons_zero, List.set_cons_succ]
          refine wpR_take grow_rf grow_tr 6 rfl (by kernel_rfl) (fun _ _ _ h => h) rfl (v := ?_) ?_ ?_
          rotate_left
          · (intro w' hG; go_simp; try with_reducible rfl)
          try simp only [Act.put, List.setIfInBounds_toArray, List.set_cons_zero, List.set_cons_succ]
          refine wpR_take grow_rf grow_tr 7 rfl (by kernel_rfl) (fun _ _ _ h => h) rfl (v := ?_) ?_ ?_
          rotate_left
          · (intro w' hG; go_simp; try with_reducible rfl)
          try simp only [Act.put, List.setIfInBounds_toArray, List.set_cons_zero, List.set_cons_succ]
          refine wpR_take grow_rf grow_tr 9 rfl (by kernel_rfl) (fun _ _ _ h => h) rfl (v := ?_) ?_ ?_
          rotate_left
          · (intro w' hG; go_simp; try with_reducible rfl)
          try simp only [Act.put, List.setIfInBounds_toArray, List.set_cons_zero, List.set_cons_succ]
          refine wpR_call 8 rfl (by kernel_rfl) rfl fun K hK => ?_
          go_simp
          refine (MP.out _ _ _ _ _).mono ?_
          rintro r w10 ⟨rfl, hb10⟩
          refine hK.out _ _ (.inr (hb10)) ?_
          clear hK
          try simp only [Act.put, List.setIfInBounds_toArray, List.set_cons_zero, List.set_cons_succ]
          clear Rp0 Fp0 Rq0 Fq0
          clear cp0 fp0 lp0 cq0 fq0 lq0
          have hg10 := hb10
          have p0_ := hide ((show Box w9 _ _ from p0.out).grow hg10)
          clear p0
          have p0 := p0_
          clear p0_
          have q0_ := hide ((show Box w9 _ _ from q0.out).grow hg10)
          clear q0
          have q0 := q0_
          clear q0_
          have HG10 := hide (Grow.trans (show Grow w w9 from HG9.out) hg10)
          clear HG9
          have hsz10 : w.heap.size ≤ w10.heap.size := HG10.out.size
          have hq10 : w9.heap.size ≤ w10.heap.size := hg10.size
          have HS10 := hide hg10
          clear hb10 hg10
          obtain ⟨cp0, fp0, lp0⟩ := (show Box w10 _ _ from p0.out).rules
          obtain ⟨cq0, fq0, lq0⟩ := (show Box w10 _ _ from q0.out).rules
          have Rp0 := fun (W : World) (h : Grow w10 W) => ((show Box w10 _ _ from p0.out).grow h).cell
          have Fp0 := fun (W : World) (h : Grow w10 W) => ((show Box w10 _ _ from p0.out).grow h).fz
          have Rq0 := fun (W : World) (h : Grow w10 W) => ((show Box w10 _ _ from q0.out).grow h).cell
          have Fq0 := fun (W : World) (h : Grow w10 W) => ((show Box w10 _ _ from q0.out).grow h).fz
          refine wpR_take grow_rf grow_tr 10 rfl (by kernel_rfl) (fun _ _ _ h => h) rfl (v := ?_) ?_ ?_
          rotate_left
          · (intro w' hG; go_simp; try with_reducible rfl)
          try simp only [Act.put, List.setIfInBounds_toArray, List.set_cons_zero, List.set_cons_succ]
          refine wpR_take grow_rf grow_tr 11 rfl (by kernel_rfl) (fun _ _ _ h => h) rfl (v := ?_) ?_ ?_
          rotate_left
          · (intro w' hG; go_simp; try with_reducible rfl)
          try simp only [Act.put, List.setIfInBounds_toArray, List.set_cons_zero, List.set_cons_succ]
          refine wpR_take grow_rf grow_tr 12 rfl (by kernel_rfl) (fun _ _ _ h => h) rfl (v := ?_) ?_ ?_
          rotate_left
          · (intro w' hG; go_simp; try with_reducible rfl)
          try simp only [Act.put, List.setIfInBounds_toArray, List.set_cons_zero, List.set_cons_succ]
          refine wpR_call 13 rfl (by kernel_rfl) rfl fun K hK => ?_
          go_simp
          refine (works13_any _).mono ?_
          rintro r w11 ⟨rfl, hb11⟩
          refine hK.out _ _ (.inr (hb11)) ?_
          clear hK
          try simp only [Act.put, List.setIfInBounds_toArray, List.set_cons_zero, List.set_cons_succ]
          clear Rp0 Fp0 Rq0 Fq0
          clear cp0 fp0 lp0 cq0 fq0 lq0
          have hg11 := hb11
          have p0_ := hide ((show Box w10 _ _ from p0.out).grow hg11)
          clear p0
          have p0 := p0_
          clear p0_
          have q0_ := hide ((show Box w10 _ _ from q0.out).grow hg11)
          clear q0
          have q0 := q0_
          clear q0_
          have HG11 := hide (Grow.trans (show Grow w w10 from HG10.out) hg11)
          clear HG10
          have hsz11 : w.heap.size ≤ w11.heap.size := HG11.out.size
          have hq11 : w10.heap.size ≤ w11.heap.size := hg11.size
          have HS11 := hide hg11
          clear hb11 hg11
          obtain ⟨cp0, fp0, lp0⟩ := (show Box w11 _ _ from p0.out).rules
          obtain ⟨cq0, fq0, lq0⟩ := (show Box w11 _ _ from q0.out).rules
          have Rp0 := fun (W : World) (h : Grow w11 W) => ((show Box w11 _ _ from p0.out).grow h).cell
          have Fp0 := fun (W : World) (h : Grow w11 W) => ((show Box w11 _ _ from p0.out).grow h).fz
          have Rq0 := fun (W : World) (h : Grow w11 W) => ((show Box w11 _ _ from q0.out).grow h).cell
          have Fq0 := fun (W : World) (h : Grow w11 W) => ((show Box w11 _ _ from q0.out).grow h).fz
          refine wpR_take grow_rf grow_tr 14 rfl (by kernel_rfl) (fun _ _ _ h => h) rfl (v := ?_) ?_ ?_
          rotate_left
          · (intro w' hG; go_simp; try with_reducible rfl)
          try simp only [Act.put, List.setIfInBounds_toArray, List.set_cons_zero, List.set_cons_succ]
          refine wpR_take grow_rf grow_tr 15 rfl (by kernel_rfl) (fun _ _ _ h => h) rfl (v := ?_) ?_ ?_
          rotate_left
          · (intro w' hG; go_simp; try with_reducible rfl)
          try simp only [Act.put, List.setIfInBounds_toArray, List.set_cons_zero, List.set_cons_succ]
          refine wpR_done (by kernel_rfl) ?_ _
          clear Rp0 Fp0 Rq0 Fq0
          go_wp2
          go_ret
          exact ⟨rfl, HG11.out⟩
      · have e1' : (p.to == qto) = false := by simpa using e1
        have hM : mateB p ⟨qk, qt, qf, qs, qh, qno, qto, qix, qtot, qst, qva⟩ = false := by simp [mateB, e1]
        rw [hM] at MP
        clear hM e1
        go_wp2_with fail
        have Rp0 := fun (W : World) (h : Grow w7.drew W) => ((show Box w7 _ _ from p0.out).grow (Grow.of_drew h)).cell
        have Fp0 := fun (W : World) (h : Grow w7.drew W) => ((show Box w7 _ _ from p0.out).grow (Grow.of_drew h)).fz
        have Rq0 := fun (W : World) (h : Grow w7.drew W) => ((show Box w7 _ _ from q0.out).grow (Grow.of_drew h)).cell
        have Fq0 := fun (W : World) (h : Grow w7.drew W) => ((show Box w7 _ _ from q0.out).grow (Grow.of_drew h)).fz
        refine wpR_region (Grow) [] (by kernel_rfl) ?_
        refine wpR_take grow_rf grow_tr 0 rfl (by kernel_rfl) (fun _ _ _ h => h) rfl (v := ?_) ?_ ?_
        rotate_left
        · (intro w' hG; go_simp; try with_reducible rfl)
        try simp only [Act.put, List.setIfInBounds_toArray, List.set_cons_zero, List.set_cons_succ]
        refine wpR_take grow_rf grow_tr 2 rfl (by kernel_rfl) (fun _ _ _ h => h) rfl (v := ?_) ?_ ?_
        rotate_left
        · (intro w' hG; go_simp; try with_reducible rfl)
        try simp only [Act.put, List.setIfInBounds_toArray, List.set_cons_zero, List.set_cons_succ]
        refine wpR_call 1 rfl (by kernel_rfl) rfl fun K hK => ?_
        go_simp
        refine (KP.out _ _ _).mono ?_
        rintro r w8 ⟨rfl, hb8⟩
        refine hK.out _ _ (.inr (hb8)) ?_
        clear hK
        try simp only [Act.put, List.setIfInBounds_toArray, List.set_cons_zero, List.set_cons_succ]
        clear Rp0 Fp0 Rq0 Fq0
        have hb8 := Grow.of_drew hb8
        clear cp0 fp0 lp0 cq0 fq0 lq0
        have hg8 := hb8
        have p0_ := hide ((show Box w7 _ _ from p0.out).grow hg8)
        clear p0
        have p0 := p0_
        clear p0_
        have q0_ := hide ((show Box w7 _ _ from q0.out).grow hg8)
        clear q0
        have q0 := q0_
        clear q0_
        have HG8 := hide (Grow.trans (show Grow w w7 from HG7.out) hg8)
        clear HG7
        have hsz8 : w.heap.size ≤ w8.heap.size := HG8.out.size
        have hq8 : w7.heap.size ≤ w8.heap.size := hg8.size
        have HS8 := hide hg8
        clear hb8 hg8
        obtain ⟨cp0, fp0, lp0⟩ := (show Box w8 _ _ from p0.out).rules
        obtain ⟨cq0, fq0, lq0⟩ := (show Box w8 _ _ from q0.out).rules
        have Rp0 := fun (W : World) (h : Grow w8 W) => ((show Box w8 _ _ from p0.out).grow h).cell
        have Fp0 := fun (W : World) (h : Grow w8 W) => ((show Box w8 _ _ from p0.out).grow h).fz
        have Rq0 := fun (W : World) (h : Grow w8 W) => ((show Box w8 _ _ from q0.out).grow h).cell
        have Fq0 := fun (W : World) (h : Grow w8 W) => ((show Box w8 _ _ from q0.out).grow h).fz
        refine wpR_call 3 rfl (by kernel_rfl) rfl fun K hK => ?_
        go_simp
        refine (RP.out _ _ _).mono ?_
        rintro r w9 ⟨rfl, hb9⟩
        refine hK.out _ _ (.inr (hb9)) ?_
        clear hK
        try simp only [Act.put, List.setIfInBounds_toArray, List.set_cons_zero, List.set_cons_succ]
        clear Rp0 Fp0 Rq0 Fq0
        clear cp0 fp0 lp0 cq0 fq0 lq0
        have hg9 := hb9
        have p0_ := hide ((show Box w8 _ _ from p0.out).grow hg9)
        clear p0
        have p0 := p0_
        clear p0_
        have q0_ := hide ((show Box w8 _ _ from q0.out).grow hg9)
        clear q0
        have q0 := q0_
        clear q0_
        have HG9 := hide (Grow.trans (show Grow w w8 from HG8.out) hg9)
        clear HG8
        have hsz9 : w.heap.size ≤ w9.heap.size := HG9.out.size
        have hq9 : w8.heap.size ≤ w9.heap.size := hg9.size
        have HS9 := hide hg9
        clear hb9 hg9
        obtain ⟨cp0, fp0, lp0⟩ := (show Box w9 _ _ from p0.out).rules
        obtain ⟨cq0, fq0, lq0⟩ := (show Box w9 _ _ from q0.out).rules
        have Rp0 := fun (W : World) (h : Grow w9 W) => ((show Box w9 _ _ from p0.out).grow h).cell
        have Fp0 := fun (W : World) (h : Grow w9 W) => ((show Box w9 _ _ from p0.out).grow h).fz
        have Rq0 := fun (W : World) (h : Grow w9 W) => ((show Box w9 _ _ from q0.out).grow h).cell
        have Fq0 := fun (W : World) (h : Grow w9 W) => ((show Box w9 _ _ from q0.out).grow h).fz
        refine wpR_take grow_rf grow_tr 4 rfl (by kernel_rfl) (fun _ _ _ h => h) rfl (v := ?_) ?_ ?_
        rotate_left
        · (intro w' hG; go_simp; try with_reducible rfl)
        try simp only [Act.put, List.setIfInBounds_toArray, List.set_cons_zero, List.set_cons_succ]
        refine wpR_take grow_rf grow_tr 5 rfl (by kernel_rfl) (fun _ _ _ h => h) rfl (v := ?_) ?_ ?_
        rotate_left
        · (intro w' hG; go_simp; try with_reducible rfl)
        try simp only [Act.put, List.setIfInBounds_toArray, List.set_cons_zero, List.set_cons_succ]
        refine wpR_take grow_rf grow_tr 6 rfl (by kernel_rfl) (fun _ _ _ h => h) rfl (v := ?_) ?_ ?_
        rotate_left
        · (intro w' hG; go_simp; try with_reducible rfl)
        try simp only [Act.put, List.setIfInBounds_toArray, List.set_cons_zero, List.set_cons_succ]
        refine wpR_take grow_rf grow_tr 7 rfl (by kernel_rfl) (fun _ _ _ h => h) rfl (v := ?_) ?_ ?_
        rotate_left
        · (intro w' hG; go_simp; try with_reducible rfl)
        try simp only [Act.put, List.setIfInBounds_toArray, List.set_cons_zero, List.set_cons_succ]
        refine wpR_take grow_rf grow_tr 9 rfl (by kernel_rfl) (fun _ _ _ h => h) rfl (v := ?_) ?_ ?_
        rotate_left
        · (intro w' hG; go_simp; try with_reducible rfl)
        try simp only [Act.put, List.setIfInBounds_toArray, List.set_cons_zero, List.set_cons_succ]
        refine wpR_call 8 rfl (by kernel_rfl) rfl fun K hK => ?_
        go_simp
        refine (MP.out _ _ _ _ _).mono ?_
        rintro r w10 ⟨rfl, hb10⟩
        refine hK.out _ _ (.inr (hb10)) ?_
        clear hK
        try simp only [Act.put, List.setIfInBounds_toArray, List.set_cons_zero, List.set_cons_succ]
        clear Rp0 Fp0 Rq0 Fq0
        clear cp0 fp0 lp0 cq0 fq0 lq0
        have hg10 := hb10
        have p0_ := hide ((show Box w9 _ _ from p0.out).grow hg10)
        clear p0
        have p0 := p0_
        clear p0_
        have q0_ := hide ((show Box w9 _ _ from q0.out).grow hg10)
        clear q0
        have q0 := q0_
        clear q0_
        have HG10 := hide (Grow.trans (show Grow w w9 from HG9.out) hg10)
        clear HG9
        have hsz10 : w.heap.size ≤ w10.heap.size := HG10.out.size
        have hq10 : w9.heap.size ≤ w10.heap.size := hg10.size
        have HS10 := hide hg10
        clear hb10 hg10
        obtain ⟨cp0, fp0, lp0⟩ := (show Box w10 _ _ from p0.out).rules
        obtain ⟨cq0, fq0, lq0⟩ := (show Box w10 _ _ from q0.out).rules
        have Rp0 := fun (W : World) (h : Grow w10 W) => ((show Box w10 _ _ from p0.out).grow h).cell
        have Fp0 := fun (W : World) (h : Grow w10 W) => ((show Box w10 _ _ from p0.out).grow h).fz
        have Rq0 := fun (W : World) (h : Grow w10 W) => ((show Box w10 _ _ from q0.out).grow h).cell
        have Fq0 := fun (W : World) (h : Grow w10 W) => ((show Box w10 _ _ from q0.out).grow h).fz
        refine wpR_take grow_rf grow_tr 10 rfl (by kernel_rfl) (fun _ _ _ h => h) rfl (v := ?_) ?_ ?_
        rotate_left
        · (intro w' hG; go_simp; try with_reducible rfl)
        try simp only [Act.put, List.setIfInBounds_toArray, List.set_cons_zero, List.set_cons_succ]
        refine wpR_take grow_rf grow_tr 11 rfl (by kernel_rfl) (fun _ _ _ h => h) rfl (v := ?_) ?_ ?_
        rotate_left
        · (intro w' hG; go_simp; try with_reducible rfl)
        try simp only [Act.put, List.setIfInBounds_toArray, List.set_cons_zero, List.set_cons_succ]
        refine wpR_take grow_rf grow_tr 12 rfl (by kernel_rfl) (fun _ _ _ h => h) rfl (v := ?_) ?_ ?_
        rotate_left
        · (intro w' hG; go_simp; try with_reducible rfl)
        try simp only [Act.put, List.setIfInBounds_toArray, List.set_cons_zero, List.set_cons_succ]
        refine wpR_call 13 rfl (by kernel_rfl) rfl fun K hK => ?_
        go_simp
        refine (works13_any _).mono ?_
        rintro r w11 ⟨rfl, hb11⟩
        refine hK.out _ _ (.inr (hb11)) ?_
        clear hK
        try simp only [Act.put, List.setIfInBounds_toArray, List.set_cons_zero, List.set_cons_succ]
        clear Rp0 Fp0 Rq0 Fq0
        clear cp0 fp0 lp0 cq0 fq0 lq0
        have hg11 := hb11
        have p0_ := hide ((show Box w10 _ _ from p0.out).grow hg11)
        clear p0
        have p0 := p0_
        clear p0_
        have q0_ := hide ((show Box w10 _ _ from q0.out).grow hg11)
        clear q0
        have q0 := q0_
        clear q0_
        have HG11 := hide (Grow.trans (show Grow w w10 from HG10.out) hg11)
        clear HG10
        have hsz11 : w.heap.size ≤ w11.heap.size := HG11.out.size
        have hq11 : w10.heap.size ≤ w11.heap.size := hg11.size
        have HS11 := hide hg11
        clear hb11 hg11
        obtain ⟨cp0, fp0, lp0⟩ := (show Box w11 _ _ from p0.out).rules
        obtain ⟨cq0, fq0, lq0⟩ := (show Box w11 _ _ from q0.out).rules
        have Rp0 := fun (W : World) (h : Grow w11 W) => ((show Box w11 _ _ from p0.out).grow h).cell
        have Fp0 := fun (W : World) (h : Grow w11 W) => ((show Box w11 _ _ from p0.out).grow h).fz
        have Rq0 := fun (W : World) (h : Grow w11 W) => ((show Box w11 _ _ from q0.out).grow h).cell
        have Fq0 := fun (W : World) (h : Grow w11 W) => ((show Box w11 _ _ from q0.out).grow h).fz
        refine wpR_take grow_rf grow_tr 14 rfl (by kernel_rfl) (fun _ _ _ h => h) rfl (v := ?_) ?_ ?_
        rotate_left
        · (intro w' hG; go_simp; try with_reducible rfl)
        try simp only [Act.put, List.setIfInBounds_toArray, List.set_cons_zero, List.set_cons_succ]
        refine wpR_take grow_rf grow_tr 15 rfl (by kernel_rfl) (fun _ _ _ h => h) rfl (v := ?_) ?_ ?_
        rotate_left
        · (intro w' hG; go_simp; try with_reducible rfl)
        try simp only [Act.put, List.setIfInBounds_toArray, List.set_cons_zero, List.set_cons_succ]
        refine wpR_done (by kernel_rfl) ?_ _
        clear Rp0 Fp0 Rq0 Fq0
        go_wp2
        go_ret
        exact ⟨rfl, HG11.out⟩
end Go.Proofs.Ytpobjcdcimcdnaa
