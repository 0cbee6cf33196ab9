/- The walk of the statement SealEncodes. -/
import Derived.Test.YtpobjcdcimcdnaaSlD
namespace Go.Proofs.Ytpobjcdcimcdnaa
open Go.RowKit
set_option maxRecDepth 100000 in
set_option maxHeartbeats 2000000 in
theorem sealEncodes_no (p : Pkt) (A : Option Addr) (l : List UInt8) (c : Nat) (w : World) (ok : p.Ok) (hl : l.length ≤ c) (hc : c ≤ 9223372036854775807) (hb : Bytes w A l) (h : sealB p (l.take 1030) = false) :
    Calls Try.prog 17 #[pv p A l.length c] w fun e w' => e = .returned (.bool true) ∧ Grow w w' := by
  go_enter Try.func17, Try.ntmps17
  go_wp2_with fail
  refine (cut14_any p A l c _ hl hc (hb.alloc _)).mono ?_
  rintro r w1 ⟨A1, c1, rfl, hown, hb1⟩
  have hlb := hown.bytes
  have hlc := hown.le
  have hlt1 := fun q h => hown.lt (q := q) h
  have hln : (l.take 1030).length ≤ 1030 := by rw [List.length_take]; omega
  have hlo : ∀ q, blk A1 = some q → q ∉ [w.heap.size] := fun q hq => by have := hown.base hq; simp at this; simp; omega
  clear hown hb
  generalize l.take 1030 = m at *
  obtain ⟨p0, hg1⟩ := peel1 hb1
  have p0_ := hide p0
  clear p0
  have p0 := p0_
  clear p0_
  have HG1 := hide (show Grow w w1 from hg1)
  have hsz1 : w.heap.size ≤ w1.heap.size := HG1.out.size
  have hq1 : w.heap.size ≤ w1.heap.size := hg1.size
  have HS1 := hide hg1
  clear hb1 hg1
  obtain ⟨cp0, fp0, lp0⟩ := (show Box w1 _ _ from p0.out).rules
  have HD := hide (fun W hh => sealgood_any p A1 m c1 W hh (by omega))
  have HR := hide (fun W hh => refsealgood_any p A1 m c1 W hh (by omega))
  rw [h] at HD HR
  have hE := hide (fun W hh => encode_no p A1 m c1 W hh (by omega) h)
  have hZ := hide (fun W hh => size_no p A1 m c1 W hh (by omega) h)
  clear h
  go_wp2_with fail
  clear cp0 fp0 lp0
  generalize hW2 : (World.setCell (World.setCell (World.setCell (World.setCell (World.setCell (World.setCell (World.setCell (World.setCell (World.setCell (World.setCell (World.setCell (World.setCell w1 _ _) _ _) _ _) _ _) _ _) _ _) _ _) _ _) _ _) _ _) _ _) _ _) = w2
  have np0 := Box.store12 (show Box w1 _ _ from p0.out) hW2
  have hb2 := Kept.store12 hW2
  clear hW2 p0
  have hg2 := hb2
  have hlb := hlb.kept hg2 hlo
  have HG2 := hide (Kept.fresh1 hg2 (show Grow w w1 from HG1.out) (by omega))
  clear HG1
  have hsz2 : w.heap.size ≤ w2.heap.size := HG2.out.size
  have hq2 : w1.heap.size ≤ w2.heap.size := hg2.size
  have HS2 := hide hg2
  clear hb2 hg2
  have p0 := hide np0
  clear np0
  obtain ⟨cp0, fp0, lp0⟩ := (show Box w2 _ _ from p0.out).rules
  refine (hE.out _ hlb).mono ?_
  rintro r w3 ⟨rfl, hb3⟩
  clear cp0 fp0 lp0
  have hg3 := hb3
  have p0_ := hide ((show Box w2 _ _ from p0.out).grow hg3)
  clear p0
  have p0 := p0_
  clear p0_
  have hlb := hlb.grow hg3
  have HG3 := hide (Grow.trans (show Grow w w2 from HG2.out) hg3)
  clear HG2
  have hsz3 : w.heap.size ≤ w3.heap.size := HG3.out.size
  have hq3 : w2.heap.size ≤ w3.heap.size := hg3.size
  have HS3 := hide hg3
  clear hb3 hg3
  obtain ⟨cp0, fp0, lp0⟩ := (show Box w3 _ _ from p0.out).rules
  go_wp2_with fail
  have Rp0 := fun (W : World) (h : Grow w3.drew W) => ((show Box w3 _ _ from p0.out).grow (Grow.of_drew h)).cell
  have Fp0 := fun (W : World) (h : Grow w3.drew W) => ((show Box w3 _ _ from p0.out).grow (Grow.of_drew h)).fz
  refine wpR_region (Grow) [] (by kernel_rfl) ?_
  refine wpR_take grow_rf grow_tr 0 rfl (by kernel_rfl) (fun _ _ _ h => h) rfl (v := ?_) ?_ ?_
  rotate_left
  · (intro w' hG; go_simp; try with_reducible rfl)
  try simp only [Act.put, List.setIfInBounds_toArray, List.set_cons_zero, List.set_cons_succ]
  refine wpR_take grow_rf grow_tr 2 rfl (by kernel_rfl) (fun _ _ _ h => h) rfl (v := ?_) ?_ ?_
  rotate_left
  · (intro w' hG; go_simp; try with_reducible rfl)
  try simp only [Act.put, List.setIfInBounds_toArray, List.set_cons_zero, List.set_cons_succ]
  refine wpR_call 1 rfl (by kernel_rfl) rfl fun K hK => ?_
  go_simp
  refine (HD.out _ hlb.drew).mono ?_
  rintro r w4 ⟨rfl, hb4⟩
  refine hK.out _ _ (.inr (hb4)) ?_
  clear hK
  try simp only [Act.put, List.setIfInBounds_toArray, List.set_cons_zero, List.set_cons_succ]
  clear Rp0 Fp0
  have hb4 := Grow.of_drew hb4
  clear cp0 fp0 lp0
  have hg4 := hb4
  have p0_ := hide ((show Box w3 _ _ from p0.out).grow hg4)
  clear p0
  have p0 := p0_
  clear p0_
  have hlb := hlb.grow hg4
  have HG4 := hide (Grow.trans (show Grow w w3 from HG3.out) hg4)
  clear HG3
  have hsz4 : w.heap.size ≤ w4.heap.size := HG4.out.size
  have hq4 : w3.heap.size ≤ w4.heap.size := hg4.size
  have HS4 := hide hg4
  clear hb4 hg4
  obtain ⟨cp0, fp0, lp0⟩ := (show Box w4 _ _ from p0.out).rules
  have Rp0 := fun (W : World) (h : Grow w4 W) => ((show Box w4 _ _ from p0.out).grow h).cell
  have Fp0 := fun (W : World) (h : Grow w4 W) => ((show Box w4 _ _ from p0.out).grow h).fz
  refine wpR_call 3 rfl (by kernel_rfl) rfl fun K hK => ?_
  go_simp
  refine (HR.out _ hlb).mono ?_
  rintro r w5 ⟨rfl, hb5⟩
  refine hK.out _ _ (.inr (hb5)) ?_
  clear hK
  try simp only [Act.put, List.setIfInBounds_toArray, List.set_cons_zero, List.set_cons_succ]
  clear Rp0 Fp0
  clear cp0 fp0 lp0
  have hg5 := hb5
  have p0_ := hide ((show Box w4 _ _ from p0.out).grow hg5)
  clear p0
  have p0 := p0_
  clear p0_
  have hlb := hlb.grow hg5
  have HG5 := hide (Grow.trans (show Grow w w4 from HG4.out) hg5)
  clear HG4
  have hsz5 : w.heap.size ≤ w5.heap.size := HG5.out.size
  have hq5 : w4.heap.size ≤ w5.heap.size := hg5.size
  have HS5 := hide hg5
  clear hb5 hg5
  obtain ⟨cp0, fp0, lp0⟩ := (show Box w5 _ _ from p0.out).rules
  have Rp0 := fun (W : World) (h : Grow w5 W) => ((show Box w5 _ _ from p0.out).grow h).cell
  have Fp0 := fun (W : World) (h : Grow w5 W) => ((show Box w5 _ _ from p0.out).grow h).fz
  refine wpR_take grow_rf grow_tr 4 rfl (by kernel_rfl) (fun _ _ _ h => h) rfl (v := ?_) ?_ ?_
  rotate_left
  · (intro w' hG; go_simp; try with_reducible rfl)
  try simp only [Act.put, List.setIfInBounds_toArray, List.set_cons_zero, List.set_cons_succ]
  refine wpR_done (by kernel_rfl) ?_ _
  clear Rp0 Fp0
  go_wp2_with fail
  refine (HR.out _ hlb).mono ?_
  rintro r w6 ⟨rfl, hb6⟩
  clear cp0 fp0 lp0
  have hg6 := hb6
  have p0_ := hide ((show Box w5 _ _ from p0.out).grow hg6)
  clear p0
  have p0 := p0_
  clear p0_
  have hlb := hlb.grow hg6
  have HG6 := hide (Grow.trans (show Grow w w5 from HG5.out) hg6)
  clear HG5
  have hsz6 : w.heap.size ≤ w6.heap.size := HG6.out.size
  have hq6 : w5.heap.size ≤ w6.heap.size := hg6.size
  have HS6 := hide hg6
  clear hb6 hg6
  obtain ⟨cp0, fp0, lp0⟩ := (show Box w6 _ _ from p0.out).rules
  go_wp2_with fail
  refine (hZ.out _ hlb).mono ?_
  rintro r w7 ⟨rfl, hb7⟩
  clear cp0 fp0 lp0
  have hg7 := hb7
  have p0_ := hide ((show Box w6 _ _ from p0.out).grow hg7)
  clear p0
  have p0 := p0_
  clear p0_
  have hlb := hlb.grow hg7
  have HG7 := hide (Grow.trans (show Grow w w6 from HG6.out) hg7)
  clear HG6
  have hsz7 : w.heap.size ≤ w7.heap.size := HG7.out.size
  have hq7 : w6.heap.size ≤ w7.heap.size := hg7.size
  have HS7 := hide hg7
  clear hb7 hg7
  obtain ⟨cp0, fp0, lp0⟩ := (show Box w7 _ _ from p0.out).rules
  go_wp2_with fail
  refine (works14_any _).mono ?_
  rintro r w8 ⟨rfl, hb8⟩
  clear cp0 fp0 lp0
  have hg8 := hb8
  have p0_ := hide ((show Box w7 _ _ from p0.out).grow hg8)
  clear p0
  have p0 := p0_
  clear p0_
  have hlb := hlb.grow hg8
  have HG8 := hide (Grow.trans (show Grow w w7 from HG7.out) hg8)
  clear HG7
  have hsz8 : w.heap.size ≤ w8.heap.size := HG8.out.size
  have hq8 : w7.heap.size ≤ w8.heap.size := hg8.size
  have HS8 := hide hg8
  clear hb8 hg8
  obtain ⟨cp0, fp0, lp0⟩ := (show Box w8 _ _ from p0.out).rules
  go_wp2
  go_ret
  exact ⟨rfl, HG8.out⟩
set_option maxRecDepth 100000 in
set_option maxHeartbeats 2000000 in
theorem sealEncodes_yes (p : Pkt) (A : Option Addr) (l : List UInt8) (c : Nat) (w : World) (ok : p.Ok) (hl : l.length ≤ c) (hc : c ≤ 9223372036854775807) (hb : Bytes w A l) (h : sealB p (l.take 1030) = true) :
    Calls Try.prog 17 #[pv p A l.length c] w fun e w' => e = .returned (.bool true) ∧ Grow w w' := by
  go_enter Try.func17, Try.ntmps17
  go_wp2_with fail
  refine (cut14_any p A l c _ hl hc (hb.alloc _)).mono ?_
  rintro r w1 ⟨A1, c1, rfl, hown, hb1⟩
  have hlb := hown.bytes
  have hlc := hown.le
  have hlt1 := fun q h => hown.lt (q := q) h
  have hln : (l.take 1030).length ≤ 1030 := by rw [List.length_take]; omega
  have hlo : ∀ q, blk A1 = some q → q ∉ [w.heap.size] := fun q hq => by have := hown.base hq; simp at this; simp; omega
  clear hown hb
  generalize l.take 1030 = m at *
  obtain ⟨p0, hg1⟩ := peel1 hb1
  have p0_ := hide p0
  clear p0
  have p0 := p0_
  clear p0_
  have HG1 := hide (show Grow w w1 from hg1)
  have hsz1 : w.heap.size ≤ w1.heap.size := HG1.out.size
  have hq1 : w.heap.size ≤ w1.heap.size := hg1.size
  have HS1 := hide hg1
  clear hb1 hg1
  obtain ⟨cp0, fp0, lp0⟩ := (show Box w1 _ _ from p0.out).rules
  have HD := hide (fun W hh => sealgood_any p A1 m c1 W hh (by omega))
  have HR := hide (fun W hh => refsealgood_any p A1 m c1 W hh (by omega))
  rw [h] at HD HR
  obtain ⟨q, hdq, hsq⟩ := dec_frame p m ok h
  have hfl : (frameOf p m).length ≤ 1055 := by have := frame_len p m; have := headBytes_len p; have := (body_len p m h).1; omega
  have hsame := hide hsq
  have hE := hide (fun W hh h2 => encode_yes p A1 m c1 W hh (by omega) h2 h)
  have hZ := hide (fun W hh h2 => size_yes p A1 m c1 W hh (by omega) h2 h)
  have hB := hide (fun W hh => refsealbytes_any p A1 m c1 W hh h)
  have hD := hide (fun A c W h h1 h2 => decode_any A (frameOf p m) c W h h1 h2)
  rw [hdq] at hD
  dsimp only at hD
  generalize frameOf p m = s at *
  have hle : (s.length : Int) ≤ 1100 := by omega
  clear h hdq hsq
  go_wp2_with fail
  clear cp0 fp0 lp0
  generalize hW2 : (World.setCell (World.setCell (World.setCell (World.setCell (World.setCell (World.setCell (World.setCell (World.setCell (World.setCell (World.setCell (World.setCell (World.setCell w1 _ _) _ _) _ _) _ _) _ _) _ _) _ _) _ _) _ _) _ _) _ _) _ _) = w2
  have np0 := Box.store12 (show Box w1 _ _ from p0.out) hW2
  have hb2 := Kept.store12 hW2
  clear hW2 p0
  have hg2 := hb2
  have hlb := hlb.kept hg2 hlo
  have HG2 := hide (Kept.fresh1 hg2 (show Grow w w1 from HG1.out) (by omega))
  clear HG1
  have hsz2 : w.heap.size ≤ w2.heap.size := HG2.out.size
  have hq2 : w1.heap.size ≤ w2.heap.size := hg2.size
  have HS2 := hide hg2
  clear hb2 hg2
  have p0 := hide np0
  clear np0
  obtain ⟨cp0, fp0, lp0⟩ := (show Box w2 _ _ from p0.out).rules
  refine (hE.out _ hlb (fun g hg => by have := hlt1 g hg; omega)).mono ?_
  rintro r w3 ⟨⟨A3, c3, rfl, hown3⟩, hb3⟩
  have h3 := hown3.bytes
  clear hown3
  clear cp0 fp0 lp0
  have hg3 := hb3
  have p0_ := hide ((show Box w2 _ _ from p0.out).grow hg3)
  clear p0
  have p0 := p0_
  clear p0_
  have hlb := hlb.grow hg3
  have HG3 := hide (Grow.trans (show Grow w w2 from HG2.out) hg3)
  clear HG2
  have hsz3 : w.heap.size ≤ w3.heap.size := HG3.out.size
  have hq3 : w2.heap.size ≤ w3.heap.size := hg3.size
  have HS3 := hide hg3
  clear hb3 hg3
  obtain ⟨cp0, fp0, lp0⟩ := (show Box w3 _ _ from p0.out).rules
  go_wp2_with fail
  have Rp0 := fun (W : World) (h : Grow w3.drew W) => ((show Box w3 _ _ from p0.out).grow (Grow.of_drew h)).cell
  have Fp0 := fun (W : World) (h : Grow w3.drew W) => ((show Box w3 _ _ from p0.out).grow (Grow.of_drew h)).fz
  refine wpR_region (Grow) [] (by kernel_rfl) ?_
  refine wpR_take grow_rf grow_tr 0 rfl (by kernel_rfl) (fun _ _ _ h => h) rfl (v := ?_) ?_ ?_
  rotate_left
  · (intro w' hG; go_simp; try with_reducible rfl)
  try simp only [Act.put, List.setIfInBounds_toArray, List.set_cons_zero, List.set_cons_succ]
  refine wpR_take grow_rf grow_tr 2 rfl (by kernel_rfl) (fun _ _ _ h => h) rfl (v := ?_) ?_ ?_
  rotate_left
  · (intro w' hG; go_simp; try with_reducible rfl)
  try simp only [Act.put, List.setIfInBounds_toArray, List.set_cons_zero, List.set_cons_succ]
  refine wpR_call 1 rfl (by kernel_rfl) rfl fun K hK => ?_
  go_simp
  refine (HD.out _ hlb.drew).mono ?_
  rintro r w4 ⟨rfl, hb4⟩
  refine hK.out _ _ (.inr (hb4)) ?_
  clear hK
  try simp only [Act.put, List.setIfInBounds_toArray, List.set_cons_zero, List.set_cons_succ]
  clear Rp0 Fp0
  have hb4 := Grow.of_drew hb4
  clear cp0 fp0 lp0
  have hg4 := hb4
  have p0_ := hide ((show Box w3 _ _ from p0.out).grow hg4)
  clear p0
  have p0 := p0_
  clear p0_
  have hlb := hlb.grow hg4
  have h3 := h3.grow hg4
  have HG4 := hide (Grow.trans (show Grow w w3 from HG3.out) hg4)
  clear HG3
  have hsz4 : w.heap.size ≤ w4.heap.size := HG4.out.size
  have hq4 : w3.heap.size ≤ w4.heap.size := hg4.size
  have HS4 := hide hg4
  clear hb4 hg4
  obtain ⟨cp0, fp0, lp0⟩ := (show Box w4 _ _ from p0.out).rules
  have Rp0 := fun (W : World) (h : Grow w4 W) => ((show Box w4 _ _ from p0.out).grow h).cell
  have Fp0 := fun (W : World) (h : Grow w4 W) => ((show Box w4 _ _ from p0.out).grow h).fz
  refine wpR_call 3 rfl (by kernel_rfl) rfl fun K hK => ?_
  go_simp
  refine (HR.out _ hlb).mono ?_
  rintro r w5 ⟨rfl, hb5⟩
  refine hK.out _ _ (.inr (hb5)) ?_
  clear hK
  try simp only [Act.put, List.setIfInBounds_toArray, List.set_cons_zero, List.set_cons_succ]
  clear Rp0 Fp0
  clear cp0 fp0 lp0
  have hg5 := hb5
  have p0_ := hide ((show Box w4 _ _ from p0.out).grow hg5)
  clear p0
  have p0 := p0_
  clear p0_
  have hlb := hlb.grow hg5
  have h3 := h3.grow hg5
  have HG5 := hide (Grow.trans (show Grow w w4 from HG4.out) hg5)
  clear HG4
  have hsz5 : w.heap.size ≤ w5.heap.size := HG5.out.size
  have hq5 : w4.heap.size ≤ w5.heap.size := hg5.size
  have HS5 := hide hg5
  clear hb5 hg5
  obtain ⟨cp0, fp0, lp0⟩ := (show Box w5 _ _ from p0.out).rules
  have Rp0 := fun (W : World) (h : Grow w5 W) => ((show Box w5 _ _ from p0.out).grow h).cell
  have Fp0 := fun (W : World) (h : Grow w5 W) => ((show Box w5 _ _ from p0.out).grow h).fz
  refine wpR_take grow_rf grow_tr 4 rfl (by kernel_rfl) (fun _ _ _ h => h) rfl (v := ?_) ?_ ?_
  rotate_left
  · (intro w' hG; go_simp; try with_reducible rfl)
  try simp only [Act.put, List.setIfInBounds_toArray, List.set_cons_zero, List.set_cons_succ]
  refine wpR_done (by kernel_rfl) ?_ _
  clear Rp0 Fp0
  go_wp2_with fail
  refine (HR.out _ hlb).mono ?_
  rintro r w6 ⟨rfl, hb6⟩
  clear cp0 fp0 lp0
  have hg6 := hb6
  have p0_ := hide ((show Box w5 _ _ from p0.out).grow hg6)
  clear p0
  have p0 := p0_
  clear p0_
  have hlb := hlb.grow hg6
  have h3 := h3.grow hg6
  have HG6 := hide (Grow.trans (show Grow w w5 from HG5.out) hg6)
  clear HG5
  have hsz6 : w.heap.size ≤ w6.heap.size := HG6.out.size
  have hq6 : w5.heap.size ≤ w6.heap.size := hg6.size
  have HS6 := hide hg6
  clear hb6 hg6
  obtain ⟨cp0, fp0, lp0⟩ := (show Box w6 _ _ from p0.out).rules
  go_wp2_with fail
  refine (hB.out _ hlb).mono ?_
  rintro r w7 ⟨A7, c7, rfl, hown7, hb7⟩
  have h7 := hown7.bytes
  have hc7 := hown7.le
  clear hown7
  clear cp0 fp0 lp0
  have hg7 := hb7
  have p0_ := hide ((show Box w6 _ _ from p0.out).grow hg7)
  clear p0
  have p0 := p0_
  clear p0_
  have hlb := hlb.grow hg7
  have h3 := h3.grow hg7
  have HG7 := hide (Grow.trans (show Grow w w6 from HG6.out) hg7)
  clear HG6
  have hsz7 : w.heap.size ≤ w7.heap.size := HG7.out.size
  have hq7 : w6.heap.size ≤ w7.heap.size := hg7.size
  have HS7 := hide hg7
  clear hb7 hg7
  obtain ⟨cp0, fp0, lp0⟩ := (show Box w7 _ _ from p0.out).rules
  go_wp2_with fail
  refine (hD.out _ _ _ h7 hc7.1 hc7.2).mono ?_
  rintro r w8 ⟨⟨A8, c8, rfl, hc8, hcm8, hx⟩, hb8⟩
  clear cp0 fp0 lp0
  have hg8 := hb8
  have p0_ := hide ((show Box w7 _ _ from p0.out).grow hg8)
  clear p0
  have p0 := p0_
  clear p0_
  have hlb := hlb.grow hg8
  have h3 := h3.grow hg8
  have HG8 := hide (Grow.trans (show Grow w w7 from HG7.out) hg8)
  clear HG7
  have hsz8 : w.heap.size ≤ w8.heap.size := HG8.out.size
  have hq8 : w7.heap.size ≤ w8.heap.size := hg8.size
  have HS8 := hide hg8
  clear hb8 hg8
  obtain ⟨cp0, fp0, lp0⟩ := (show Box w8 _ _ from p0.out).rules
  clear h7
  have HS := hide (fun W h1 h2 => refsame_any p q A1 A8 m m c1 c8 W h1 h2)
  rw [hsame.out, beq_self_eq_true, Bool.true_and] at HS
  go_wp2_with fail
  generalize hW9 : World.alloc w8 _ = w9
  have hb9 := Grow.of_eq hW9
  clear hW9
  clear cp0 fp0 lp0
  obtain ⟨x0, hg9⟩ := peel1 hb9
  have p0_ := hide ((show Box w8 _ _ from p0.out).grow hg9)
  clear p0
  have p0 := p0_
  clear p0_
  have x0_ := hide x0
  clear x0
  have x0 := x0_
  clear x0_
  have hlb := hlb.grow hg9
  have h3 := h3.grow hg9
  have hx := hx.grow hg9
  have HG9 := hide (Grow.trans (show Grow w w8 from HG8.out) hg9)
  clear HG8
  have hsz9 : w.heap.size ≤ w9.heap.size := HG9.out.size
  have hq9 : w8.heap.size ≤ w9.heap.size := hg9.size
  have HS9 := hide hg9
  clear hb9 hg9
  obtain ⟨cp0, fp0, lp0⟩ := (show Box w9 _ _ from p0.out).rules
  obtain ⟨cx0, fx0, lx0⟩ := (show Box w9 _ _ from x0.out).rules
  have Rp0 := fun (W : World) (h : Grow w9.drew W) => ((show Box w9 _ _ from p0.out).grow (Grow.of_drew h)).cell
  have Fp0 := fun (W : World) (h : Grow w9.drew W) => ((show Box w9 _ _ from p0.out).grow (Grow.of_drew h)).fz
  have Rx0 := fun (W : World) (h : Grow w9.drew W) => ((show Box w9 _ _ from x0.out).grow (Grow.of_drew h)).cell
  have Fx0 := fun (W : World) (h : Grow w9.drew W) => ((show Box w9 _ _ from x0.out).grow (Grow.of_drew h)).fz
  have Vh3 := fun (W : World) (h : Grow w9.drew W) => conv_any c3 (h3.grow (Grow.of_drew h))
  refine wpR_region (Grow) [] (by kernel_rfl) ?_
  refine wpR_take grow_rf grow_tr 0 rfl (by kernel_rfl) (fun _ _ _ h => h) rfl (v := ?_) ?_ ?_
  rotate_left
  · (intro w' hG; go_simp; try with_reducible rfl)
  try simp only [Act.put, List.setIfInBounds_toArray, List.set_cons_zero, List.set_cons_succ]
  refine wpR_take grow_rf grow_tr 1 rfl (by kernel_rfl) (fun _ _ _ h => h) rfl (v := ?_) ?_ ?_
  rotate_left
  · (intro w' hG; go_simp; try with_reducible rfl)
  try simp only [Act.put, List.setIfInBounds_toArray, List.set_cons_zero, List.set_cons_succ]
  refine wpR_take grow_rf grow_tr 2 rfl (by kernel_rfl) (fun _ _ _ h => h) rfl (v := ?_) ?_ ?_
  rotate_left
  · (intro w' hG; go_simp; try with_reducible rfl)
  try simp only [Act.put, List.setIfInBounds_toArray, List.set_cons_zero, List.set_cons_succ]
  refine wpR_call 3 rfl (by kernel_rfl) rfl fun K hK => ?_
  go_simp
  refine (hB.out _ hlb.drew).mono ?_
  rintro r w10 ⟨A10, c10, rfl, hown10, hb10⟩
  have h10 := hown10.bytes
  clear hown10
  refine hK.out _ _ (.inr (hb10)) ?_
  clear hK
  try simp only [Act.put, List.setIfInBounds_toArray, List.set_cons_zero, List.set_cons_succ]
  clear Rp0 Fp0 Rx0 Fx0
  clear Vh3
  have hb10 := Grow.of_drew hb10
  clear cp0 fp0 lp0 cx0 fx0 lx0
  have hg10 := hb10
  have p0_ := hide ((show Box w9 _ _ from p0.out).grow hg10)
  clear p0
  have p0 := p0_
  clear p0_
  have x0_ := hide ((show Box w9 _ _ from x0.out).grow hg10)
  clear x0
  have x0 := x0_
  clear x0_
  have hlb := hlb.grow hg10
  have h3 := h3.grow hg10
  have hx := hx.grow hg10
  have HG10 := hide (Grow.trans (show Grow w w9 from HG9.out) hg10)
  clear HG9
  have hsz10 : w.heap.size ≤ w10.heap.size := HG10.out.size
  have hq10 : w9.heap.size ≤ w10.heap.size := hg10.size
  have HS10 := hide hg10
  clear hb10 hg10
  obtain ⟨cp0, fp0, lp0⟩ := (show Box w10 _ _ from p0.out).rules
  obtain ⟨cx0, fx0, lx0⟩ := (show Box w10 _ _ from x0.out).rules
  have Rp0 := fun (W : World) (h : Grow w10 W) => ((show Box w10 _ _ from p0.out).grow h).cell
  have Fp0 := fun (W : World) (h : Grow w10 W) => ((show Box w10 _ _ from p0.out).grow h).fz
  have Rx0 := fun (W : World) (h : Grow w10 W) => ((show Box w10 _ _ from x0.out).grow h).cell
  have Fx0 := fun (W : World) (h : Grow w10 W) => ((show Box w10 _ _ from x0.out).grow h).fz
  have Vh3 := fun (W : World) (h : Grow w10 W) => conv_any c3 (h3.grow h)
  have Vh10 := fun (W : World) (h : Grow w10 W) => conv_any c10 (h10.grow h)
  refine wpR_take grow_rf grow_tr 4 rfl (by kernel_rfl) (fun _ _ _ h => h) rfl (v := ?_) ?_ ?_
  rotate_left
  · (intro w' hG; go_simp; try with_reducible rfl)
  try simp only [Act.put, List.setIfInBounds_toArray, List.set_cons_zero, List.set_cons_succ]
  refine wpR_take grow_rf grow_tr 5 rfl (by kernel_rfl) (fun _ _ _ h => h) rfl (v := ?_) ?_ ?_
  rotate_left
  · (intro w' hG; go_simp; try with_reducible rfl)
  try simp only [Act.put, List.setIfInBounds_toArray, List.set_cons_zero, List.set_cons_succ]
  refine wpR_take grow_rf grow_tr 6 rfl (by kernel_rfl) (fun _ _ _ h => h) rfl (v := ?_) ?_ ?_
  rotate_left
  · (intro w' hG; go_simp; try with_reducible rfl)
  try simp only [Act.put, List.setIfInBounds_toArray, List.set_cons_zero, List.set_cons_succ]
  refine wpR_take grow_rf grow_tr 7 rfl (by kernel_rfl) (fun _ _ _ h => h) rfl (v := ?_) ?_ ?_
  rotate_left
  · (intro w' hG; go_simp; try with_reducible rfl)
  try simp only [Act.put, List.setIfInBounds_toArray, List.set_cons_zero, List.set_cons_succ]
  refine wpR_take grow_rf grow_tr 8 rfl (by kernel_rfl) (fun _ _ _ h => h) rfl (v := ?_) ?_ ?_
  rotate_left
  · (intro w' hG; go_simp; try with_reducible rfl)
  try simp only [Act.put, List.setIfInBounds_toArray, List.set_cons_zero, List.set_cons_succ]
  refine wpR_take grow_rf grow_tr 9 rfl (by kernel_rfl) (fun _ _ _ h => h) rfl (v := ?_) ?_ ?_
  rotate_left
  · (intro w' hG; go_simp; try with_reducible rfl)
  try simp only [Act.put, List.setIfInBounds_toArray, List.set_cons_zero, List.set_cons_succ]
  refine wpR_take grow_rf grow_tr 10 rfl (by kernel_rfl) (fun _ _ _ h => h) rfl (v := ?_) ?_ ?_
  rotate_left
  · (intro w' hG; go_simp; try with_reducible rfl)
  try simp only [Act.put, List.setIfInBounds_toArray, List.set_cons_zero, List.set_cons_succ]
  refine wpR_take grow_rf grow_tr 11 rfl (by kernel_rfl) (fun _ _ _ h => h) rfl (v := ?_) ?_ ?_
  rotate_left
  · (intro w' hG; go_simp; try with_reducible rfl)
  try simp only [Act.put, List.setIfInBounds_toArray, List.set_cons_zero, List.set_cons_succ]
  refine wpR_take grow_rf grow_tr 13 rfl (by kernel_rfl) (fun _ _ _ h => h) rfl (v := ?_) ?_ ?_
  rotate_left
  · (intro w' hG; go_simp; try with_reducible rfl)
  try simp only [Act.put, List.setIfInBounds_toArray, List.set_cons_zero, List.set_cons_succ]
  refine wpR_take grow_rf grow_tr 14 rfl (by kernel_rfl) (fun _ _ _ h => h) rfl (v := ?_) ?_ ?_
  rotate_left
  · (intro w' hG; go_simp; try with_reducible rfl)
  try simp only [Act.put, List.setIfInBounds_toArray, List.set_cons_zero, List.set_cons_succ]
  refine wpR_call 12 rfl (by kernel_rfl) rfl fun K hK => ?_
  go_simp
  refine (hZ.out _ hlb (fun g hg => by have := hlt1 g hg; omega)).mono ?_
  rintro r w11 ⟨rfl, hb11⟩
  refine hK.out _ _ (.inr (hb11)) ?_
  clear hK
  try simp only [Act.put, List.setIfInBounds_toArray, List.set_cons_zero, List.set_cons_succ]
  clear Rp0 Fp0 Rx0 Fx0
  clear Vh3 Vh10
  clear cp0 fp0 lp0 cx0 fx0 lx0
  have hg11 := hb11
  have p0_ := hide ((show Box w10 _ _ from p0.out).grow hg11)
  clear p0
  have p0 := p0_
  clear p0_
  have x0_ := hide ((show Box w10 _ _ from x0.out).grow hg11)
  clear x0
  have x0 := x0_
  clear x0_
  have hlb := hlb.grow hg11
  have h3 := h3.grow hg11
  have hx := hx.grow hg11
  have h10 := h10.grow hg11
  have HG11 := hide (Grow.trans (show Grow w w10 from HG10.out) hg11)
  clear HG10
  have hsz11 : w.heap.size ≤ w11.heap.size := HG11.out.size
  have hq11 : w10.heap.size ≤ w11.heap.size := hg11.size
  have HS11 := hide hg11
  clear hb11 hg11
  obtain ⟨cp0, fp0, lp0⟩ := (show Box w11 _ _ from p0.out).rules
  obtain ⟨cx0, fx0, lx0⟩ := (show Box w11 _ _ from x0.out).rules
  have Rp0 := fun (W : World) (h : Grow w11 W) => ((show Box w11 _ _ from p0.out).grow h).cell
  have Fp0 := fun (W : World) (h : Grow w11 W) => ((show Box w11 _ _ from p0.out).grow h).fz
  have Rx0 := fun (W : World) (h : Grow w11 W) => ((show Box w11 _ _ from x0.out).grow h).cell
  have Fx0 := fun (W : World) (h : Grow w11 W) => ((show Box w11 _ _ from x0.out).grow h).fz
  have Vh3 := fun (W : World) (h : Grow w11 W) => conv_any c3 (h3.grow h)
  have Vh10 := fun (W : World) (h : Grow w11 W) => conv_any c10 (h10.grow h)
  refine wpR_take grow_rf grow_tr 15 rfl (by kernel_rfl) (fun _ _ _ h => h) rfl (v := ?_) ?_ ?_
  rotate_left
  · (intro w' hG; go_simp; try with_reducible rfl)
  try simp only [Act.put, List.setIfInBounds_toArray, List.set_cons_zero, List.set_cons_succ]
  refine wpR_take grow_rf grow_tr 16 rfl (by kernel_rfl) (fun _ _ _ h => h) rfl (v := ?_) ?_ ?_
  rotate_left
  · (intro w' hG; go_simp; try with_reducible rfl)
  try simp only [Act.put, List.setIfInBounds_toArray, List.set_cons_zero, List.set_cons_succ]
  refine wpR_take grow_rf grow_tr 17 rfl (by kernel_rfl) (fun _ _ _ h => h) rfl (v := ?_) ?_ ?_
  rotate_left
  · (intro w' hG; go_simp; try with_reducible rfl)
  try simp only [Act.put, List.setIfInBounds_toArray, List.set_cons_zero, List.set_cons_succ]
  refine wpR_take grow_rf grow_tr 18 rfl (by kernel_rfl) (fun _ _ _ h => h) rfl (v := ?_) ?_ ?_
  rotate_left
  · (intro w' hG; go_simp; try with_reducible rfl)
  try simp only [Act.put, List.setIfInBounds_toArray, List.set_cons_zero, List.set_cons_succ]
  refine wpR_take grow_rf grow_tr 19 rfl (by kernel_rfl) (fun _ _ _ h => h) rfl (v := ?_) ?_ ?_
  rotate_left
  · (intro w' hG; go_simp; try with_reducible rfl)
  try simp only [Act.put, List.setIfInBounds_toArray, List.set_cons_zero, List.set_cons_succ]
  refine wpR_take grow_rf grow_tr 20 rfl (by kernel_rfl) (fun _ _ _ h => h) rfl (v := ?_) ?_ ?_
  rotate_left
  · (intro w' hG; go_simp; try with_reducible rfl)
  try simp only [Act.put, List.setIfInBounds_toArray, List.set_cons_zero, List.set_cons_succ]
  refine wpR_take grow_rf grow_tr 21 rfl (by kernel_rfl) (fun _ _ _ h => h) rfl (v := ?_) ?_ ?_
  rotate_left
  · (intro w' hG; go_simp; try with_reducible rfl)
  try simp only [Act.put, List.setIfInBounds_toArray, List.set_cons_zero, List.set_cons_succ]
  refine wpR_take grow_rf grow_tr 22 rfl (by kernel_rfl) (fun _ _ _ h => h) rfl (v := ?_) ?_ ?_
  rotate_left
  · (intro w' hG; go_simp; try with_reducible rfl)
  try simp only [Act.put, List.setIfInBounds_toArray, List.set_cons_zero, List.set_cons_succ]
  refine wpR_take grow_rf grow_tr 23 rfl (by kernel_rfl) (fun _ _ _ h => h) rfl (v := ?_) ?_ ?_
  rotate_left
  · (intro w' hG; go_simp; try with_reducible rfl)
  try simp only [Act.put, List.setIfInBounds_toArray, List.set_cons_zero, List.set_cons_succ]
  refine wpR_take grow_rf grow_tr 24 rfl (by kernel_rfl) (fun _ _ _ h => h) rfl (v := ?_) ?_ ?_
  rotate_left
  · (intro w' hG; go_simp; try with_reducible rfl)
  try simp only [Act.put, List.setIfInBounds_toArray, List.set_cons_zero, List.set_cons_succ]
  refine wpR_take grow_rf grow_tr 25 rfl (by kernel_rfl) (fun _ _ _ h => h) rfl (v := ?_) ?_ ?_
  rotate_left
  · (intro w' hG; go_simp; try with_reducible rfl)
  try simp only [Act.put, List.setIfInBounds_toArray, List.set_cons_zero, List.set_cons_succ]
  refine wpR_take grow_rf grow_tr 26 rfl (by kernel_rfl) (fun _ _ _ h => h) rfl (v := ?_) ?_ ?_
  rotate_left
  · (intro w' hG; go_simp; try with_reducible rfl)
  try simp only [Act.put, List.setIfInBounds_toArray, List.set_cons_zero, List.set_cons_succ]
  refine wpR_take grow_rf grow_tr 27 rfl (by kernel_rfl) (fun _ _ _ h => h) rfl (v := ?_) ?_ ?_
  rotate_left
  · (intro w' hG; go_simp; try with_reducible rfl)
  try simp only [Act.put, List.setIfInBounds_toArray, List.set_cons_zero, List.set_cons_succ]
  refine wpR_take grow_rf grow_tr 28 rfl (by kernel_rfl) (fun _ _ _ h => h) rfl (v := ?_) ?_ ?_
  rotate_left
  · (intro w' hG; go_simp; try with_reducible rfl)
  try simp only [Act.put, List.setIfInBounds_toArray, List.set_cons_zero, List.set_cons_succ]
  refine wpR_call 29 rfl (by kernel_rfl) rfl fun K hK => ?_
  go_simp
  refine (HS.out _ hlb hx).mono ?_
  rintro r w12 ⟨rfl, hb12⟩
  refine hK.out _ _ (.inr (hb12)) ?_
  clear hK
  try simp only [Act.put, List.setIfInBounds_toArray, List.set_cons_zero, List.set_cons_succ]
  clear Rp0 Fp0 Rx0 Fx0
  clear Vh3 Vh10
  clear cp0 fp0 lp0 cx0 fx0 lx0
  have hg12 := hb12
  have p0_ := hide ((show Box w11 _ _ from p0.out).grow hg12)
  clear p0
  have p0 := p0_
  clear p0_
  have x0_ := hide ((show Box w11 _ _ from x0.out).grow hg12)
  clear x0
  have x0 := x0_
  clear x0_
  have hlb := hlb.grow hg12
  have h3 := h3.grow hg12
  have hx := hx.grow hg12
  have h10 := h10.grow hg12
  have HG12 := hide (Grow.trans (show Grow w w11 from HG11.out) hg12)
  clear HG11
  have hsz12 : w.heap.size ≤ w12.heap.size := HG12.out.size
  have hq12 : w11.heap.size ≤ w12.heap.size := hg12.size
  have HS12 := hide hg12
  clear hb12 hg12
  obtain ⟨cp0, fp0, lp0⟩ := (show Box w12 _ _ from p0.out).rules
  obtain ⟨cx0, fx0, lx0⟩ := (show Box w12 _ _ from x0.out).rules
  have Rp0 := fun (W : World) (h : Grow w12 W) => ((show Box w12 _ _ from p0.out).grow h).cell
  have Fp0 := fun (W : World) (h : Grow w12 W) => ((show Box w12 _ _ from p0.out).grow h).fz
  have Rx0 := fun (W : World) (h : Grow w12 W) => ((show Box w12 _ _ from x0.out).grow h).cell
  have Fx0 := fun (W : World) (h : Grow w12 W) => ((show Box w12 _ _ from x0.out).grow h).fz
  have Vh3 := fun (W : World) (h : Grow w12 W) => conv_any c3 (h3.grow h)
  have Vh10 := fun (W : World) (h : Grow w12 W) => conv_any c10 (h10.grow h)
  refine wpR_take grow_rf grow_tr 30 rfl (by kernel_rfl) (fun _ _ _ h => h) rfl (v := ?_) ?_ ?_
  rotate_left
  · (intro w' hG; go_simp; try with_reducible rfl)
  try simp only [Act.put, List.setIfInBounds_toArray, List.set_cons_zero, List.set_cons_succ]
  refine wpR_take grow_rf grow_tr 31 rfl (by kernel_rfl) (fun _ _ _ h => h) rfl (v := ?_) ?_ ?_
  rotate_left
  · (intro w' hG; go_simp; try with_reducible rfl)
  try simp only [Act.put, List.setIfInBounds_toArray, List.set_cons_zero, List.set_cons_succ]
  refine wpR_call 32 rfl (by kernel_rfl) rfl fun K hK => ?_
  go_simp
  refine (works14_any _).mono ?_
  rintro r w13 ⟨rfl, hb13⟩
  refine hK.out _ _ (.inr (hb13)) ?_
  clear hK
  try simp only [Act.put, List.setIfInBounds_toArray, List.set_cons_zero, List.set_cons_succ]
  clear Rp0 Fp0 Rx0 Fx0
  clear Vh3 Vh10
  clear cp0 fp0 lp0 cx0 fx0 lx0
  have hg13 := hb13
  have p0_ := hide ((show Box w12 _ _ from p0.out).grow hg13)
  clear p0
  have p0 := p0_
  clear p0_
  have x0_ := hide ((show Box w12 _ _ from x0.out).grow hg13)
  clear x0
  have x0 := x0_
  clear x0_
  have hlb := hlb.grow hg13
  have h3 := h3.grow hg13
  have hx := hx.grow hg13
  have h10 := h10.grow hg13
  have HG13 := hide (Grow.trans (show Grow w w12 from HG12.out) hg13)
  clear HG12
  have hsz13 : w.heap.size ≤ w13.heap.size := HG13.out.size
  have hq13 : w12.heap.size ≤ w13.heap.size := hg13.size
  have HS13 := hide hg13
  clear hb13 hg13
  obtain ⟨cp0, fp0, lp0⟩ := (show Box w13 _ _ from p0.out).rules
  obtain ⟨cx0, fx0, lx0⟩ := (show Box w13 _ _ from x0.out).rules
  have Rp0 := fun (W : World) (h : Grow w13 W) => ((show Box w13 _ _ from p0.out).grow h).cell
  have Fp0 := fun (W : World) (h : Grow w13 W) => ((show Box w13 _ _ from p0.out).grow h).fz
  have Rx0 := fun (W : World) (h : Grow w13 W) => ((show Box w13 _ _ from x0.out).grow h).cell
  have Fx0 := fun (W : World) (h : Grow w13 W) => ((show Box w13 _ _ from x0.out).grow h).fz
  have Vh3 := fun (W : World) (h : Grow w13 W) => conv_any c3 (h3.grow h)
  have Vh10 := fun (W : World) (h : Grow w13 W) => conv_any c10 (h10.grow h)
  refine wpR_take grow_rf grow_tr 33 rfl (by kernel_rfl) (fun _ _ _ h => h) rfl (v := ?_) ?_ ?_
  rotate_left
  · (intro w' hG; go_simp; try with_reducible rfl)
  try simp only [Act.put, List.setIfInBounds_toArray, List.set_cons_zero, List.set_cons_succ]
  refine wpR_take grow_rf grow_tr 34 rfl (by kernel_rfl) (fun _ _ _ h => h) rfl (v := ?_) ?_ ?_
  rotate_left
  · (intro w' hG; go_simp; try with_reducible rfl)
  try simp only [Act.put, List.setIfInBounds_toArray, List.set_cons_zero, List.set_cons_succ]
  refine wpR_done (by kernel_rfl) ?_ _
  clear Rp0 Fp0 Rx0 Fx0
  clear Vh3 Vh10
  go_wp2
  go_ret
  exact ⟨rfl, HG13.out⟩
theorem sealEncodes_any (p : Pkt) (A : Option Addr) (l : List UInt8) (c : Nat) (w : World) (ok : p.Ok) (hl : l.length ≤ c) (hc : c ≤ 9223372036854775807) (hb : Bytes w A l) :
    Calls Try.prog 17 #[pv p A l.length c] w fun e w' => e = .returned (.bool true) ∧ Grow w w' := by
  cases h : sealB p (l.take 1030) with
  | false => exact sealEncodes_no p A l c w ok hl hc hb h
  | true => exact sealEncodes_yes p A l c w ok hl hc hb h
end Go.Proofs.Ytpobjcdcimcdnaa
