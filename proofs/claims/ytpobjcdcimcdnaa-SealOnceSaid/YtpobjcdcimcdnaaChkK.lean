/- The walk of the statement ChunkPuts. -/
import Derived.Test.YtpobjcdcimcdnaaChkH
namespace Go.Proofs.Ytpobjcdcimcdnaa
open Go.RowKit
abbrev chunkH (p : Pkt) : Pkt := { kind := 6, t := p.t, frm := p.frm, seq := p.seq, hops := p.hops, no := 0, to := 0, index := 0, total := 0, stamp := 0, value := 0 }
/-- what was written is read -/
theorem chunk_back (p : Pkt) (l : List UInt8) (h : chunkB p l.length = true) : ∃ q, cg (chunkBytes p l) (chunkH p) = (q, l, [], 0) ∧ sameB p q = true := by
  simp only [chunkB, chunkN, numB, nodeB, countsB, Bool.and_eq_true, beq_iff_eq, decide_eq_true_eq, and_assoc] at h
  obtain ⟨hk, hh, h1, h2, h3, h4, h5, h6, h7, h8, h9, h10⟩ := h
  have hx : ((u64of p.no : Nat) : Int) = p.no := by rw [← u64_of, IntKind.wrap_u64]; omega
  have e1 := u8of_val p.to (by omega) (by omega)
  have e2 := u8of_val p.index (by omega) (by omega)
  have e3 := u8of_val p.total (by omega) (by omega)
  have hg : Buf.getNum (chunkBytes p l) = (u64of p.no, u8of p.to :: u8of p.index :: u8of p.total :: (Buf.sevens l.length ++ l), 0) := by
    unfold chunkBytes
    rw [List.append_assoc]
    exact Buf.sevens_get_back _ _ (u64of_lt _)
  have hb : Buf.getBytes (Buf.sevens l.length ++ l) 64 = (l, [], 0) := by
    have h := Buf.bytes_get_back l [] 64 (by omega) (by omega)
    rwa [List.append_nil] at h
  refine ⟨_, (cg_three hg (by omega) (by omega) (by omega) hb).trans (if_neg (by simp)), ?_⟩
  simp [sameB, restB, keyEq, hx, e1, e2, e3, hk, h1, h2]
set_option maxRecDepth 100000 in
set_option maxHeartbeats 2000000 in
theorem chunkPuts_no (p : Pkt) (A : Option Addr) (l : List UInt8) (c : Nat) (w : World) (hl : l.length ≤ c) (hc : c ≤ 9223372036854775807) (hb : Bytes w A l) (h : chunkB p (l.take 80).length = false) :
    Calls Try.prog 15 #[pv p A l.length c] w fun e w' => e = .returned (.bool true) ∧ Grow w w' := by
  go_enter Try.func15, Try.ntmps15
  go_wp2_with fail
  refine (cut13_any p A l c _ hl hc (hb.alloc _)).mono ?_
  rintro r w1 ⟨A1, c1, rfl, hown, hb1⟩
  have hlb := hown.bytes
  have hlc := hown.le
  have hlt1 := fun q h => hown.lt (q := q) h
  have hln : (l.take 80).length ≤ 80 := by rw [List.length_take]; omega
  have hlo : ∀ q, blk A1 = some q → q ∉ [w.heap.size] := fun q hq => by have := hown.base hq; simp at this; simp; omega
  clear hown hb
  generalize l.take 80 = m at *
  obtain ⟨p0, hg1⟩ := peel1 hb1
  have p0_ := hide p0
  clear p0
  have p0 := p0_
  clear p0_
  have HG1 := hide (show Grow w w1 from hg1)
  have hsz1 : w.heap.size ≤ w1.heap.size := HG1.out.size
  have hq1 : w.heap.size ≤ w1.heap.size := hg1.size
  have HS1 := hide hg1
  clear hb1 hg1
  obtain ⟨cp0, fp0, lp0⟩ := (show Box w1 _ _ from p0.out).rules
  have HD := hide (fun W => chunkgood_any p A1 m.length c1 W (by omega))
  have HR := hide (fun W => refchunkgood_any p A1 m.length c1 W (by omega))
  rw [h] at HD HR
  clear h
  go_wp2_with fail
  clear cp0 fp0 lp0
  generalize hW2 : (World.setCell (World.setCell (World.setCell (World.setCell (World.setCell (World.setCell (World.setCell (World.setCell (World.setCell (World.setCell (World.setCell (World.setCell w1 _ _) _ _) _ _) _ _) _ _) _ _) _ _) _ _) _ _) _ _) _ _) _ _) = w2
  have np0 := Box.store12 (show Box w1 _ _ from p0.out) hW2
  have hb2 := Kept.store12 hW2
  clear hW2 p0
  have hg2 := hb2
  have hlb := hlb.kept hg2 hlo
  have HG2 := hide (Kept.fresh1 hg2 (show Grow w w1 from HG1.out) (by omega))
  clear HG1
  have hsz2 : w.heap.size ≤ w2.heap.size := HG2.out.size
  have hq2 : w1.heap.size ≤ w2.heap.size := hg2.size
  have HS2 := hide hg2
  clear hb2 hg2
  have p0 := hide np0
  clear np0
  obtain ⟨cp0, fp0, lp0⟩ := (show Box w2 _ _ from p0.out).rules
  go_wp2_with fail
  refine (HR.out _).mono ?_
  rintro r w3 ⟨rfl, hb3⟩
  clear cp0 fp0 lp0
  have hg3 := hb3
  have p0_ := hide ((show Box w2 _ _ from p0.out).grow hg3)
  clear p0
  have p0 := p0_
  clear p0_
  have hlb := hlb.grow hg3
  have HG3 := hide (Grow.trans (show Grow w w2 from HG2.out) hg3)
  clear HG2
  have hsz3 : w.heap.size ≤ w3.heap.size := HG3.out.size
  have hq3 : w2.heap.size ≤ w3.heap.size := hg3.size
  have HS3 := hide hg3
  clear hb3 hg3
  obtain ⟨cp0, fp0, lp0⟩ := (show Box w3 _ _ from p0.out).rules
  go_wp2_with fail
  refine (HD.out _).mono ?_
  rintro r w4 ⟨rfl, hb4⟩
  clear cp0 fp0 lp0
  have hg4 := hb4
  have p0_ := hide ((show Box w3 _ _ from p0.out).grow hg4)
  clear p0
  have p0 := p0_
  clear p0_
  have hlb := hlb.grow hg4
  have HG4 := hide (Grow.trans (show Grow w w3 from HG3.out) hg4)
  clear HG3
  have hsz4 : w.heap.size ≤ w4.heap.size := HG4.out.size
  have hq4 : w3.heap.size ≤ w4.heap.size := hg4.size
  have HS4 := hide hg4
  clear hb4 hg4
  obtain ⟨cp0, fp0, lp0⟩ := (show Box w4 _ _ from p0.out).rules
  go_wp2_with fail
  refine (works13_any _).mono ?_
  rintro r w5 ⟨rfl, hb5⟩
  clear cp0 fp0 lp0
  have hg5 := hb5
  have p0_ := hide ((show Box w4 _ _ from p0.out).grow hg5)
  clear p0
  have p0 := p0_
  clear p0_
  have hlb := hlb.grow hg5
  have HG5 := hide (Grow.trans (show Grow w w4 from HG4.out) hg5)
  clear HG4
  have hsz5 : w.heap.size ≤ w5.heap.size := HG5.out.size
  have hq5 : w4.heap.size ≤ w5.heap.size := hg5.size
  have HS5 := hide hg5
  clear hb5 hg5
  obtain ⟨cp0, fp0, lp0⟩ := (show Box w5 _ _ from p0.out).rules
  go_wp2
  go_ret
  exact ⟨rfl, HG5.out⟩
set_option maxRecDepth 100000 in
set_option maxHeartbeats 2000000 in
theorem chunkPuts_yes (p : Pkt) (A : Option Addr) (l : List UInt8) (c : Nat) (w : World) (hl : l.length ≤ c) (hc : c ≤ 9223372036854775807) (hb : Bytes w A l) (h : chunkB p (l.take 80).length = true) :
    Calls Try.prog 15 #[pv p A l.length c] w fun e w' => e = .returned (.bool true) ∧ Grow w w' := by
  go_enter Try.func15, Try.ntmps15
  go_wp2_with fail
  refine (cut13_any p A l c _ hl hc (hb.alloc _)).mono ?_
  rintro r w1 ⟨A1, c1, rfl, hown, hb1⟩
  have hlb := hown.bytes
  have hlc := hown.le
  have hlt1 := fun q h => hown.lt (q := q) h
  have hln : (l.take 80).length ≤ 80 := by rw [List.length_take]; omega
  have hlo : ∀ q, blk A1 = some q → q ∉ [w.heap.size] := fun q hq => by have := hown.base hq; simp at this; simp; omega
  clear hown hb
  generalize l.take 80 = m at *
  obtain ⟨p0, hg1⟩ := peel1 hb1
  have p0_ := hide p0
  clear p0
  have p0 := p0_
  clear p0_
  have HG1 := hide (show Grow w w1 from hg1)
  have hsz1 : w.heap.size ≤ w1.heap.size := HG1.out.size
  have hq1 : w.heap.size ≤ w1.heap.size := hg1.size
  have HS1 := hide hg1
  clear hb1 hg1
  obtain ⟨cp0, fp0, lp0⟩ := (show Box w1 _ _ from p0.out).rules
  have HD := hide (fun W => chunkgood_any p A1 m.length c1 W (by omega))
  have HR := hide (fun W => refchunkgood_any p A1 m.length c1 W (by omega))
  rw [h] at HD HR
  obtain ⟨q, hbk, hsm⟩ := chunk_back p m h
  have hback := hide hbk
  have hsame := hide hsm
  clear hbk hsm
  have hslen : (chunkBytes p m).length ≤ 200 := by have := chunkBytes_len p m; omega
  have hS := hide (show chunkS 200 (0, []) p m = (0, chunkBytes p m) from chunkS_ok 200 [] p m (by simp; omega))
  clear h
  go_wp2_with fail
  clear cp0 fp0 lp0
  generalize hW2 : (World.setCell (World.setCell (World.setCell (World.setCell (World.setCell (World.setCell (World.setCell (World.setCell (World.setCell (World.setCell (World.setCell (World.setCell w1 _ _) _ _) _ _) _ _) _ _) _ _) _ _) _ _) _ _) _ _) _ _) _ _) = w2
  have np0 := Box.store12 (show Box w1 _ _ from p0.out) hW2
  have hb2 := Kept.store12 hW2
  clear hW2 p0
  have hg2 := hb2
  have hlb := hlb.kept hg2 hlo
  have HG2 := hide (Kept.fresh1 hg2 (show Grow w w1 from HG1.out) (by omega))
  clear HG1
  have hsz2 : w.heap.size ≤ w2.heap.size := HG2.out.size
  have hq2 : w1.heap.size ≤ w2.heap.size := hg2.size
  have HS2 := hide hg2
  clear hb2 hg2
  have p0 := hide np0
  clear np0
  obtain ⟨cp0, fp0, lp0⟩ := (show Box w2 _ _ from p0.out).rules
  go_wp2_with fail
  refine (HR.out _).mono ?_
  rintro r w3 ⟨rfl, hb3⟩
  clear cp0 fp0 lp0
  have hg3 := hb3
  have p0_ := hide ((show Box w2 _ _ from p0.out).grow hg3)
  clear p0
  have p0 := p0_
  clear p0_
  have hlb := hlb.grow hg3
  have HG3 := hide (Grow.trans (show Grow w w2 from HG2.out) hg3)
  clear HG2
  have hsz3 : w.heap.size ≤ w3.heap.size := HG3.out.size
  have hq3 : w2.heap.size ≤ w3.heap.size := hg3.size
  have HS3 := hide hg3
  clear hb3 hg3
  obtain ⟨cp0, fp0, lp0⟩ := (show Box w3 _ _ from p0.out).rules
  have hB := hide (fun W h => refchunkbytes_any p A1 m c1 W h (by omega))
  have hP := hide (fun g W (h : Wr W g g none 0 0 [] 200) h2 h3 h4 => chunkput_any g g none 0 0 [] 200 p A1 m c1 W h h2 (by simp) (by omega) h3 h4)
  rw [hS.out] at hP
  generalize chunkBytes p m = s at *
  go_wp2_with fail
  have hp3 := lp0
  refine (new_at 200 w3.heap.size _ (by decide) (by decide) rfl).mono ?_
  rintro r w4 ⟨rfl, hwr, hb4⟩
  clear cp0 fp0 lp0
  have hg4 := hb4
  have p0_ := hide ((show Box w3 _ _ from p0.out).grow hg4)
  clear p0
  have p0 := p0_
  clear p0_
  have hlb := hlb.grow hg4
  have HG4 := hide (Grow.trans (show Grow w w3 from HG3.out) hg4)
  clear HG3
  have hsz4 : w.heap.size ≤ w4.heap.size := HG4.out.size
  have hq4 : w3.heap.size ≤ w4.heap.size := hg4.size
  have HS4 := hide hg4
  clear hb4 hg4
  obtain ⟨cp0, fp0, lp0⟩ := (show Box w4 _ _ from p0.out).rules
  go_wp2_with fail
  refine (hP.out _ _ hwr hlb hq4 (fun _ k hk => by have := hlt1 k hk; exact ⟨by omega, by simp [blk], by omega⟩)).mono ?_
  rintro r w5 ⟨rfl, A5, c5, hwr5, hb5, _⟩
  simp only [foot, blk, Option.map_none, Option.toList_none] at hb5
  clear cp0 fp0 lp0
  have hg5 := hb5
  have p0_ := hide ((show Box w4 _ _ from p0.out).kept hg5 (by simp; try omega))
  clear p0
  have p0 := p0_
  clear p0_
  have hlb := hlb.kept hg5 (fun q h => by have := hlt1 q h; simp; omega)
  have HG5 := hide (Kept.fresh1 hg5 (show Grow w w4 from HG4.out) (by omega))
  clear HG4
  have hsz5 : w.heap.size ≤ w5.heap.size := HG5.out.size
  have hq5 : w4.heap.size ≤ w5.heap.size := hg5.size
  have HS5 := hide hg5
  clear hb5 hg5
  obtain ⟨cp0, fp0, lp0⟩ := (show Box w5 _ _ from p0.out).rules
  go_wp2_with fail
  refine (done_ok _ _ A5 c5 _ 200 _ hwr5 (by show s.length ≤ _; omega)).mono ?_
  rintro r w6 ⟨A6, c6, rfl, hown6, hb6⟩
  have hs6 := hown6.bytes
  have hc6 := hown6.le
  clear hwr hwr5 hown6
  clear cp0 fp0 lp0
  have hg6 := hb6
  have p0_ := hide ((show Box w5 _ _ from p0.out).grow hg6)
  clear p0
  have p0 := p0_
  clear p0_
  have hlb := hlb.grow hg6
  have HG6 := hide (Grow.trans (show Grow w w5 from HG5.out) hg6)
  clear HG5
  have hsz6 : w.heap.size ≤ w6.heap.size := HG6.out.size
  have hq6 : w5.heap.size ≤ w6.heap.size := hg6.size
  have HS6 := hide hg6
  clear hb6 hg6
  obtain ⟨cp0, fp0, lp0⟩ := (show Box w6 _ _ from p0.out).rules
  go_wp2_with fail
  have Rp0 := fun (W : World) (h : Grow w6.drew W) => ((show Box w6 _ _ from p0.out).grow (Grow.of_drew h)).cell
  have Fp0 := fun (W : World) (h : Grow w6.drew W) => ((show Box w6 _ _ from p0.out).grow (Grow.of_drew h)).fz
  have Vhs6 := fun (W : World) (h : Grow w6.drew W) => conv_any c6 (hs6.grow (Grow.of_drew h))
  refine wpR_region (Grow) [] (by kernel_rfl) ?_
  refine wpR_take grow_rf grow_tr 0 rfl (by kernel_rfl) (fun _ _ _ h => h) rfl (v := ?_) ?_ ?_
  rotate_left
  · (intro w' hG; go_simp; try with_reducible rfl)
  try simp only [Act.put, List.setIfInBounds_toArray, List.set_cons_zero, List.set_cons_succ]
  refine wpR_take grow_rf grow_tr 1 rfl (by kernel_rfl) (fun _ _ _ h => h) rfl (v := ?_) ?_ ?_
  rotate_left
  · (intro w' hG; go_simp; try with_reducible rfl)
  try simp only [Act.put, List.setIfInBounds_toArray, List.set_cons_zero, List.set_cons_succ]
  refine wpR_take grow_rf grow_tr 2 rfl (by kernel_rfl) (fun _ _ _ h => h) rfl (v := ?_) ?_ ?_
  rotate_left
  · (intro w' hG; go_simp; try with_reducible rfl)
  try simp only [Act.put, List.setIfInBounds_toArray, List.set_cons_zero, List.set_cons_succ]
  refine wpR_call 3 rfl (by kernel_rfl) rfl fun K hK => ?_
  go_simp
  refine (hB.out _ hlb.drew).mono ?_
  rintro r w7 ⟨A7, c7, rfl, hown7, hb7⟩
  have hs7 := hown7.bytes
  clear hown7
  refine hK.out _ _ (.inr (hb7)) ?_
  clear hK
  try simp only [Act.put, List.setIfInBounds_toArray, List.set_cons_zero, List.set_cons_succ]
  clear Rp0 Fp0
  clear Vhs6
  have hb7 := Grow.of_drew hb7
  clear cp0 fp0 lp0
  have hg7 := hb7
  have p0_ := hide ((show Box w6 _ _ from p0.out).grow hg7)
  clear p0
  have p0 := p0_
  clear p0_
  have hlb := hlb.grow hg7
  have hs6 := hs6.grow hg7
  have HG7 := hide (Grow.trans (show Grow w w6 from HG6.out) hg7)
  clear HG6
  have hsz7 : w.heap.size ≤ w7.heap.size := HG7.out.size
  have hq7 : w6.heap.size ≤ w7.heap.size := hg7.size
  have HS7 := hide hg7
  clear hb7 hg7
  obtain ⟨cp0, fp0, lp0⟩ := (show Box w7 _ _ from p0.out).rules
  have Rp0 := fun (W : World) (h : Grow w7 W) => ((show Box w7 _ _ from p0.out).grow h).cell
  have Fp0 := fun (W : World) (h : Grow w7 W) => ((show Box w7 _ _ from p0.out).grow h).fz
  have Vhs6 := fun (W : World) (h : Grow w7 W) => conv_any c6 (hs6.grow h)
  have Vhs7 := fun (W : World) (h : Grow w7 W) => conv_any c7 (hs7.grow h)
  refine wpR_take grow_rf grow_tr 4 rfl (by kernel_rfl) (fun _ _ _ h => h) rfl (v := ?_) ?_ ?_
  rotate_left
  · (intro w' hG; go_simp; try with_reducible rfl)
  try simp only [Act.put, List.setIfInBounds_toArray, List.set_cons_zero, List.set_cons_succ]
  refine wpR_take grow_rf grow_tr 5 rfl (by kernel_rfl) (fun _ _ _ h => h) rfl (v := ?_) ?_ ?_
  rotate_left
  · (intro w' hG; go_simp; try with_reducible rfl)
  try simp only [Act.put, List.setIfInBounds_toArray, List.set_cons_zero, List.set_cons_succ]
  refine wpR_take grow_rf grow_tr 6 rfl (by kernel_rfl) (fun _ _ _ h => h) rfl (v := ?_) ?_ ?_
  rotate_left
  · (intro w' hG; go_simp; try with_reducible rfl)
  try simp only [Act.put, List.setIfInBounds_toArray, List.set_cons_zero, List.set_cons_succ]
  refine wpR_take grow_rf grow_tr 7 rfl (by kernel_rfl) (fun _ _ _ h => h) rfl (v := ?_) ?_ ?_
  rotate_left
  · (intro w' hG; go_simp; try with_reducible rfl)
  try simp only [Act.put, List.setIfInBounds_toArray, List.set_cons_zero, List.set_cons_succ]
  refine wpR_take grow_rf grow_tr 8 rfl (by kernel_rfl) (fun _ _ _ h => h) rfl (v := ?_) ?_ ?_
  rotate_left
  · (intro w' hG; go_simp; try with_reducible rfl)
  try simp only [Act.put, List.setIfInBounds_toArray, List.set_cons_zero, List.set_cons_succ]
  refine wpR_take grow_rf grow_tr 9 rfl (by kernel_rfl) (fun _ _ _ h => h) rfl (v := ?_) ?_ ?_
  rotate_left
  · (intro w' hG; go_simp; try with_reducible rfl)
  try simp only [Act.put, List.setIfInBounds_toArray, List.set_cons_zero, List.set_cons_succ]
  refine wpR_done (by kernel_rfl) ?_ _
  clear Rp0 Fp0
  clear Vhs6 Vhs7
  go_wp2_with fail
  refine (read_any A6 s c6 _ hs6 (by omega)).mono ?_
  rintro r w8 ⟨N, pr, rfl, hr, hpr, hb8⟩
  have hp7 := lp0
  clear cp0 fp0 lp0
  have hg8 := hb8
  have p0_ := hide ((show Box w7 _ _ from p0.out).grow hg8)
  clear p0
  have p0 := p0_
  clear p0_
  have hlb := hlb.grow hg8
  have hs6 := hs6.grow hg8
  have HG8 := hide (Grow.trans (show Grow w w7 from HG7.out) hg8)
  clear HG7
  have hsz8 : w.heap.size ≤ w8.heap.size := HG8.out.size
  have hq8 : w7.heap.size ≤ w8.heap.size := hg8.size
  have HS8 := hide hg8
  clear hb8 hg8
  obtain ⟨cp0, fp0, lp0⟩ := (show Box w8 _ _ from p0.out).rules
  have hG := hide (fun W h => chunkget_any N pr s (chunkH p) none 0 0 W h (by omega))
  rw [hback.out] at hG
  dsimp only at hG
  go_wp2_with fail
  refine (hG.out _ hr).mono ?_
  rintro r w9 ⟨⟨A9, c9, rfl, hc9, hcm9, hx⟩, hr9, hb9⟩
  have hrd9 := hr9 (by simp)
  clear hr9
  clear cp0 fp0 lp0
  have hg9 := hb9
  have p0_ := hide ((show Box w8 _ _ from p0.out).kept hg9 (by simp; try omega))
  clear p0
  have p0 := p0_
  clear p0_
  have hlb := hlb.kept hg9 (fun q h => by have := hlt1 q h; simp; omega)
  have HG9 := hide (Kept.fresh1 hg9 (show Grow w w8 from HG8.out) (by omega))
  clear HG8
  have hsz9 : w.heap.size ≤ w9.heap.size := HG9.out.size
  have hq9 : w8.heap.size ≤ w9.heap.size := hg9.size
  have HS9 := hide hg9
  clear hb9 hg9
  obtain ⟨cp0, fp0, lp0⟩ := (show Box w9 _ _ from p0.out).rules
  have HE := hide (end_any N pr ([], 0))
  rw [show rend ([], 0) = 0 from rfl] at HE
  have HS := hide (fun W h1 h2 => refsame_any p q A1 A9 m m c1 c9 W h1 h2)
  rw [hsame.out, beq_self_eq_true, Bool.true_and] at HS
  go_wp2_with fail
  refine (HE.out _ (hrd9.grow ((Grow.refl w9).alloc _))).mono ?_
  rintro r w' ⟨rfl, rfl⟩
  go_wp2_with fail
  refine (HS.out _ (hlb.alloc _) (hx.alloc _)).mono ?_
  rintro r w10 ⟨rfl, hb10⟩
  clear cp0 fp0 lp0
  obtain ⟨x0, hg10⟩ := peel1 hb10
  have p0_ := hide ((show Box w9 _ _ from p0.out).grow hg10)
  clear p0
  have p0 := p0_
  clear p0_
  have x0_ := hide x0
  clear x0
  have x0 := x0_
  clear x0_
  have hlb := hlb.grow hg10
  have hx := hx.grow hg10
  have HG10 := hide (Grow.trans (show Grow w w9 from HG9.out) hg10)
  clear HG9
  have hsz10 : w.heap.size ≤ w10.heap.size := HG10.out.size
  have hq10 : w9.heap.size ≤ w10.heap.size := hg10.size
  have HS10 := hide hg10
  clear hb10 hg10
  obtain ⟨cp0, fp0, lp0⟩ := (show Box w10 _ _ from p0.out).rules
  obtain ⟨cx0, fx0, lx0⟩ := (show Box w10 _ _ from x0.out).rules
  go_wp2_with fail
  refine (works13_any _).mono ?_
  rintro r w11 ⟨rfl, hb11⟩
  clear cp0 fp0 lp0 cx0 fx0 lx0
  have hg11 := hb11
  have p0_ := hide ((show Box w10 _ _ from p0.out).grow hg11)
  clear p0
  have p0 := p0_
  clear p0_
  have x0_ := hide ((show Box w10 _ _ from x0.out).grow hg11)
  clear x0
  have x0 := x0_
  clear x0_
  have hlb := hlb.grow hg11
  have hx := hx.grow hg11
  have HG11 := hide (Grow.trans (show Grow w w10 from HG10.out) hg11)
  clear HG10
  have hsz11 : w.heap.size ≤ w11.heap.size := HG11.out.size
  have hq11 : w10.heap.size ≤ w11.heap.size := hg11.size
  have HS11 := hide hg11
  clear hb11 hg11
  obtain ⟨cp0, fp0, lp0⟩ := (show Box w11 _ _ from p0.out).rules
  obtain ⟨cx0, fx0, lx0⟩ := (show Box w11 _ _ from x0.out).rules
  go_wp2
  go_ret
  exact ⟨rfl, HG11.out⟩
theorem chunkPuts_any (p : Pkt) (A : Option Addr) (l : List UInt8) (c : Nat) (w : World) (hl : l.length ≤ c) (hc : c ≤ 9223372036854775807) (hb : Bytes w A l) :
    Calls Try.prog 15 #[pv p A l.length c] w fun e w' => e = .returned (.bool true) ∧ Grow w w' := by
  cases h : chunkB p (l.take 80).length with
  | false => exact chunkPuts_no p A l c w hl hc hb h
  | true => exact chunkPuts_yes p A l c w hl hc hb h
end Go.Proofs.Ytpobjcdcimcdnaa
