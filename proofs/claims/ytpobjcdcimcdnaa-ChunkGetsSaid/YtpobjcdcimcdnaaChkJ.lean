/- The walk of the statement ChunkGets. -/
import Derived.Test.YtpobjcdcimcdnaaChkH
import Derived.Test.YtpobjcdcimcdnaaChkR
namespace Go.Proofs.Ytpobjcdcimcdnaa
open Go.RowKit
set_option maxRecDepth 100000 in
set_option maxHeartbeats 2000000 in
theorem chunkGets_any (B : Option Addr) (b : List UInt8) (cb : Nat) (p : Pkt) (A : Option Addr) (l : List UInt8) (c : Nat) (w : World) (hbl : b.length ≤ cb) (_hbc : cb ≤ 9223372036854775807) (hb : Bytes w B b) (hl : l.length ≤ c) (hc : c ≤ 9223372036854775807) (hlb : Bytes w A l) :
    Calls Try.prog 16 #[.slice B b.length cb, pv p A l.length c] w fun e w' => e = .returned (.bool true) ∧ Grow w w' := by
  obtain ⟨m, hm⟩ : ∃ m, m = b.take 120 := ⟨_, rfl⟩
  have hmm : m.length = min 120 b.length := by rw [hm, List.length_take]
  have hb := hm ▸ hb.take 120
  have hmin : (if 120 < (b.length : Int) then (120 : Int) else (b.length : Int)) = ((m.length : Nat) : Int) := by split <;> omega
  have hmc : m.length ≤ cb := by omega
  have hm12 : m.length ≤ 120 := by omega
  clear hm hmm hbl
  go_enter Try.func16, Try.ntmps16
  go_wp2_with fail
  generalize hW1 : World.alloc w _ = w1
  have hb1 := Grow.of_eq hW1
  clear hW1
  obtain ⟨p0, hg1⟩ := peel1 hb1
  have p0_ := hide p0
  clear p0
  have p0 := p0_
  clear p0_
  have hb := hb.grow hg1
  have hlb := hlb.grow hg1
  have HG1 := hide (show Grow w w1 from hg1)
  have hsz1 : w.heap.size ≤ w1.heap.size := HG1.out.size
  have hq1 : w.heap.size ≤ w1.heap.size := hg1.size
  have HS1 := hide hg1
  clear hb1 hg1
  obtain ⟨cp0, fp0, lp0⟩ := (show Box w1 _ _ from p0.out).rules
  have Rp0 := fun (W : World) (h : Grow w1.drew W) => ((show Box w1 _ _ from p0.out).grow (Grow.of_drew h)).cell
  have Fp0 := fun (W : World) (h : Grow w1.drew W) => ((show Box w1 _ _ from p0.out).grow (Grow.of_drew h)).fz
  refine wpR_region (Grow) [10] (by kernel_rfl) ?_
  refine wpR_take grow_rf grow_tr 1 rfl (by kernel_rfl) (fun _ _ _ h => h) rfl (v := ?_) ?_ ?_
  rotate_left
  · (intro w' hG; go_simp; try with_reducible rfl)
  try simp only [Act.put, List.setIfInBounds_toArray, List.set_cons_zero, List.set_cons_succ]
  refine wpR_take grow_rf grow_tr 2 rfl (by kernel_rfl) (fun _ _ _ h => h) rfl (v := ?_) ?_ ?_
  rotate_left
  · (intro w' hG; go_simp; try with_reducible rfl)
  try simp only [Act.put, List.setIfInBounds_toArray, List.set_cons_zero, List.set_cons_succ]
  refine wpR_take grow_rf grow_tr 3 rfl (by kernel_rfl) (fun _ _ _ h => h) rfl (v := ?_) ?_ ?_
  rotate_left
  · (intro w' hG; go_simp; try with_reducible rfl)
  try simp only [Act.put, List.setIfInBounds_toArray, List.set_cons_zero, List.set_cons_succ]
  refine wpR_take grow_rf grow_tr 4 rfl (by kernel_rfl) (fun _ _ _ h => h) rfl (v := ?_) ?_ ?_
  rotate_left
  · (intro w' hG; go_simp; try with_reducible rfl)
  try simp only [Act.put, List.setIfInBounds_toArray, List.set_cons_zero, List.set_cons_succ]
  refine wpR_take grow_rf grow_tr 5 rfl (by kernel_rfl) (fun _ _ _ h => h) rfl (v := ?_) ?_ ?_
  rotate_left
  · (intro w' hG; go_simp; try with_reducible rfl)
  try simp only [Act.put, List.setIfInBounds_toArray, List.set_cons_zero, List.set_cons_succ]
  refine wpR_take grow_rf grow_tr 7 rfl (by kernel_rfl) (fun _ _ _ h => h) rfl (v := ?_) ?_ ?_
  rotate_left
  · (intro w' hG; go_simp; try with_reducible rfl)
  try simp only [Act.put, List.setIfInBounds_toArray, List.set_cons_zero, List.set_cons_succ]
  refine wpR_call 0 rfl (by kernel_rfl) rfl fun K hK => ?_
  go_simp
  skip
  refine hK.out _ _ (.inr (by exact (Grow.refl (World.drew w1)).alloc (.cells #[] 5))) ?_
  clear hK
  try simp only [Act.put, List.setIfInBounds_toArray, List.set_cons_zero, List.set_cons_succ]
  clear Rp0 Fp0
  have ho0 := Own.made' w1 (w.heap.size + 1) w1.heap.size rfl (by omega)
  have hb2 := ((Grow.refl w1).alloc (.cells #[] 5)).drew
  have ho0 := Own.drew ho0
  generalize World.drew (World.alloc w1 _) = w2 at *
  clear cp0 fp0 lp0
  have hg2 := hb2
  have p0_ := hide ((show Box w1 _ _ from p0.out).grow hg2)
  clear p0
  have p0 := p0_
  clear p0_
  have hb := hb.grow hg2
  have hlb := hlb.grow hg2
  have HG2 := hide (Grow.trans (show Grow w w1 from HG1.out) hg2)
  clear HG1
  have hsz2 : w.heap.size ≤ w2.heap.size := HG2.out.size
  have hq2 : w1.heap.size ≤ w2.heap.size := hg2.size
  have HS2 := hide hg2
  clear hb2 hg2
  obtain ⟨cp0, fp0, lp0⟩ := (show Box w2 _ _ from p0.out).rules
  have Rp0 := fun (W : World) (h : Grow w2 W) => ((show Box w2 _ _ from p0.out).grow h).cell
  have Fp0 := fun (W : World) (h : Grow w2 W) => ((show Box w2 _ _ from p0.out).grow h).fz
  refine wpR_call 6 rfl (by kernel_rfl) rfl fun K hK => ?_
  refine oper_append_fresh byteT (.tmp 11) (.tmp 16) rfl ho0 (by omega) hb rfl rfl (by omega) ?_
  intro A3 c3 w3 hown hb3
  refine hK.out _ _ (.inr (hb3)) ?_
  clear hK
  try simp only [Act.put, List.setIfInBounds_toArray, List.set_cons_zero, List.set_cons_succ]
  clear Rp0 Fp0
  clear cp0 fp0 lp0
  have hg3 := hb3
  have p0_ := hide ((show Box w2 _ _ from p0.out).grow hg3)
  clear p0
  have p0 := p0_
  clear p0_
  have hb := hb.grow hg3
  have hlb := hlb.grow hg3
  have HG3 := hide (Grow.trans (show Grow w w2 from HG2.out) hg3)
  clear HG2
  have hsz3 : w.heap.size ≤ w3.heap.size := HG3.out.size
  have hq3 : w2.heap.size ≤ w3.heap.size := hg3.size
  have HS3 := hide hg3
  clear hb3 hg3
  obtain ⟨cp0, fp0, lp0⟩ := (show Box w3 _ _ from p0.out).rules
  have Rp0 := fun (W : World) (h : Grow w3 W) => ((show Box w3 _ _ from p0.out).grow h).cell
  have Fp0 := fun (W : World) (h : Grow w3 W) => ((show Box w3 _ _ from p0.out).grow h).fz
  refine wpR_call 8 rfl (by kernel_rfl) rfl fun K hK => ?_
  go_simp
  have hp3 := lp0
  have hge3 := fun q h => hown.base (q := q) h
  have hlt3 := fun q h => hown.lt (q := q) h
  have hb3 := hown.bytes
  have hc3 := hown.le
  clear hown ho0
  refine (cut13_any p A l c _ hl hc hlb).mono ?_
  rintro r w4 ⟨A4, c4, rfl, hown4, hb4⟩
  have hb3 := hb3.grow hb4
  clear hown4
  generalize (l.take 80).length = lm at *
  refine hK.out _ _ (.inr (hb4)) ?_
  clear hK
  try simp only [Act.put, List.setIfInBounds_toArray, List.set_cons_zero, List.set_cons_succ]
  clear Rp0 Fp0
  clear cp0 fp0 lp0
  have hg4 := hb4
  have p0_ := hide ((show Box w3 _ _ from p0.out).grow hg4)
  clear p0
  have p0 := p0_
  clear p0_
  have hb := hb.grow hg4
  have hlb := hlb.grow hg4
  have HG4 := hide (Grow.trans (show Grow w w3 from HG3.out) hg4)
  clear HG3
  have hsz4 : w.heap.size ≤ w4.heap.size := HG4.out.size
  have hq4 : w3.heap.size ≤ w4.heap.size := hg4.size
  have HS4 := hide hg4
  clear hb4 hg4
  obtain ⟨cp0, fp0, lp0⟩ := (show Box w4 _ _ from p0.out).rules
  have Rp0 := fun (W : World) (h : Grow w4 W) => ((show Box w4 _ _ from p0.out).grow h).cell
  have Fp0 := fun (W : World) (h : Grow w4 W) => ((show Box w4 _ _ from p0.out).grow h).fz
  refine wpR_take grow_rf grow_tr 9 rfl (by kernel_rfl) (fun _ _ _ h => h) rfl (v := ?_) ?_ ?_
  rotate_left
  · (intro w' hG; go_simp; try with_reducible rfl)
  try simp only [Act.put, List.setIfInBounds_toArray, List.set_cons_zero]
  refine wpR_call 10 rfl (by kernel_rfl) rfl fun K hK => ?_
  go_simp
  skip
  refine hK.out _ _ (.inl (by simp)) ?_
  clear hK
  try simp only [Act.put, List.setIfInBounds_toArray, List.set_cons_zero, List.set_cons_succ]
  refine wpR_done (by kernel_rfl) ?_ _
  clear Rp0 Fp0
  go_wp2_with fail
  clear cp0 fp0 lp0
  generalize hW5 : (World.setCell (World.setCell (World.setCell (World.setCell (World.setCell (World.setCell (World.setCell (World.setCell (World.setCell (World.setCell (World.setCell (World.setCell w4 _ _) _ _) _ _) _ _) _ _) _ _) _ _) _ _) _ _) _ _) _ _) _ _) = w5
  have np0 := Box.store12 (show Box w4 _ _ from p0.out) hW5
  have hb5 := Kept.store12 hW5
  clear hW5 p0
  have hg5 := hb5
  have hb3 := hb3.kept hg5 (fun q h => by have := hge3 q h; simp; omega)
  have HG5 := hide (Kept.fresh1 hg5 (show Grow w w4 from HG4.out) (by omega))
  clear HG4
  have hsz5 : w.heap.size ≤ w5.heap.size := HG5.out.size
  have hq5 : w4.heap.size ≤ w5.heap.size := hg5.size
  have HS5 := hide hg5
  clear hb5 hg5
  have p0 := hide np0
  clear np0
  obtain ⟨cp0, fp0, lp0⟩ := (show Box w5 _ _ from p0.out).rules
  go_wp2_with fail
  refine (read_any A3 m c3 _ hb3 (by omega)).mono ?_
  rintro r w6 ⟨N, pr, rfl, hr, hpr, hb6⟩
  have hp5 := lp0
  clear cp0 fp0 lp0
  have hg6 := hb6
  have p0_ := hide ((show Box w5 _ _ from p0.out).grow hg6)
  clear p0
  have p0 := p0_
  clear p0_
  have hb3 := hb3.grow hg6
  have HG6 := hide (Grow.trans (show Grow w w5 from HG5.out) hg6)
  clear HG5
  have hsz6 : w.heap.size ≤ w6.heap.size := HG6.out.size
  have hq6 : w5.heap.size ≤ w6.heap.size := hg6.size
  have HS6 := hide hg6
  clear hb6 hg6
  obtain ⟨cp0, fp0, lp0⟩ := (show Box w6 _ _ from p0.out).rules
  have hs3 : ∀ q, blk A3 = some q → q ∉ [pr] := fun q h => by have := hlt3 q h; simp; omega
  have hG := hide (fun W h => chunkget_any N pr m p A4 lm c4 W h (by omega))
  have hR := hide (fun W h => refchunkget_any A3 m c3 p A4 lm c4 W h hc3.1 hc3.2)
  generalize cg m p = T at *
  obtain ⟨q, t, rest, e1⟩ := T
  dsimp only at *
  go_wp2_with fail
  refine (hG.out _ hr).mono ?_
  rintro r w7 ⟨⟨A7, c7, rfl, hc7, hcm7, hx⟩, hr7, hb7⟩
  clear cp0 fp0 lp0
  have hg7 := hb7
  have p0_ := hide ((show Box w6 _ _ from p0.out).kept hg7 (by simp; try omega))
  clear p0
  have p0 := p0_
  clear p0_
  have hb3 := hb3.kept hg7 hs3
  have HG7 := hide (Kept.fresh1 hg7 (show Grow w w6 from HG6.out) (by omega))
  clear HG6
  have hsz7 : w.heap.size ≤ w7.heap.size := HG7.out.size
  have hq7 : w6.heap.size ≤ w7.heap.size := hg7.size
  have HS7 := hide hg7
  clear hb7 hg7
  obtain ⟨cp0, fp0, lp0⟩ := (show Box w7 _ _ from p0.out).rules
  go_wp2_with fail
  refine (hR.out _ (hb3.alloc _)).mono ?_
  rintro r w8 ⟨⟨A8, c8, A9, c9, rfl, hc8, hcm8, hy, hc9, hcm9, hrest⟩, hb8⟩
  clear cp0 fp0 lp0
  obtain ⟨x0, hg8⟩ := peel1 hb8
  have p0_ := hide ((show Box w7 _ _ from p0.out).grow hg8)
  clear p0
  have p0 := p0_
  clear p0_
  have x0_ := hide x0
  clear x0
  have x0 := x0_
  clear x0_
  have hb3 := hb3.grow hg8
  have hx := hx.grow hg8
  have HG8 := hide (Grow.trans (show Grow w w7 from HG7.out) hg8)
  clear HG7
  have hsz8 : w.heap.size ≤ w8.heap.size := HG8.out.size
  have hq8 : w7.heap.size ≤ w8.heap.size := hg8.size
  have HS8 := hide hg8
  clear hb8 hg8
  obtain ⟨cp0, fp0, lp0⟩ := (show Box w8 _ _ from p0.out).rules
  obtain ⟨cx0, fx0, lx0⟩ := (show Box w8 _ _ from x0.out).rules
  have hy := hy _ hb3
  have HS := hide (fun W h1 h2 => refsame_any q q A7 A8 t t c7 c8 W h1 h2)
  rw [sameB_refl, beq_self_eq_true, Bool.true_and] at HS
  have HL := hide (fun W h => left_any N pr (rest, 0) W h)
  dsimp only at HL
  go_wp2_with fail
  refine (HS.out _ (hx.alloc _) (hy.alloc _)).mono ?_
  rintro r w9 ⟨rfl, hb9⟩
  clear cp0 fp0 lp0 cx0 fx0 lx0
  obtain ⟨y0, hg9⟩ := peel1 hb9
  have p0_ := hide ((show Box w8 _ _ from p0.out).grow hg9)
  clear p0
  have p0 := p0_
  clear p0_
  have x0_ := hide ((show Box w8 _ _ from x0.out).grow hg9)
  clear x0
  have x0 := x0_
  clear x0_
  have y0_ := hide y0
  clear y0
  have y0 := y0_
  clear y0_
  have hx := hx.grow hg9
  have hy := hy.grow hg9
  have HG9 := hide (Grow.trans (show Grow w w8 from HG8.out) hg9)
  clear HG8
  have hsz9 : w.heap.size ≤ w9.heap.size := HG9.out.size
  have hq9 : w8.heap.size ≤ w9.heap.size := hg9.size
  have HS9 := hide hg9
  clear hb9 hg9
  obtain ⟨cp0, fp0, lp0⟩ := (show Box w9 _ _ from p0.out).rules
  obtain ⟨cx0, fx0, lx0⟩ := (show Box w9 _ _ from x0.out).rules
  obtain ⟨cy0, fy0, ly0⟩ := (show Box w9 _ _ from y0.out).rules
  by_cases he : e1 = 0
  · have hr9 := ((hr7 he).grow (show Grow w7 w8 from HS8.out)).grow (show Grow w8 w9 from HS9.out)
    subst he
    go_wp2_with fail
    refine (HL.out _ hr9).mono ?_
    rintro r w' ⟨rfl, rfl⟩
    go_wp2_with fail
    refine (works13_any _).mono ?_
    rintro r w10 ⟨rfl, hb10⟩
    clear cp0 fp0 lp0 cx0 fx0 lx0 cy0 fy0 ly0
    have hg10 := hb10
    have p0_ := hide ((show Box w9 _ _ from p0.out).grow hg10)
    clear p0
    have p0 := p0_
    clear p0_
    have x0_ := hide ((show Box w9 _ _ from x0.out).grow hg10)
    clear x0
    have x0 := x0_
    clear x0_
    have y0_ := hide ((show Box w9 _ _ from y0.out).grow hg10)
    clear y0
    have y0 := y0_
    clear y0_
    have hx := hx.grow hg10
    have hy := hy.grow hg10
    have HG10 := hide (Grow.trans (show Grow w w9 from HG9.out) hg10)
    clear HG9
    have hsz10 : w.heap.size ≤ w10.heap.size := HG10.out.size
    have hq10 : w9.heap.size ≤ w10.heap.size := hg10.size
    have HS10 := hide hg10
    clear hb10 hg10
    obtain ⟨cp0, fp0, lp0⟩ := (show Box w10 _ _ from p0.out).rules
    obtain ⟨cx0, fx0, lx0⟩ := (show Box w10 _ _ from x0.out).rules
    obtain ⟨cy0, fy0, ly0⟩ := (show Box w10 _ _ from y0.out).rules
    go_wp2
    go_ret
    exact ⟨rfl, HG10.out⟩
  · have he' : (e1 != 0) = true := by simpa using he
    clear he hr7
    go_wp2_with fail
    refine (works13_any _).mono ?_
    rintro r w10 ⟨rfl, hb10⟩
    clear cp0 fp0 lp0 cx0 fx0 lx0 cy0 fy0 ly0
    have hg10 := hb10
    have p0_ := hide ((show Box w9 _ _ from p0.out).grow hg10)
    clear p0
    have p0 := p0_
    clear p0_
    have x0_ := hide ((show Box w9 _ _ from x0.out).grow hg10)
    clear x0
    have x0 := x0_
    clear x0_
    have y0_ := hide ((show Box w9 _ _ from y0.out).grow hg10)
    clear y0
    have y0 := y0_
    clear y0_
    have hx := hx.grow hg10
    have hy := hy.grow hg10
    have HG10 := hide (Grow.trans (show Grow w w9 from HG9.out) hg10)
    clear HG9
    have hsz10 : w.heap.size ≤ w10.heap.size := HG10.out.size
    have hq10 : w9.heap.size ≤ w10.heap.size := hg10.size
    have HS10 := hide hg10
    clear hb10 hg10
    obtain ⟨cp0, fp0, lp0⟩ := (show Box w10 _ _ from p0.out).rules
    obtain ⟨cx0, fx0, lx0⟩ := (show Box w10 _ _ from x0.out).rules
    obtain ⟨cy0, fy0, ly0⟩ := (show Box w10 _ _ from y0.out).rules
    go_wp2
    go_ret
    exact ⟨rfl, HG10.out⟩
end Go.Proofs.Ytpobjcdcimcdnaa
