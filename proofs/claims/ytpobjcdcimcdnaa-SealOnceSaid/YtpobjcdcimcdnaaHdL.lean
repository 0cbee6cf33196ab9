/- The walk of the document of head.Put; the walks of the statements HeadPuts and HeadGets. -/
import Derived.Test.YtpobjcdcimcdnaaHdR
import Derived.Test.YtpobjcdcimcdnaaFew
import Derived.Test.YtpobjcdcimcdnaaFrm
namespace Go.Proofs.Ytpobjcdcimcdnaa
open Go.RowKit
theorem one_u8 (w : World) (x : Int) (base : Nat) (hb : base ≤ w.heap.size) : Own (w.alloc (.cells #[.int .u8 (IntKind.u8.wrap x)] 5)) base (some ⟨w.heap.size, 0, none⟩) 1 [u8of x] := Own.one w (IntKind.u8.wrap x) (u8w_bounds x).1 (u8w_bounds x).2 hb
theorem bytes_m (w : World) (x : Int) {t : TypeId} {g : Nat} (hg : w.heap.size = g) : Bytes (w.alloc (.cells #[.int .u8 (x % 256)] t)) (some ⟨g, 0, none⟩) [u8of x] := by
  have h := Bytes.one w (IntKind.u8.wrap x) (u8w_bounds x).1 (u8w_bounds x).2 (t := t) hg
  unfold u8of
  rw [IntKind.wrap_u8] at h ⊢
  exact h
set_option maxRecDepth 100000 in
set_option maxHeartbeats 4000000 in
theorem refheadbytes_any (p : Pkt) (A : Option Addr) (n c : Nat) (w : World) :
    Calls Try.prog 48 #[pv p A n c] w fun r w' => ∃ A c, r = .returned (.slice A (headBytes p).length c) ∧ Own w' w.heap.size A c (headBytes p) ∧ Grow w w' := by
  have hg0 := (Grow.refl w).alloc (.cells (pcells p A n c) 65)
  have hN := hide (fun W => refnum_any (u64of p.t) W (u64of_lt _))
  have hF := hide (fun W => reffixed_any (u64of p.seq) 4 W (by omega) (u64of_lt _))
  have HF := hide (fun W => refflood_any p.kind W)
  have eT := hide (u64_of p.t)
  have eS := hide (u64_of p.seq)
  have hs1 := Buf.sevens_len (u64of p.t)
  have hs2 : (Buf.fixed (u64of p.seq) 4).length = 4 := Buf.fixed_length _ _
  have HX : Hid (headBytes p = if floodB p.kind then ((([u8of p.kind] ++ [u8of p.hops]) ++ Buf.sevens (u64of p.t)) ++ [u8of p.frm]) ++ Buf.fixed (u64of p.seq) 4 else [u8of p.kind]) := rfl
  generalize headBytes p = X at *
  generalize Buf.sevens (u64of p.t) = x1 at *
  generalize Buf.fixed (u64of p.seq) 4 = x2 at *
  have hs2_ := hide hs2
  clear hs2
  generalize floodB p.kind = fb at *
  go_enter Try.func48, Try.ntmps48
  go_wp2_with fail
  have p0 := Box.new w (pcells p A n c) 65 rfl
  have hwz : (World.alloc w (.cells (pcells p A n c) 65)).heap.size = w.heap.size + 1 := by simp
  obtain ⟨w1, hw1⟩ : ∃ w1, World.alloc w (.cells (pcells p A n c) 65) = w1 := ⟨_, rfl⟩
  rw [hw1] at p0 hg0 hwz
  have hwz := hide hwz
  have hw1' := hide hw1
  generalize World.alloc w _ = wx at *
  obtain rfl := hw1
  clear hw1'
  have hx0 := hg0.size
  have ho1 := one_u8 wx p.kind wx.heap.size (Nat.le_refl _)
  simp only [IntKind.wrap_u8, hwz.out] at ho1
  have hb1 : Grow wx (World.alloc wx (.cells #[.int .u8 (p.kind % 256)] 5)) := (Grow.refl wx).alloc _
  generalize World.alloc wx _ = w1 at *
  have HG := hide hb1
  clear hb1
  refine (HF.out _).mono ?_
  rintro r w' ⟨rfl, rfl⟩
  cases fb with
  | false =>
    obtain rfl : X = [u8of p.kind] := HX.out
    go_wp2
    go_ret
    exact ⟨_, 1, rfl, ho1.mono (by omega), Grow.trans hg0 HG.out⟩
  | true =>
    rw [if_pos rfl] at HX
    obtain ⟨cp0, fp0, lp0⟩ := (Box.grow p0 HG.out).rules
    have hz := HG.out.size
    go_wp2_with (at_builtin; refine wpList_append_bytes byteT rfl (.tmp 11) (.tmp 15) rfl (ho1.alloc _) (bytes_m _ p.hops rfl) rfl rfl ?_ ?_ ?_)
    · simp; try ((try have e2 := hl2_.out); (try have e4 := hl4_.out); (try have e5 := hl5_.out); (try have e7 := hl7_.out); have e9 := hs2_.out; omega)
    · (try have e2 := hl2_.out); (try have e4 := hl4_.out); (try have e5 := hl5_.out); (try have e7 := hl7_.out); have e9 := hs2_.out; simp; omega
    intro A2 c2 l2 w2 HL2 ho2 hg2 _
    have hgr := Below.grown (Below.alloc HG.out hz (.cells #[.int .u8 (p.hops % 256)] 5)) hg2 (by simp; omega) (fun q hq => by have := ho1.base hq; have := hwz.out; omega)
    clear cp0 fp0 lp0
    clear HG hz hg2
    have HG := hide (show Grow wx w2 from hgr)
    clear hgr ho1
    have hl2 := congrArg List.length HL2.out
    simp only [List.length_append, List.length_cons, List.length_nil] at hl2
    have hl2_ := hide hl2
    clear hl2
    obtain ⟨cp0, fp0, lp0⟩ := (Box.grow p0 HG.out).rules
    go_wp2_with fail
    rw [eT.out]
    refine (hN.out _).mono ?_
    rintro r w3 ⟨A3, c3, rfl, ho3, hb3⟩
    have hz := HG.out.size
    have hz2 := hb3.size
    have hown := ho2.below hb3
    clear cp0 fp0 lp0
    go_wp2_with (at_builtin; refine wpList_append_bytes byteT rfl (.tmp 17) (.tmp 22) rfl hown ho3.bytes rfl rfl ?_ ?_ ?_)
    · (try have e2 := hl2_.out); (try have e4 := hl4_.out); (try have e5 := hl5_.out); (try have e7 := hl7_.out); have e9 := hs2_.out; omega
    · (try have e2 := hl2_.out); (try have e4 := hl4_.out); (try have e5 := hl5_.out); (try have e7 := hl7_.out); have e9 := hs2_.out; omega
    intro A4 c4 l4 w4 HL4 ho4 hg4 _
    have hgr := Below.grown (Below.trans HG.out (Below.mono hb3 hz)) hg4 (by (try have e2 := hl2_.out); (try have e4 := hl4_.out); (try have e5 := hl5_.out); (try have e7 := hl7_.out); have e9 := hs2_.out; omega) (fun q hq => by have := hown.base hq; have := hwz.out; omega)
    clear HG hz hz2 hg4 ho3 hb3 ho2
    have HG := hide (show Grow wx w4 from hgr)
    clear hgr hown
    have hl4 := congrArg List.length HL4.out
    simp only [List.length_append] at hl4
    have hl4_ := hide hl4
    clear hl4
    obtain ⟨cp0, fp0, lp0⟩ := (Box.grow p0 HG.out).rules
    have hz := HG.out.size
    go_wp2_with (at_builtin; refine wpList_append_bytes byteT rfl (.tmp 24) (.tmp 29) rfl (ho4.alloc _) (bytes_m _ p.frm rfl) rfl rfl ?_ ?_ ?_)
    · simp; try ((try have e2 := hl2_.out); (try have e4 := hl4_.out); (try have e5 := hl5_.out); (try have e7 := hl7_.out); have e9 := hs2_.out; omega)
    · (try have e2 := hl2_.out); (try have e4 := hl4_.out); (try have e5 := hl5_.out); (try have e7 := hl7_.out); have e9 := hs2_.out; simp; omega
    intro A5 c5 l5 w5 HL5 ho5 hg5 _
    have hgr := Below.grown (Below.alloc HG.out hz (.cells #[.int .u8 (p.frm % 256)] 5)) hg5 (by simp; omega) (fun q hq => by have := ho4.base hq; have := hwz.out; omega)
    clear cp0 fp0 lp0
    clear HG hz hg5
    have HG := hide (show Grow wx w5 from hgr)
    clear hgr ho4
    have hl5 := congrArg List.length HL5.out
    simp only [List.length_append, List.length_cons, List.length_nil] at hl5
    have hl5_ := hide hl5
    clear hl5
    obtain ⟨cp0, fp0, lp0⟩ := (Box.grow p0 HG.out).rules
    go_wp2_with fail
    rw [eS.out]
    refine (hF.out _).mono ?_
    rintro r w6 ⟨A6, c6, rfl, ho6, hb6⟩
    have hz := HG.out.size
    have hz2 := hb6.size
    have hown := ho5.below hb6
    clear cp0 fp0 lp0
    go_wp2_with (at_builtin; refine wpList_append_bytes byteT rfl (.tmp 31) (.tmp 36) rfl hown ho6.bytes rfl rfl ?_ ?_ ?_)
    · (try have e2 := hl2_.out); (try have e4 := hl4_.out); (try have e5 := hl5_.out); (try have e7 := hl7_.out); have e9 := hs2_.out; omega
    · (try have e2 := hl2_.out); (try have e4 := hl4_.out); (try have e5 := hl5_.out); (try have e7 := hl7_.out); have e9 := hs2_.out; omega
    intro A7 c7 l7 w7 HL7 ho7 hg7 _
    have hgr := Below.grown (Below.trans HG.out (Below.mono hb6 hz)) hg7 (by (try have e2 := hl2_.out); (try have e4 := hl4_.out); (try have e5 := hl5_.out); (try have e7 := hl7_.out); have e9 := hs2_.out; omega) (fun q hq => by have := hown.base hq; have := hwz.out; omega)
    clear HG hz hz2 hg7 ho6 hb6 ho5
    have HG := hide (show Grow wx w7 from hgr)
    clear hgr hown
    have hl7 := congrArg List.length HL7.out
    simp only [List.length_append] at hl7
    have hl7_ := hide hl7
    clear hl7
    have e : l7 = X := by rw [HX.out, HL7.out, HL5.out, HL4.out, HL2.out]; rfl
    go_wp2
    go_ret
    subst e
    exact ⟨A7, c7, rfl, ho7.mono (by omega), Grow.trans hg0 HG.out⟩
set_option maxRecDepth 100000 in
set_option maxHeartbeats 2000000 in
theorem headPuts_no (p : Pkt) (A : Option Addr) (l : List UInt8) (c : Nat) (w : World) (h : headB p = false) :
    Calls Try.prog 8 #[pv p A l.length c] w fun e w' => e = .returned (.bool true) ∧ Grow w w' := by
  have HD := hide (fun W => headgood_any p A l.length c W)
  have HR := hide (fun W => refheadgood_any p A l.length c W)
  rw [h] at HD HR
  clear h
  go_enter Try.func8, Try.ntmps8
  go_wp2_with fail
  refine (HR.out _).mono ?_
  rintro r w1 ⟨rfl, hb1⟩
  obtain ⟨p0, hg1⟩ := peel1 hb1
  have p0_ := hide p0
  clear p0
  have p0 := p0_
  clear p0_
  have HG1 := hide (show Grow w w1 from hg1)
  have hsz1 : w.heap.size ≤ w1.heap.size := HG1.out.size
  have hq1 : w.heap.size ≤ w1.heap.size := hg1.size
  have HS1 := hide hg1
  clear hb1 hg1
  obtain ⟨cp0, fp0, lp0⟩ := (show Box w1 _ _ from p0.out).rules
  go_wp2_with fail
  refine (HD.out _).mono ?_
  rintro r w2 ⟨rfl, hb2⟩
  clear cp0 fp0 lp0
  have hg2 := hb2
  have p0_ := hide ((show Box w1 _ _ from p0.out).grow hg2)
  clear p0
  have p0 := p0_
  clear p0_
  have HG2 := hide (Grow.trans (show Grow w w1 from HG1.out) hg2)
  clear HG1
  have hsz2 : w.heap.size ≤ w2.heap.size := HG2.out.size
  have hq2 : w1.heap.size ≤ w2.heap.size := hg2.size
  have HS2 := hide hg2
  clear hb2 hg2
  obtain ⟨cp0, fp0, lp0⟩ := (show Box w2 _ _ from p0.out).rules
  go_wp2_with fail
  refine (works09_any _).mono ?_
  rintro r w3 ⟨rfl, hb3⟩
  clear cp0 fp0 lp0
  have hg3 := hb3
  have p0_ := hide ((show Box w2 _ _ from p0.out).grow hg3)
  clear p0
  have p0 := p0_
  clear p0_
  have HG3 := hide (Grow.trans (show Grow w w2 from HG2.out) hg3)
  clear HG2
  have hsz3 : w.heap.size ≤ w3.heap.size := HG3.out.size
  have hq3 : w2.heap.size ≤ w3.heap.size := hg3.size
  have HS3 := hide hg3
  clear hb3 hg3
  obtain ⟨cp0, fp0, lp0⟩ := (show Box w3 _ _ from p0.out).rules
  go_wp2
  go_ret
  exact ⟨rfl, HG3.out⟩
set_option maxRecDepth 100000 in
set_option maxHeartbeats 2000000 in
theorem headPuts_yes (p : Pkt) (A : Option Addr) (l : List UInt8) (c : Nat) (w : World) (hq1 : 0 ≤ p.seq) (hq2 : p.seq < 4294967296) (h : headB p = true) :
    Calls Try.prog 8 #[pv p A l.length c] w fun e w' => e = .returned (.bool true) ∧ Grow w w' := by
  have HD := hide (fun W => headgood_any p A l.length c W)
  have HR := hide (fun W => refheadgood_any p A l.length c W)
  rw [h] at HD HR
  have hback := hide (head_back p hq1 hq2 h [])
  rw [List.append_nil] at hback
  have hPut := hide (fun (g : Nat) (W : World) (hwr : Wr W g g none 0 0 [] 100) (hq : g ≤ W.heap.size) => headput_any g g none 0 0 [] 100 p A l.length c W hwr (by simp) hq)
  have hS := hide (show headS 100 (0, []) p = (0, headBytes p) from headS_ok 100 [] p (by decide))
  rw [hS.out] at hPut
  have hB := hide (fun W => refheadbytes_any p A l.length c W)
  have hslen := headBytes_len p
  generalize headBytes p = s at *
  clear h
  go_enter Try.func8, Try.ntmps8
  go_wp2_with fail
  refine (HR.out _).mono ?_
  rintro r w1 ⟨rfl, hb1⟩
  obtain ⟨p0, hg1⟩ := peel1 hb1
  have p0_ := hide p0
  clear p0
  have p0 := p0_
  clear p0_
  have HG1 := hide (show Grow w w1 from hg1)
  have hsz1 : w.heap.size ≤ w1.heap.size := HG1.out.size
  have hq1 : w.heap.size ≤ w1.heap.size := hg1.size
  have HS1 := hide hg1
  clear hb1 hg1
  obtain ⟨cp0, fp0, lp0⟩ := (show Box w1 _ _ from p0.out).rules
  go_wp2_with fail
  have hp1 := lp0
  refine (new_at 100 w1.heap.size _ (by decide) (by decide) rfl).mono ?_
  rintro r w2 ⟨rfl, hwr, hb2⟩
  clear cp0 fp0 lp0
  have hg2 := hb2
  have p0_ := hide ((show Box w1 _ _ from p0.out).grow hg2)
  clear p0
  have p0 := p0_
  clear p0_
  have HG2 := hide (Grow.trans (show Grow w w1 from HG1.out) hg2)
  clear HG1
  have hsz2 : w.heap.size ≤ w2.heap.size := HG2.out.size
  have hq2 : w1.heap.size ≤ w2.heap.size := hg2.size
  have HS2 := hide hg2
  clear hb2 hg2
  obtain ⟨cp0, fp0, lp0⟩ := (show Box w2 _ _ from p0.out).rules
  go_wp2_with fail
  refine (hPut.out _ _ hwr HS2.out.size).mono ?_
  rintro r w3 ⟨rfl, A3, c3, hwr3, hb3, _⟩
  simp only [foot, blk, Option.map_none, Option.toList_none] at hb3
  clear cp0 fp0 lp0
  have hg3 := hb3
  have p0_ := hide ((show Box w2 _ _ from p0.out).kept hg3 (by simp; try omega))
  clear p0
  have p0 := p0_
  clear p0_
  have HG3 := hide (Kept.fresh1 hg3 (show Grow w w2 from HG2.out) (by omega))
  clear HG2
  have hsz3 : w.heap.size ≤ w3.heap.size := HG3.out.size
  have hq3 : w2.heap.size ≤ w3.heap.size := hg3.size
  have HS3 := hide hg3
  clear hb3 hg3
  obtain ⟨cp0, fp0, lp0⟩ := (show Box w3 _ _ from p0.out).rules
  go_wp2_with fail
  refine (done_ok _ _ A3 c3 _ 100 _ hwr3 (by show s.length ≤ _; omega)).mono ?_
  rintro r w4 ⟨A4, c4, rfl, hown4, hb4⟩
  have hs4 := hown4.bytes
  have hc4 := hown4.le
  clear hwr hwr3 hown4
  clear cp0 fp0 lp0
  have hg4 := hb4
  have p0_ := hide ((show Box w3 _ _ from p0.out).grow hg4)
  clear p0
  have p0 := p0_
  clear p0_
  have HG4 := hide (Grow.trans (show Grow w w3 from HG3.out) hg4)
  clear HG3
  have hsz4 : w.heap.size ≤ w4.heap.size := HG4.out.size
  have hq4 : w3.heap.size ≤ w4.heap.size := hg4.size
  have HS4 := hide hg4
  clear hb4 hg4
  obtain ⟨cp0, fp0, lp0⟩ := (show Box w4 _ _ from p0.out).rules
  go_wp2_with fail
  have Rp0 := fun (W : World) (h : Grow w4.drew W) => ((show Box w4 _ _ from p0.out).grow (Grow.of_drew h)).cell
  have Fp0 := fun (W : World) (h : Grow w4.drew W) => ((show Box w4 _ _ from p0.out).grow (Grow.of_drew h)).fz
  have Vhs4 := fun (W : World) (h : Grow w4.drew W) => conv_any c4 (hs4.grow (Grow.of_drew h))
  refine wpR_region (Grow) [] (by kernel_rfl) ?_
  refine wpR_take grow_rf grow_tr 0 rfl (by kernel_rfl) (fun _ _ _ h => h) rfl (v := ?_) ?_ ?_
  rotate_left
  · (intro w' hG; go_simp; try with_reducible rfl)
  try simp only [Act.put, List.setIfInBounds_toArray, List.set_cons_zero, List.set_cons_succ]
  refine wpR_take grow_rf grow_tr 1 rfl (by kernel_rfl) (fun _ _ _ h => h) rfl (v := ?_) ?_ ?_
  rotate_left
  · (intro w' hG; go_simp; try with_reducible rfl)
  try simp only [Act.put, List.setIfInBounds_toArray, List.set_cons_zero, List.set_cons_succ]
  refine wpR_take grow_rf grow_tr 2 rfl (by kernel_rfl) (fun _ _ _ h => h) rfl (v := ?_) ?_ ?_
  rotate_left
  · (intro w' hG; go_simp; try with_reducible rfl)
  try simp only [Act.put, List.setIfInBounds_toArray, List.set_cons_zero, List.set_cons_succ]
  refine wpR_call 3 rfl (by kernel_rfl) rfl fun K hK => ?_
  go_simp
  refine (hB.out _).mono ?_
  rintro r w5 ⟨A5, c5, rfl, hown5, hb5⟩
  have hs5 := hown5.bytes
  clear hown5
  refine hK.out _ _ (.inr (hb5)) ?_
  clear hK
  try simp only [Act.put, List.setIfInBounds_toArray, List.set_cons_zero, List.set_cons_succ]
  clear Rp0 Fp0
  clear Vhs4
  have hb5 := Grow.of_drew hb5
  clear cp0 fp0 lp0
  have hg5 := hb5
  have p0_ := hide ((show Box w4 _ _ from p0.out).grow hg5)
  clear p0
  have p0 := p0_
  clear p0_
  have hs4 := hs4.grow hg5
  have HG5 := hide (Grow.trans (show Grow w w4 from HG4.out) hg5)
  clear HG4
  have hsz5 : w.heap.size ≤ w5.heap.size := HG5.out.size
  have hq5 : w4.heap.size ≤ w5.heap.size := hg5.size
  have HS5 := hide hg5
  clear hb5 hg5
  obtain ⟨cp0, fp0, lp0⟩ := (show Box w5 _ _ from p0.out).rules
  have Rp0 := fun (W : World) (h : Grow w5 W) => ((show Box w5 _ _ from p0.out).grow h).cell
  have Fp0 := fun (W : World) (h : Grow w5 W) => ((show Box w5 _ _ from p0.out).grow h).fz
  have Vhs4 := fun (W : World) (h : Grow w5 W) => conv_any c4 (hs4.grow h)
  have Vhs5 := fun (W : World) (h : Grow w5 W) => conv_any c5 (hs5.grow h)
  refine wpR_take grow_rf grow_tr 4 rfl (by kernel_rfl) (fun _ _ _ h => h) rfl (v := ?_) ?_ ?_
  rotate_left
  · (intro w' hG; go_simp; try with_reducible rfl)
  try simp only [Act.put, List.setIfInBounds_toArray, List.set_cons_zero, List.set_cons_succ]
  refine wpR_take grow_rf grow_tr 5 rfl (by kernel_rfl) (fun _ _ _ h => h) rfl (v := ?_) ?_ ?_
  rotate_left
  · (intro w' hG; go_simp; try with_reducible rfl)
  try simp only [Act.put, List.setIfInBounds_toArray, List.set_cons_zero, List.set_cons_succ]
  refine wpR_take grow_rf grow_tr 6 rfl (by kernel_rfl) (fun _ _ _ h => h) rfl (v := ?_) ?_ ?_
  rotate_left
  · (intro w' hG; go_simp; try with_reducible rfl)
  try simp only [Act.put, List.setIfInBounds_toArray, List.set_cons_zero, List.set_cons_succ]
  refine wpR_take grow_rf grow_tr 7 rfl (by kernel_rfl) (fun _ _ _ h => h) rfl (v := ?_) ?_ ?_
  rotate_left
  · (intro w' hG; go_simp; try with_reducible rfl)
  try simp only [Act.put, List.setIfInBounds_toArray, List.set_cons_zero, List.set_cons_succ]
  refine wpR_take grow_rf grow_tr 8 rfl (by kernel_rfl) (fun _ _ _ h => h) rfl (v := ?_) ?_ ?_
  rotate_left
  · (intro w' hG; go_simp; try with_reducible rfl)
  try simp only [Act.put, List.setIfInBounds_toArray, List.set_cons_zero, List.set_cons_succ]
  refine wpR_take grow_rf grow_tr 9 rfl (by kernel_rfl) (fun _ _ _ h => h) rfl (v := ?_) ?_ ?_
  rotate_left
  · (intro w' hG; go_simp; try with_reducible rfl)
  try simp only [Act.put, List.setIfInBounds_toArray, List.set_cons_zero, List.set_cons_succ]
  refine wpR_done (by kernel_rfl) ?_ _
  clear Rp0 Fp0
  clear Vhs4 Vhs5
  go_wp2_with fail
  refine (read_any A4 s c4 _ hs4 (by omega)).mono ?_
  rintro r w6 ⟨N, pr, rfl, hr, hpr, hb6⟩
  have hp5 := lp0
  clear cp0 fp0 lp0
  have hg6 := hb6
  have p0_ := hide ((show Box w5 _ _ from p0.out).grow hg6)
  clear p0
  have p0 := p0_
  clear p0_
  have hs4 := hs4.grow hg6
  have HG6 := hide (Grow.trans (show Grow w w5 from HG5.out) hg6)
  clear HG5
  have hsz6 : w.heap.size ≤ w6.heap.size := HG6.out.size
  have hq6 : w5.heap.size ≤ w6.heap.size := hg6.size
  have HS6 := hide hg6
  clear hb6 hg6
  obtain ⟨cp0, fp0, lp0⟩ := (show Box w6 _ _ from p0.out).rules
  have hG := hide (fun W h => headget_any N pr s W h)
  rw [hback.out] at hG
  dsimp only at hG
  go_wp2_with fail
  refine (hG.out _ hr).mono ?_
  rintro r w7 ⟨rfl, hr7, hb7⟩
  have hrd7 := hr7 (by simp)
  clear hr7
  clear cp0 fp0 lp0
  have hg7 := hb7
  have p0_ := hide ((show Box w6 _ _ from p0.out).kept hg7 (by simp; try omega))
  clear p0
  have p0 := p0_
  clear p0_
  have HG7 := hide (Kept.fresh1 hg7 (show Grow w w6 from HG6.out) (by omega))
  clear HG6
  have hsz7 : w.heap.size ≤ w7.heap.size := HG7.out.size
  have hq7 : w6.heap.size ≤ w7.heap.size := hg7.size
  have HS7 := hide hg7
  clear hb7 hg7
  obtain ⟨cp0, fp0, lp0⟩ := (show Box w7 _ _ from p0.out).rules
  have HE := hide (end_any N pr ([], 0))
  rw [show rend ([], 0) = 0 from rfl] at HE
  have HS := hide (fun W => refsame_any (base p) (base p) none none [] [] 0 0 W (Bytes.nil _ _) (Bytes.nil _ _))
  rw [sameB_refl, beq_self_eq_true, Bool.true_and] at HS
  unfold base at HS ⊢
  go_wp2_with fail
  refine (HE.out _ (hrd7.grow ((Grow.refl w7).alloc _))).mono ?_
  rintro r w' ⟨rfl, rfl⟩
  go_wp2_with fail
  refine (HS.out _).mono ?_
  rintro r w8 ⟨rfl, hb8⟩
  clear cp0 fp0 lp0
  obtain ⟨x0, hg8⟩ := peel1 hb8
  have p0_ := hide ((show Box w7 _ _ from p0.out).grow hg8)
  clear p0
  have p0 := p0_
  clear p0_
  have x0_ := hide x0
  clear x0
  have x0 := x0_
  clear x0_
  have HG8 := hide (Grow.trans (show Grow w w7 from HG7.out) hg8)
  clear HG7
  have hsz8 : w.heap.size ≤ w8.heap.size := HG8.out.size
  have hq8 : w7.heap.size ≤ w8.heap.size := hg8.size
  have HS8 := hide hg8
  clear hb8 hg8
  obtain ⟨cp0, fp0, lp0⟩ := (show Box w8 _ _ from p0.out).rules
  obtain ⟨cx0, fx0, lx0⟩ := (show Box w8 _ _ from x0.out).rules
  go_wp2_with fail
  refine (works09_any _).mono ?_
  rintro r w9 ⟨rfl, hb9⟩
  clear cp0 fp0 lp0 cx0 fx0 lx0
  have hg9 := hb9
  have p0_ := hide ((show Box w8 _ _ from p0.out).grow hg9)
  clear p0
  have p0 := p0_
  clear p0_
  have x0_ := hide ((show Box w8 _ _ from x0.out).grow hg9)
  clear x0
  have x0 := x0_
  clear x0_
  have HG9 := hide (Grow.trans (show Grow w w8 from HG8.out) hg9)
  clear HG8
  have hsz9 : w.heap.size ≤ w9.heap.size := HG9.out.size
  have hq9 : w8.heap.size ≤ w9.heap.size := hg9.size
  have HS9 := hide hg9
  clear hb9 hg9
  obtain ⟨cp0, fp0, lp0⟩ := (show Box w9 _ _ from p0.out).rules
  obtain ⟨cx0, fx0, lx0⟩ := (show Box w9 _ _ from x0.out).rules
  go_wp2
  go_ret
  exact ⟨rfl, HG9.out⟩
theorem headPuts_any (p : Pkt) (A : Option Addr) (l : List UInt8) (c : Nat) (w : World) (ok : p.Ok) :
    Calls Try.prog 8 #[pv p A l.length c] w fun e w' => e = .returned (.bool true) ∧ Grow w w' := by
  have hq := bounds_u32 ok.seq
  cases h : headB p with
  | false => exact headPuts_no p A l c w h
  | true => exact headPuts_yes p A l c w hq.1 (by have := hq.2; omega) h
set_option maxRecDepth 100000 in
set_option maxHeartbeats 2000000 in
theorem headGets_any (B : Option Addr) (b : List UInt8) (cb : Nat) (w : World) (hbl : b.length ≤ cb) (hbc : cb ≤ 9223372036854775807) (hb : Bytes w B b) :
    Calls Try.prog 9 #[.slice B b.length cb] w fun e w' => e = .returned (.bool true) ∧ Grow w w' := by
  obtain ⟨m, hm⟩ : ∃ m, m = b.take 60 := ⟨_, rfl⟩
  have hmm : m.length = min 60 b.length := by rw [hm, List.length_take]
  have hb := hm ▸ hb.take 60
  have hmin : (if 60 < (b.length : Int) then (60 : Int) else (b.length : Int)) = ((m.length : Nat) : Int) := by split <;> omega
  have hmc : m.length ≤ cb := by omega
  have hmN : m.length ≤ 60 := by omega
  clear hm hmm hbl
  go_enter Try.func9, Try.ntmps9
  go_wp2_with (at_builtin; refine wpList_append_fresh byteT rfl (.tmp 11) (.tmp 16) rfl (Own.made' _ (w.heap.size) (w.heap.size) (by simp) (by omega)) (by simp <;> omega) (hb.alloc _) rfl rfl (by omega) ?_)
  intro A1 c1 w1 hown1 hb1
  have hb1 := Grow.trans ((Grow.refl _).alloc _) hb1
  have hg1 := hb1
  have hb := hb.grow hg1
  have HG1 := hide (show Grow w w1 from hg1)
  have hsz1 : w.heap.size ≤ w1.heap.size := HG1.out.size
  have hq1 : w.heap.size ≤ w1.heap.size := hg1.size
  have HS1 := hide hg1
  clear hb1 hg1
  have h1 := hown1.bytes
  have hc1 := hown1.le
  have hlt1 := fun q h => hown1.lt (q := q) h
  clear hown1 hb
  go_wp2_with fail
  refine (read_any A1 m c1 _ h1 (by omega)).mono ?_
  rintro r w2 ⟨N, pr, rfl, hr, hpr, hb2⟩
  have hg2 := hb2
  have h1 := h1.grow hg2
  have HG2 := hide (Grow.trans (show Grow w w1 from HG1.out) hg2)
  clear HG1
  have hsz2 : w.heap.size ≤ w2.heap.size := HG2.out.size
  have hq2 : w1.heap.size ≤ w2.heap.size := hg2.size
  have HS2 := hide hg2
  clear hb2 hg2
  have hs1 : ∀ q, blk A1 = some q → q ∉ [pr] := fun q h => by have := hlt1 q h; simp; omega
  have hG := hide (fun W h => headget_any N pr m W h)
  have hR := hide (fun W h => refheadget_any A1 m c1 W h hc1.1 hc1.2)
  generalize hg m = T at *
  obtain ⟨q, rest, e1⟩ := T
  dsimp only at *
  go_wp2_with fail
  refine (hG.out _ hr).mono ?_
  rintro r w3 ⟨rfl, hr3, hb3⟩
  have hg3 := hb3
  have h1 := h1.kept hg3 hs1
  have HG3 := hide (Kept.fresh1 hg3 (show Grow w w2 from HG2.out) (by omega))
  clear HG2
  have hsz3 : w.heap.size ≤ w3.heap.size := HG3.out.size
  have hq3 : w2.heap.size ≤ w3.heap.size := hg3.size
  have HS3 := hide hg3
  clear hb3 hg3
  go_wp2_with fail
  refine (hR.out _ (h1.alloc _)).mono ?_
  rintro r w4 ⟨⟨A4, c4, rfl, hc4, hcm4, hrest⟩, hb4⟩
  obtain ⟨x0, hg4⟩ := peel1 hb4
  have x0_ := hide x0
  clear x0
  have x0 := x0_
  clear x0_
  have h1 := h1.grow hg4
  have HG4 := hide (Grow.trans (show Grow w w3 from HG3.out) hg4)
  clear HG3
  have hsz4 : w.heap.size ≤ w4.heap.size := HG4.out.size
  have hq4 : w3.heap.size ≤ w4.heap.size := hg4.size
  have HS4 := hide hg4
  clear hb4 hg4
  obtain ⟨cx0, fx0, lx0⟩ := (show Box w4 _ _ from x0.out).rules
  have HS := hide (fun W => refsame_any q q none none [] [] 0 0 W (Bytes.nil _ _) (Bytes.nil _ _))
  rw [sameB_refl, beq_self_eq_true, Bool.true_and] at HS
  have HL := hide (fun W h => left_any N pr (rest, 0) W h)
  dsimp only at HL
  go_wp2_with fail
  refine (HS.out _).mono ?_
  rintro r w5 ⟨rfl, hb5⟩
  clear cx0 fx0 lx0
  obtain ⟨y0, hg5⟩ := peel1 hb5
  have x0_ := hide ((show Box w4 _ _ from x0.out).grow hg5)
  clear x0
  have x0 := x0_
  clear x0_
  have y0_ := hide y0
  clear y0
  have y0 := y0_
  clear y0_
  have h1 := h1.grow hg5
  have HG5 := hide (Grow.trans (show Grow w w4 from HG4.out) hg5)
  clear HG4
  have hsz5 : w.heap.size ≤ w5.heap.size := HG5.out.size
  have hq5 : w4.heap.size ≤ w5.heap.size := hg5.size
  have HS5 := hide hg5
  clear hb5 hg5
  obtain ⟨cx0, fx0, lx0⟩ := (show Box w5 _ _ from x0.out).rules
  obtain ⟨cy0, fy0, ly0⟩ := (show Box w5 _ _ from y0.out).rules
  by_cases he : e1 = 0
  · have hr5 := ((hr3 he).grow (show Grow w3 w4 from HS4.out)).grow (show Grow w4 w5 from HS5.out)
    subst he
    go_wp2_with fail
    refine (HL.out _ hr5).mono ?_
    rintro r w' ⟨rfl, rfl⟩
    go_wp2_with fail
    refine (headget_nil _).mono ?_
    rintro r w6 ⟨rfl, hb6⟩
    clear cx0 fx0 lx0 cy0 fy0 ly0
    have hg6 := hb6
    have x0_ := hide ((show Box w5 _ _ from x0.out).grow hg6)
    clear x0
    have x0 := x0_
    clear x0_
    have y0_ := hide ((show Box w5 _ _ from y0.out).grow hg6)
    clear y0
    have y0 := y0_
    clear y0_
    have h1 := h1.grow hg6
    have HG6 := hide (Grow.trans (show Grow w w5 from HG5.out) hg6)
    clear HG5
    have hsz6 : w.heap.size ≤ w6.heap.size := HG6.out.size
    have hq6 : w5.heap.size ≤ w6.heap.size := hg6.size
    have HS6 := hide hg6
    clear hb6 hg6
    obtain ⟨cx0, fx0, lx0⟩ := (show Box w6 _ _ from x0.out).rules
    obtain ⟨cy0, fy0, ly0⟩ := (show Box w6 _ _ from y0.out).rules
    go_wp2_with fail
    refine (works09_any _).mono ?_
    rintro r w7 ⟨rfl, hb7⟩
    clear cx0 fx0 lx0 cy0 fy0 ly0
    obtain ⟨z0, hg7⟩ := peel1 hb7
    have x0_ := hide ((show Box w6 _ _ from x0.out).grow hg7)
    clear x0
    have x0 := x0_
    clear x0_
    have y0_ := hide ((show Box w6 _ _ from y0.out).grow hg7)
    clear y0
    have y0 := y0_
    clear y0_
    have z0_ := hide z0
    clear z0
    have z0 := z0_
    clear z0_
    have h1 := h1.grow hg7
    have HG7 := hide (Grow.trans (show Grow w w6 from HG6.out) hg7)
    clear HG6
    have hsz7 : w.heap.size ≤ w7.heap.size := HG7.out.size
    have hq7 : w6.heap.size ≤ w7.heap.size := hg7.size
    have HS7 := hide hg7
    clear hb7 hg7
    obtain ⟨cx0, fx0, lx0⟩ := (show Box w7 _ _ from x0.out).rules
    obtain ⟨cy0, fy0, ly0⟩ := (show Box w7 _ _ from y0.out).rules
    obtain ⟨cz0, fz0, lz0⟩ := (show Box w7 _ _ from z0.out).rules
    go_wp2
    go_ret
    exact ⟨rfl, HG7.out⟩
  · have he' : (e1 != 0) = true := by simpa using he
    have he2 : (e1 == 0) = false := by simpa using he
    clear he hr3
    go_wp2_with fail
    refine (headget_nil _).mono ?_
    rintro r w6 ⟨rfl, hb6⟩
    clear cx0 fx0 lx0 cy0 fy0 ly0
    have hg6 := hb6
    have x0_ := hide ((show Box w5 _ _ from x0.out).grow hg6)
    clear x0
    have x0 := x0_
    clear x0_
    have y0_ := hide ((show Box w5 _ _ from y0.out).grow hg6)
    clear y0
    have y0 := y0_
    clear y0_
    have h1 := h1.grow hg6
    have HG6 := hide (Grow.trans (show Grow w w5 from HG5.out) hg6)
    clear HG5
    have hsz6 : w.heap.size ≤ w6.heap.size := HG6.out.size
    have hq6 : w5.heap.size ≤ w6.heap.size := hg6.size
    have HS6 := hide hg6
    clear hb6 hg6
    obtain ⟨cx0, fx0, lx0⟩ := (show Box w6 _ _ from x0.out).rules
    obtain ⟨cy0, fy0, ly0⟩ := (show Box w6 _ _ from y0.out).rules
    go_wp2_with fail
    refine (works09_any _).mono ?_
    rintro r w7 ⟨rfl, hb7⟩
    clear cx0 fx0 lx0 cy0 fy0 ly0
    obtain ⟨z0, hg7⟩ := peel1 hb7
    have x0_ := hide ((show Box w6 _ _ from x0.out).grow hg7)
    clear x0
    have x0 := x0_
    clear x0_
    have y0_ := hide ((show Box w6 _ _ from y0.out).grow hg7)
    clear y0
    have y0 := y0_
    clear y0_
    have z0_ := hide z0
    clear z0
    have z0 := z0_
    clear z0_
    have h1 := h1.grow hg7
    have HG7 := hide (Grow.trans (show Grow w w6 from HG6.out) hg7)
    clear HG6
    have hsz7 : w.heap.size ≤ w7.heap.size := HG7.out.size
    have hq7 : w6.heap.size ≤ w7.heap.size := hg7.size
    have HS7 := hide hg7
    clear hb7 hg7
    obtain ⟨cx0, fx0, lx0⟩ := (show Box w7 _ _ from x0.out).rules
    obtain ⟨cy0, fy0, ly0⟩ := (show Box w7 _ _ from y0.out).rules
    obtain ⟨cz0, fz0, lz0⟩ := (show Box w7 _ _ from z0.out).rules
    go_wp2
    go_ret
    exact ⟨rfl, HG7.out⟩
end Go.Proofs.Ytpobjcdcimcdnaa
