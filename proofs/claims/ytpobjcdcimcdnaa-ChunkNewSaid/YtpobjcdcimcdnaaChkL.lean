/- The walk of the statement ChunkNew. -/
import Derived.Test.YtpobjcdcimcdnaaChkH
namespace Go.Proofs.Ytpobjcdcimcdnaa
open Go.RowKit
theorem Kept.freshO {w w1 w2 : World} {A : Option Addr} (hk : Kept w1.heap.size (blk A).toList w1 w2) (hg : Grow w w1) (hA : ∀ q, blk A = some q → w.heap.size ≤ q) : Grow w w2 :=
  Below.trans hg (Kept.to_below (hk.mono hg.size (fun k hk hm => by have := hA k (by simpa using hm); omega)))
set_option maxRecDepth 100000 in
set_option maxHeartbeats 8000000 in
theorem chunkNew_any (p : Pkt) (A : Option Addr) (l : List UInt8) (c : Nat) (w : World) (hl : l.length ≤ c) (hc : c ≤ 9223372036854775807) (hb : Bytes w A l) :
    Calls Try.prog 13 #[pv p A l.length c] w fun e w' => e = .returned (.bool true) ∧ Grow w w' := by
  go_enter Try.func13, Try.ntmps13
  go_wp2_with fail
  refine (cut13_any p A l c _ hl hc (hb.alloc _)).mono ?_
  rintro r w1 ⟨A1, c1, rfl, hown, hb1⟩
  have hlb := hown.bytes
  have hlc := hown.le
  have hlt1 := fun q h => hown.lt (q := q) h
  have hln : (l.take 80).length ≤ 80 := by rw [List.length_take]; omega
  have hlo : ∀ q, blk A1 = some q → q ∉ [w.heap.size] := fun q hq => by have := hown.base hq; simp at this; simp; omega
  clear hown hb
  generalize l.take 80 = m at *
  obtain ⟨p0, hg1⟩ := peel1 hb1
  have p0_ := hide p0
  clear p0
  have p0 := p0_
  clear p0_
  have HG1 := hide (show Grow w w1 from hg1)
  have hsz1 : w.heap.size ≤ w1.heap.size := HG1.out.size
  have hq1 : w.heap.size ≤ w1.heap.size := hg1.size
  have HS1 := hide hg1
  clear hb1 hg1
  obtain ⟨cp0, fp0, lp0⟩ := (show Box w1 _ _ from p0.out).rules
  have hw01 := lp0
  go_wp2_with (at_builtin; refine Hid.out (?_ : Hid _))
  refine hide ?_
  clear cp0 fp0 lp0
  generalize hW2 : (World.setCell (World.setCell (World.setCell (World.setCell (World.setCell (World.setCell (World.setCell (World.setCell (World.setCell (World.setCell (World.setCell (World.setCell w1 _ _) _ _) _ _) _ _) _ _) _ _) _ _) _ _) _ _) _ _) _ _) _ _) = w2
  have hz21 : w2.heap.size = w1.heap.size := by rw [← hW2]; simp [World.setCell]
  have hz21 := hide hz21
  have np0 := Box.store12 (show Box w1 _ _ from p0.out) hW2
  have hb2 := Kept.store12 hW2
  clear hW2 p0
  have hg2 := hb2
  have hlb := hlb.kept hg2 hlo
  have HG2 := hide (Kept.fresh1 hg2 (show Grow w w1 from HG1.out) (by omega))
  clear HG1
  have hsz2 : w.heap.size ≤ w2.heap.size := HG2.out.size
  have hq2 : w1.heap.size ≤ w2.heap.size := hg2.size
  have HS2 := hide hg2
  clear hb2 hg2
  have p0 := hide np0
  clear np0
  obtain ⟨cp0, fp0, lp0⟩ := (show Box w2 _ _ from p0.out).rules
  go_wp2_with (at_builtin; refine wpList_append_fresh byteT rfl (.tmp 9) (.tmp 11) rfl (Own.made' _ (w1.heap.size) (w1.heap.size) (by have := hz21.out; simpa using this) (Nat.le_refl _)) (by simp <;> omega) (hlb.alloc _) rfl rfl (by omega) ?_)
  intro A3 c3 w3 hown3 hb3
  have hb3 := Grow.trans ((Grow.refl _).alloc _) hb3
  clear cp0 fp0 lp0
  have hg3 := hb3
  have p0_ := hide ((show Box w2 _ _ from p0.out).grow hg3)
  clear p0
  have p0 := p0_
  clear p0_
  have hlb := hlb.grow hg3
  have HG3 := hide (Grow.trans (show Grow w w2 from HG2.out) hg3)
  clear HG2
  have hsz3 : w.heap.size ≤ w3.heap.size := HG3.out.size
  have hq3 : w2.heap.size ≤ w3.heap.size := hg3.size
  have HS3 := hide hg3
  clear hb3 hg3
  obtain ⟨cp0, fp0, lp0⟩ := (show Box w3 _ _ from p0.out).rules
  have h3 := hown3.bytes
  have hc3 := hown3.le
  have hge3 := fun q h => hown3.base (q := q) h
  have hlt3 := fun q h => hown3.lt (q := q) h
  have HN := hide (fun W h => chunknew_any p.t p.frm p.seq p.no p.to p.index p.total A3 m c3 W h (by omega))
  have HR := hide (fun W => refchunknew_any p.t p.frm p.seq p.no p.to p.index p.total A1 m.length c1 W)
  generalize chunkP p.t p.frm p.seq p.no p.to p.index p.total = q at *
  go_wp2_with fail
  refine (HN.out _ h3).mono ?_
  rintro r w4 ⟨A4, c4, rfl, hown4, hb4⟩
  have h4 := hown4.bytes
  have hge4 := fun k h => hown4.base (q := k) h
  have hlt4 := fun k h => hown4.lt (q := k) h
  have hown3 := hown3.below hb4
  clear hown4
  clear cp0 fp0 lp0
  have hg4 := hb4
  have p0_ := hide ((show Box w3 _ _ from p0.out).grow hg4)
  clear p0
  have p0 := p0_
  clear p0_
  have hlb := hlb.grow hg4
  have h3 := h3.grow hg4
  have HG4 := hide (Grow.trans (show Grow w w3 from HG3.out) hg4)
  clear HG3
  have hsz4 : w.heap.size ≤ w4.heap.size := HG4.out.size
  have hq4 : w3.heap.size ≤ w4.heap.size := hg4.size
  have HS4 := hide hg4
  clear hb4 hg4
  obtain ⟨cp0, fp0, lp0⟩ := (show Box w4 _ _ from p0.out).rules
  have HS := hide (fun W h1 h2 => refsame_any q q A4 A1 m m c4 c1 W h1 h2)
  rw [sameB_refl, beq_self_eq_true, Bool.true_and] at HS
  have HD := hide (fun W => chunkgood_any q A4 m.length c4 W (by omega))
  have HRg := hide (fun W => refchunkgood_any q A1 m.length c1 W (by omega))
  generalize chunkB q m.length = bb at *
  go_wp2
  generalize hW5 : World.alloc w4 _ = w5
  have hb5 := Grow.of_eq hW5
  clear hW5
  clear cp0 fp0 lp0
  obtain ⟨x0, hg5⟩ := peel1 hb5
  have p0_ := hide ((show Box w4 _ _ from p0.out).grow hg5)
  clear p0
  have p0 := p0_
  clear p0_
  have x0_ := hide x0
  clear x0
  have x0 := x0_
  clear x0_
  have hlb := hlb.grow hg5
  have h3 := h3.grow hg5
  have h4 := h4.grow hg5
  have HG5 := hide (Grow.trans (show Grow w w4 from HG4.out) hg5)
  clear HG4
  have hsz5 : w.heap.size ≤ w5.heap.size := HG5.out.size
  have hq5 : w4.heap.size ≤ w5.heap.size := hg5.size
  have HS5 := hide hg5
  clear hb5 hg5
  obtain ⟨cp0, fp0, lp0⟩ := (show Box w5 _ _ from p0.out).rules
  obtain ⟨cx0, fx0, lx0⟩ := (show Box w5 _ _ from x0.out).rules
  have hown3 := hown3.below (show Below w4.heap.size w4 w5 from HS5.out)
  have hk0 := Kept.refl w5.heap.size (blk A3).toList w5
  go_loopw [27] (fun i wr => ∃ (k : Nat) (l' : List UInt8), k ≤ m.length ∧ i = .int .i64 k ∧ l'.length = m.length ∧ Own wr w1.heap.size A3 c3 l' ∧ Kept w5.heap.size (blk A3).toList w5 wr) (fun i _ => m.length - (intOf i).toNat)
  case atStart => exact ⟨0, m, by omega, rfl, rfl, hown3, hk0⟩
  case round =>
    obtain ⟨k, l', hk, rfl, hll, hown, hK⟩ := hrel
    clear hown3 hk0
    by_cases hlt : k < m.length
    · obtain ⟨g, rfl⟩ : ∃ g, A3 = some ⟨g, 0, none⟩ := by
        rcases hown.form with ⟨_, h0, _⟩ | ⟨g, hA, _⟩
        · rw [h0] at hll; simp at hll; omega
        · exact ⟨g, hA⟩
      have hcell := hown.cell k (by omega)
      have hfr := hown.frozen k
      obtain ⟨x, HX⟩ : ∃ x : UInt8, Hid (x = l'[k]'(by omega)) := ⟨_, hide rfl⟩
      rw [← HX.out] at hcell
      have hx8 := u8_lt x
      have hset := hown.set k (u8of ((x.toNat : Int) + 1))
      rw [u8_u8of, IntKind.wrap_u8] at hset
      clear HX HS HD HRg HN HR hge4 hlt4
      go_wp2
      go_roundw
      case rel => exact ⟨k + 1, l'.set k _, by omega, by go_num, by rw [List.length_set]; exact hll, hset, hK.setCell (p := ⟨g, k, none⟩) (.inr (by simp [blk])) _⟩
      case measure => simp [intOf]; omega
    · have hkm : k = m.length := by omega
      subst hkm
      have HGr := hide (Kept.freshO hK HG5.out (fun q h => by have := hge3 q h; omega))
      have hszr : w.heap.size ≤ wr.heap.size := HGr.out.size
      clear cp0 fp0 lp0 cx0 fx0 lx0
      have p0_ := hide ((show Box w5 _ _ from p0.out).kept hK (fun hm => by have := hge3 _ (by simpa using hm); omega))
      clear p0
      have p0 := p0_
      clear p0_
      have x0_ := hide ((show Box w5 _ _ from x0.out).kept hK (fun hm => by have := hlt3 _ (by simpa using hm); omega))
      clear x0
      have x0 := x0_
      clear x0_
      have h4 := h4.kept hK (fun q h hm => by have := hge4 q h; have := hlt3 q (by simpa using hm); omega)
      have hlb := hlb.kept hK (fun q h hm => by have := hlt1 q h; have := hge3 q (by simpa using hm); omega)
      clear hK hown hlt h3
      obtain ⟨cp0, fp0, lp0⟩ := (show Box wr _ _ from p0.out).rules
      obtain ⟨cx0, fx0, lx0⟩ := (show Box wr _ _ from x0.out).rules
      go_wp2_with fail
      refine (HR.out _).mono ?_
      rintro r w7 ⟨rfl, hb7⟩
      clear cp0 fp0 lp0 cx0 fx0 lx0
      have hg7 := hb7
      have p0_ := hide ((show Box wr _ _ from p0.out).grow hg7)
      clear p0
      have p0 := p0_
      clear p0_
      have x0_ := hide ((show Box wr _ _ from x0.out).grow hg7)
      clear x0
      have x0 := x0_
      clear x0_
      have h4 := h4.grow hg7
      have hlb := hlb.grow hg7
      have HG7 := hide (Grow.trans (show Grow w wr from HGr.out) hg7)
      clear HGr
      have hsz7 : w.heap.size ≤ w7.heap.size := HG7.out.size
      have hq7 : wr.heap.size ≤ w7.heap.size := hg7.size
      have HS7 := hide hg7
      clear hb7 hg7
      obtain ⟨cp0, fp0, lp0⟩ := (show Box w7 _ _ from p0.out).rules
      obtain ⟨cx0, fx0, lx0⟩ := (show Box w7 _ _ from x0.out).rules
      go_wp2_with fail
      generalize hW8 : World.alloc w7 _ = w8
      have hb8 := Grow.of_eq hW8
      clear hW8
      clear cp0 fp0 lp0 cx0 fx0 lx0
      obtain ⟨y0, hg8⟩ := peel1 hb8
      have p0_ := hide ((show Box w7 _ _ from p0.out).grow hg8)
      clear p0
      have p0 := p0_
      clear p0_
      have x0_ := hide ((show Box w7 _ _ from x0.out).grow hg8)
      clear x0
      have x0 := x0_
      clear x0_
      have y0_ := hide y0
      clear y0
      have y0 := y0_
      clear y0_
      have h4 := h4.grow hg8
      have hlb := hlb.grow hg8
      have HG8 := hide (Grow.trans (show Grow w w7 from HG7.out) hg8)
      clear HG7
      have hsz8 : w.heap.size ≤ w8.heap.size := HG8.out.size
      have hq8 : w7.heap.size ≤ w8.heap.size := hg8.size
      have HS8 := hide hg8
      clear hb8 hg8
      obtain ⟨cp0, fp0, lp0⟩ := (show Box w8 _ _ from p0.out).rules
      obtain ⟨cx0, fx0, lx0⟩ := (show Box w8 _ _ from x0.out).rules
      obtain ⟨cy0, fy0, ly0⟩ := (show Box w8 _ _ from y0.out).rules
      have Rp0 := fun (W : World) (h : Grow w8.drew W) => ((show Box w8 _ _ from p0.out).grow (Grow.of_drew h)).cell
      have Fp0 := fun (W : World) (h : Grow w8.drew W) => ((show Box w8 _ _ from p0.out).grow (Grow.of_drew h)).fz
      have Rx0 := fun (W : World) (h : Grow w8.drew W) => ((show Box w8 _ _ from x0.out).grow (Grow.of_drew h)).cell
      have Fx0 := fun (W : World) (h : Grow w8.drew W) => ((show Box w8 _ _ from x0.out).grow (Grow.of_drew h)).fz
      have Ry0 := fun (W : World) (h : Grow w8.drew W) => ((show Box w8 _ _ from y0.out).grow (Grow.of_drew h)).cell
      have Fy0 := fun (W : World) (h : Grow w8.drew W) => ((show Box w8 _ _ from y0.out).grow (Grow.of_drew h)).fz
      refine wpR_region (Grow) [] (by kernel_rfl) ?_
      refine wpR_take grow_rf grow_tr 0 rfl (by kernel_rfl) (fun _ _ _ h => h) rfl (v := ?_) ?_ ?_
      rotate_left
      · (intro w' hG; go_simp; try with_reducible rfl)
      try simp only [Act.put, List.setIfInBounds_toArray, List.set_cons_zero, List.set_cons_succ]
      refine wpR_take grow_rf grow_tr 1 rfl (by kernel_rfl) (fun _ _ _ h => h) rfl (v := ?_) ?_ ?_
      rotate_left
      · (intro w' hG; go_simp; try with_reducible rfl)
      try simp only [Act.put, List.setIfInBounds_toArray, List.set_cons_zero, List.set_cons_succ]
      refine wpR_call 2 rfl (by kernel_rfl) rfl fun K hK => ?_
      go_simp
      refine (HS.out _ h4.drew hlb.drew).mono ?_
      rintro r w9 ⟨rfl, hb9⟩
      refine hK.out _ _ (.inr (hb9)) ?_
      clear hK
      try simp only [Act.put, List.setIfInBounds_toArray, List.set_cons_zero, List.set_cons_succ]
      clear Rp0 Fp0 Rx0 Fx0 Ry0 Fy0
      have hb9 := Grow.of_drew hb9
      clear cp0 fp0 lp0 cx0 fx0 lx0 cy0 fy0 ly0
      have hg9 := hb9
      have p0_ := hide ((show Box w8 _ _ from p0.out).grow hg9)
      clear p0
      have p0 := p0_
      clear p0_
      have x0_ := hide ((show Box w8 _ _ from x0.out).grow hg9)
      clear x0
      have x0 := x0_
      clear x0_
      have y0_ := hide ((show Box w8 _ _ from y0.out).grow hg9)
      clear y0
      have y0 := y0_
      clear y0_
      have h4 := h4.grow hg9
      have hlb := hlb.grow hg9
      have HG9 := hide (Grow.trans (show Grow w w8 from HG8.out) hg9)
      clear HG8
      have hsz9 : w.heap.size ≤ w9.heap.size := HG9.out.size
      have hq9 : w8.heap.size ≤ w9.heap.size := hg9.size
      have HS9 := hide hg9
      clear hb9 hg9
      obtain ⟨cp0, fp0, lp0⟩ := (show Box w9 _ _ from p0.out).rules
      obtain ⟨cx0, fx0, lx0⟩ := (show Box w9 _ _ from x0.out).rules
      obtain ⟨cy0, fy0, ly0⟩ := (show Box w9 _ _ from y0.out).rules
      have Rp0 := fun (W : World) (h : Grow w9 W) => ((show Box w9 _ _ from p0.out).grow h).cell
      have Fp0 := fun (W : World) (h : Grow w9 W) => ((show Box w9 _ _ from p0.out).grow h).fz
      have Rx0 := fun (W : World) (h : Grow w9 W) => ((show Box w9 _ _ from x0.out).grow h).cell
      have Fx0 := fun (W : World) (h : Grow w9 W) => ((show Box w9 _ _ from x0.out).grow h).fz
      have Ry0 := fun (W : World) (h : Grow w9 W) => ((show Box w9 _ _ from y0.out).grow h).cell
      have Fy0 := fun (W : World) (h : Grow w9 W) => ((show Box w9 _ _ from y0.out).grow h).fz
      refine wpR_take grow_rf grow_tr 3 rfl (by kernel_rfl) (fun _ _ _ h => h) rfl (v := ?_) ?_ ?_
      rotate_left
      · (intro w' hG; go_simp; try with_reducible rfl)
      try simp only [Act.put, List.setIfInBounds_toArray, List.set_cons_zero, List.set_cons_succ]
      refine wpR_take grow_rf grow_tr 4 rfl (by kernel_rfl) (fun _ _ _ h => h) rfl (v := ?_) ?_ ?_
      rotate_left
      · (intro w' hG; go_simp; try with_reducible rfl)
      try simp only [Act.put, List.setIfInBounds_toArray, List.set_cons_zero, List.set_cons_succ]
      refine wpR_take grow_rf grow_tr 6 rfl (by kernel_rfl) (fun _ _ _ h => h) rfl (v := ?_) ?_ ?_
      rotate_left
      · (intro w' hG; go_simp; try with_reducible rfl)
      try simp only [Act.put, List.setIfInBounds_toArray, List.set_cons_zero, List.set_cons_succ]
      refine wpR_call 5 rfl (by kernel_rfl) rfl fun K hK => ?_
      go_simp
      refine (HD.out _).mono ?_
      rintro r w10 ⟨rfl, hb10⟩
      refine hK.out _ _ (.inr (hb10)) ?_
      clear hK
      try simp only [Act.put, List.setIfInBounds_toArray, List.set_cons_zero, List.set_cons_succ]
      clear Rp0 Fp0 Rx0 Fx0 Ry0 Fy0
      clear cp0 fp0 lp0 cx0 fx0 lx0 cy0 fy0 ly0
      have hg10 := hb10
      have p0_ := hide ((show Box w9 _ _ from p0.out).grow hg10)
      clear p0
      have p0 := p0_
      clear p0_
      have x0_ := hide ((show Box w9 _ _ from x0.out).grow hg10)
      clear x0
      have x0 := x0_
      clear x0_
      have y0_ := hide ((show Box w9 _ _ from y0.out).grow hg10)
      clear y0
      have y0 := y0_
      clear y0_
      have h4 := h4.grow hg10
      have hlb := hlb.grow hg10
      have HG10 := hide (Grow.trans (show Grow w w9 from HG9.out) hg10)
      clear HG9
      have hsz10 : w.heap.size ≤ w10.heap.size := HG10.out.size
      have hq10 : w9.heap.size ≤ w10.heap.size := hg10.size
      have HS10 := hide hg10
      clear hb10 hg10
      obtain ⟨cp0, fp0, lp0⟩ := (show Box w10 _ _ from p0.out).rules
      obtain ⟨cx0, fx0, lx0⟩ := (show Box w10 _ _ from x0.out).rules
      obtain ⟨cy0, fy0, ly0⟩ := (show Box w10 _ _ from y0.out).rules
      have Rp0 := fun (W : World) (h : Grow w10 W) => ((show Box w10 _ _ from p0.out).grow h).cell
      have Fp0 := fun (W : World) (h : Grow w10 W) => ((show Box w10 _ _ from p0.out).grow h).fz
      have Rx0 := fun (W : World) (h : Grow w10 W) => ((show Box w10 _ _ from x0.out).grow h).cell
      have Fx0 := fun (W : World) (h : Grow w10 W) => ((show Box w10 _ _ from x0.out).grow h).fz
      have Ry0 := fun (W : World) (h : Grow w10 W) => ((show Box w10 _ _ from y0.out).grow h).cell
      have Fy0 := fun (W : World) (h : Grow w10 W) => ((show Box w10 _ _ from y0.out).grow h).fz
      refine wpR_call 7 rfl (by kernel_rfl) rfl fun K hK => ?_
      go_simp
      refine (HRg.out _).mono ?_
      rintro r w11 ⟨rfl, hb11⟩
      refine hK.out _ _ (.inr (hb11)) ?_
      clear hK
      try simp only [Act.put, List.setIfInBounds_toArray, List.set_cons_zero, List.set_cons_succ]
      clear Rp0 Fp0 Rx0 Fx0 Ry0 Fy0
      clear cp0 fp0 lp0 cx0 fx0 lx0 cy0 fy0 ly0
      have hg11 := hb11
      have p0_ := hide ((show Box w10 _ _ from p0.out).grow hg11)
      clear p0
      have p0 := p0_
      clear p0_
      have x0_ := hide ((show Box w10 _ _ from x0.out).grow hg11)
      clear x0
      have x0 := x0_
      clear x0_
      have y0_ := hide ((show Box w10 _ _ from y0.out).grow hg11)
      clear y0
      have y0 := y0_
      clear y0_
      have h4 := h4.grow hg11
      have hlb := hlb.grow hg11
      have HG11 := hide (Grow.trans (show Grow w w10 from HG10.out) hg11)
      clear HG10
      have hsz11 : w.heap.size ≤ w11.heap.size := HG11.out.size
      have hq11 : w10.heap.size ≤ w11.heap.size := hg11.size
      have HS11 := hide hg11
      clear hb11 hg11
      obtain ⟨cp0, fp0, lp0⟩ := (show Box w11 _ _ from p0.out).rules
      obtain ⟨cx0, fx0, lx0⟩ := (show Box w11 _ _ from x0.out).rules
      obtain ⟨cy0, fy0, ly0⟩ := (show Box w11 _ _ from y0.out).rules
      have Rp0 := fun (W : World) (h : Grow w11 W) => ((show Box w11 _ _ from p0.out).grow h).cell
      have Fp0 := fun (W : World) (h : Grow w11 W) => ((show Box w11 _ _ from p0.out).grow h).fz
      have Rx0 := fun (W : World) (h : Grow w11 W) => ((show Box w11 _ _ from x0.out).grow h).cell
      have Fx0 := fun (W : World) (h : Grow w11 W) => ((show Box w11 _ _ from x0.out).grow h).fz
      have Ry0 := fun (W : World) (h : Grow w11 W) => ((show Box w11 _ _ from y0.out).grow h).cell
      have Fy0 := fun (W : World) (h : Grow w11 W) => ((show Box w11 _ _ from y0.out).grow h).fz
      refine wpR_take grow_rf grow_tr 8 rfl (by kernel_rfl) (fun _ _ _ h => h) rfl (v := ?_) ?_ ?_
      rotate_left
      · (intro w' hG; go_simp; try with_reducible rfl)
      try simp only [Act.put, List.setIfInBounds_toArray, List.set_cons_zero, List.set_cons_succ]
      refine wpR_take grow_rf grow_tr 9 rfl (by kernel_rfl) (fun _ _ _ h => h) rfl (v := ?_) ?_ ?_
      rotate_left
      · (intro w' hG; go_simp; try with_reducible rfl)
      try simp only [Act.put, List.setIfInBounds_toArray, List.set_cons_zero, List.set_cons_succ]
      refine wpR_take grow_rf grow_tr 10 rfl (by kernel_rfl) (fun _ _ _ h => h) rfl (v := ?_) ?_ ?_
      rotate_left
      · (intro w' hG; go_simp; try with_reducible rfl)
      try simp only [Act.put, List.setIfInBounds_toArray, List.set_cons_zero, List.set_cons_succ]
      refine wpR_call 11 rfl (by kernel_rfl) rfl fun K hK => ?_
      go_simp
      refine (works13_any _).mono ?_
      rintro r w12 ⟨rfl, hb12⟩
      refine hK.out _ _ (.inr (hb12)) ?_
      clear hK
      try simp only [Act.put, List.setIfInBounds_toArray, List.set_cons_zero, List.set_cons_succ]
      clear Rp0 Fp0 Rx0 Fx0 Ry0 Fy0
      clear cp0 fp0 lp0 cx0 fx0 lx0 cy0 fy0 ly0
      have hg12 := hb12
      have p0_ := hide ((show Box w11 _ _ from p0.out).grow hg12)
      clear p0
      have p0 := p0_
      clear p0_
      have x0_ := hide ((show Box w11 _ _ from x0.out).grow hg12)
      clear x0
      have x0 := x0_
      clear x0_
      have y0_ := hide ((show Box w11 _ _ from y0.out).grow hg12)
      clear y0
      have y0 := y0_
      clear y0_
      have h4 := h4.grow hg12
      have hlb := hlb.grow hg12
      have HG12 := hide (Grow.trans (show Grow w w11 from HG11.out) hg12)
      clear HG11
      have hsz12 : w.heap.size ≤ w12.heap.size := HG12.out.size
      have hq12 : w11.heap.size ≤ w12.heap.size := hg12.size
      have HS12 := hide hg12
      clear hb12 hg12
      obtain ⟨cp0, fp0, lp0⟩ := (show Box w12 _ _ from p0.out).rules
      obtain ⟨cx0, fx0, lx0⟩ := (show Box w12 _ _ from x0.out).rules
      obtain ⟨cy0, fy0, ly0⟩ := (show Box w12 _ _ from y0.out).rules
      have Rp0 := fun (W : World) (h : Grow w12 W) => ((show Box w12 _ _ from p0.out).grow h).cell
      have Fp0 := fun (W : World) (h : Grow w12 W) => ((show Box w12 _ _ from p0.out).grow h).fz
      have Rx0 := fun (W : World) (h : Grow w12 W) => ((show Box w12 _ _ from x0.out).grow h).cell
      have Fx0 := fun (W : World) (h : Grow w12 W) => ((show Box w12 _ _ from x0.out).grow h).fz
      have Ry0 := fun (W : World) (h : Grow w12 W) => ((show Box w12 _ _ from y0.out).grow h).cell
      have Fy0 := fun (W : World) (h : Grow w12 W) => ((show Box w12 _ _ from y0.out).grow h).fz
      refine wpR_take grow_rf grow_tr 12 rfl (by kernel_rfl) (fun _ _ _ h => h) rfl (v := ?_) ?_ ?_
      rotate_left
      · (intro w' hG; go_simp; try with_reducible rfl)
      try simp only [Act.put, List.setIfInBounds_toArray, List.set_cons_zero, List.set_cons_succ]
      refine wpR_take grow_rf grow_tr 13 rfl (by kernel_rfl) (fun _ _ _ h => h) rfl (v := ?_) ?_ ?_
      rotate_left
      · (intro w' hG; go_simp; try with_reducible rfl)
      try simp only [Act.put, List.setIfInBounds_toArray, List.set_cons_zero, List.set_cons_succ]
      refine wpR_done (by kernel_rfl) ?_ _
      clear Rp0 Fp0 Rx0 Fx0 Ry0 Fy0
      go_wp2
      go_ret
      exact ⟨rfl, HG12.out⟩
end Go.Proofs.Ytpobjcdcimcdnaa
