/- The walks of the statements AttendGets and AttendPuts. -/
import Derived.Test.YtldgnallbkpchaaAttB
namespace Go.Proofs.Ytldgnallbkpchaa
open Go.RowKit
theorem att_back (p : Pkt) (l : List UInt8) (h : attB p l = true) (r : List UInt8) : pg3 (Buf.sevens (u64of p.no) ++ r) (attP p.t p.frm p.seq p.hops 0) = (attP p.t p.frm p.seq p.hops p.no, r, 0) ∧ sameB p (attP p.t p.frm p.seq p.hops p.no) = true ∧ l = [] := by
  unfold attB at h
  simp only [Bool.and_eq_true, List.isEmpty_iff] at h
  obtain ⟨⟨⟨h1, h2⟩, _⟩, h4⟩ := h
  have hno : 0 ≤ p.no ∧ p.no ≤ 1152921504606846976 := by simp [numB] at h4; exact h4
  have hx : ((u64of p.no : Nat) : Int) = p.no := by rw [← u64_of, IntKind.wrap_u64]; omega
  refine ⟨?_, h1, h2⟩
  unfold pg3
  rw [show rnum (Buf.sevens (u64of p.no) ++ r, 0) = (u64of p.no, r, 0) from Buf.sevens_get_back _ _ (u64of_lt _)]
  have en : noG (u64of p.no, r, 0) = 0 := if_neg (fun h => by have := h.2; dsimp only at this; omega)
  rw [en, if_pos rfl]
  dsimp only
  rw [hx]
set_option maxRecDepth 100000 in
set_option maxHeartbeats 2000000 in
theorem attendGets_any (B : Option Addr) (b : List UInt8) (cb : Nat) (p : Pkt) (A : Option Addr) (l : List UInt8) (c : Nat) (w : World) (hbl : b.length ≤ cb) (hb : Bytes w B b) (hl : l.length ≤ c) (hc : c ≤ 9223372036854775807) (hlb : Bytes w A l) :
    Calls Try.prog 27 #[.slice B b.length cb, pv p A l.length c] w fun e w' => e = .returned (.bool true) ∧ Grow w w' := by
  obtain ⟨m, hm⟩ : ∃ m, m = b.take 60 := ⟨_, rfl⟩
  have hmm : m.length = min 60 b.length := by rw [hm, List.length_take]
  have hb := hm ▸ hb.take 60
  have hmin : (if 60 < (b.length : Int) then (60 : Int) else (b.length : Int)) = ((m.length : Nat) : Int) := by split <;> omega
  have hmc : m.length ≤ cb := by omega
  have hmN : m.length ≤ 60 := by omega
  clear hm hmm hbl
  have hl0 := hlb
  go_enter Try.func27, Try.ntmps27
  go_wp2_with (at_builtin; refine wpList_append_fresh byteT rfl (.tmp 11) (.tmp 16) rfl (Own.made' _ (w.heap.size + 1) (w.heap.size + 1) (by simp) (by omega)) (by simp <;> omega) ((hb.alloc _).alloc _) rfl rfl (by omega) ?_)
  intro A1 c1 w1 hown1 hb1
  have hb1 := Grow.trans ((Grow.refl _).alloc _) hb1
  obtain ⟨p0, hg1⟩ := peel1 hb1
  have p0_ := hide p0
  clear p0
  have p0 := p0_
  clear p0_
  have hb := hb.grow hg1
  have hlb := hlb.grow hg1
  have HG1 := hide (show Grow w w1 from hg1)
  have hsz1 : w.heap.size ≤ w1.heap.size := HG1.out.size
  have hq1 : w.heap.size ≤ w1.heap.size := hg1.size
  have HS1 := hide hg1
  clear hb1 hg1
  obtain ⟨cp0, fp0, lp0⟩ := (show Box w1 _ _ from p0.out).rules
  have h1 := hown1.bytes
  have hc1 := hown1.le
  have hlt1 := fun q h => hown1.lt (q := q) h
  clear hown1
  go_wp2_with fail
  refine (read_any A1 m c1 _ h1 (by omega)).mono ?_
  rintro r w2 ⟨N, pr, rfl, hr, hpr, hb2⟩
  have hp1 := lp0
  clear cp0 fp0 lp0
  have hg2 := hb2
  have p0_ := hide ((show Box w1 _ _ from p0.out).grow hg2)
  clear p0
  have p0 := p0_
  clear p0_
  have h1 := h1.grow hg2
  have hlb := hlb.grow hg2
  have HG2 := hide (Grow.trans (show Grow w w1 from HG1.out) hg2)
  clear HG1
  have hsz2 : w.heap.size ≤ w2.heap.size := HG2.out.size
  have hq2 : w1.heap.size ≤ w2.heap.size := hg2.size
  have HS2 := hide hg2
  clear hb2 hg2
  obtain ⟨cp0, fp0, lp0⟩ := (show Box w2 _ _ from p0.out).rules
  have hs1 : ∀ q, blk A1 = some q → q ∉ [pr] := fun q h => by have := hlt1 q h; simp; omega
  have hA := hl0.old (show w.heap.size ≤ pr by omega)
  have hG := hide (fun W h hz => attget_any N pr m p A l c W h hz hA hl hc)
  have hR := hide (fun W h => refattget_any A1 m c1 p A l c W h hc1.1 hc1.2 hl hc)
  generalize bodyOf (pg3 m p).2.2 l = l' at *
  generalize pg3 m p = T at *
  obtain ⟨q, rest, e1⟩ := T
  dsimp only at *
  go_wp2_with fail
  refine (hG.out _ hr hlb).mono ?_
  rintro r w3 ⟨⟨A3, c3, rfl, hc3, hcm3, hx⟩, hr3, hb3⟩
  clear cp0 fp0 lp0
  have hg3 := hb3
  have p0_ := hide ((show Box w2 _ _ from p0.out).kept hg3 (by simp; try omega))
  clear p0
  have p0 := p0_
  clear p0_
  have h1 := h1.kept hg3 hs1
  have HG3 := hide (Kept.fresh1 hg3 (show Grow w w2 from HG2.out) (by omega))
  clear HG2
  have hsz3 : w.heap.size ≤ w3.heap.size := HG3.out.size
  have hq3 : w2.heap.size ≤ w3.heap.size := hg3.size
  have HS3 := hide hg3
  clear hb3 hg3
  obtain ⟨cp0, fp0, lp0⟩ := (show Box w3 _ _ from p0.out).rules
  have hlb := hl0.grow (show Grow w w3 from HG3.out)
  go_wp2_with fail
  refine (hR.out _ (h1.alloc _)).mono ?_
  rintro r w4 ⟨⟨A4, c4, A5, c5, rfl, hc4, hcm4, hy, hc5, hcm5, hrest⟩, hb4⟩
  clear cp0 fp0 lp0
  obtain ⟨x0, hg4⟩ := peel1 hb4
  have p0_ := hide ((show Box w3 _ _ from p0.out).grow hg4)
  clear p0
  have p0 := p0_
  clear p0_
  have x0_ := hide x0
  clear x0
  have x0 := x0_
  clear x0_
  have h1 := h1.grow hg4
  have hlb := hlb.grow hg4
  have hx := hx.grow hg4
  have HG4 := hide (Grow.trans (show Grow w w3 from HG3.out) hg4)
  clear HG3
  have hsz4 : w.heap.size ≤ w4.heap.size := HG4.out.size
  have hq4 : w3.heap.size ≤ w4.heap.size := hg4.size
  have HS4 := hide hg4
  clear hb4 hg4
  obtain ⟨cp0, fp0, lp0⟩ := (show Box w4 _ _ from p0.out).rules
  obtain ⟨cx0, fx0, lx0⟩ := (show Box w4 _ _ from x0.out).rules
  have hy := hy _ hlb
  have HS := hide (fun W h1 h2 => refsame_any q q A3 A4 l' l' c3 c4 W h1 h2)
  rw [sameB_refl, beq_self_eq_true, Bool.true_and] at HS
  have HL := hide (fun W h => left_any N pr (rest, 0) W h)
  dsimp only at HL
  go_wp2_with fail
  refine (HS.out _ (hx.alloc _) (hy.alloc _)).mono ?_
  rintro r w5 ⟨rfl, hb5⟩
  clear cp0 fp0 lp0 cx0 fx0 lx0
  obtain ⟨y0, hg5⟩ := peel1 hb5
  have p0_ := hide ((show Box w4 _ _ from p0.out).grow hg5)
  clear p0
  have p0 := p0_
  clear p0_
  have x0_ := hide ((show Box w4 _ _ from x0.out).grow hg5)
  clear x0
  have x0 := x0_
  clear x0_
  have y0_ := hide y0
  clear y0
  have y0 := y0_
  clear y0_
  have hx := hx.grow hg5
  have hy := hy.grow hg5
  have HG5 := hide (Grow.trans (show Grow w w4 from HG4.out) hg5)
  clear HG4
  have hsz5 : w.heap.size ≤ w5.heap.size := HG5.out.size
  have hq5 : w4.heap.size ≤ w5.heap.size := hg5.size
  have HS5 := hide hg5
  clear hb5 hg5
  obtain ⟨cp0, fp0, lp0⟩ := (show Box w5 _ _ from p0.out).rules
  obtain ⟨cx0, fx0, lx0⟩ := (show Box w5 _ _ from x0.out).rules
  obtain ⟨cy0, fy0, ly0⟩ := (show Box w5 _ _ from y0.out).rules
  by_cases he : e1 = 0
  · have hr5 := ((hr3 he).grow (show Grow w3 w4 from HS4.out)).grow (show Grow w4 w5 from HS5.out)
    subst he
    go_wp2_with fail
    refine (HL.out _ hr5).mono ?_
    rintro r w' ⟨rfl, rfl⟩
    go_wp2_with fail
    refine (works12_any _).mono ?_
    rintro r w6 ⟨rfl, hb6⟩
    clear cp0 fp0 lp0 cx0 fx0 lx0 cy0 fy0 ly0
    have hg6 := hb6
    have p0_ := hide ((show Box w5 _ _ from p0.out).grow hg6)
    clear p0
    have p0 := p0_
    clear p0_
    have x0_ := hide ((show Box w5 _ _ from x0.out).grow hg6)
    clear x0
    have x0 := x0_
    clear x0_
    have y0_ := hide ((show Box w5 _ _ from y0.out).grow hg6)
    clear y0
    have y0 := y0_
    clear y0_
    have hx := hx.grow hg6
    have hy := hy.grow hg6
    have HG6 := hide (Grow.trans (show Grow w w5 from HG5.out) hg6)
    clear HG5
    have hsz6 : w.heap.size ≤ w6.heap.size := HG6.out.size
    have hq6 : w5.heap.size ≤ w6.heap.size := hg6.size
    have HS6 := hide hg6
    clear hb6 hg6
    obtain ⟨cp0, fp0, lp0⟩ := (show Box w6 _ _ from p0.out).rules
    obtain ⟨cx0, fx0, lx0⟩ := (show Box w6 _ _ from x0.out).rules
    obtain ⟨cy0, fy0, ly0⟩ := (show Box w6 _ _ from y0.out).rules
    go_wp2
    go_ret
    exact ⟨rfl, HG6.out⟩
  · have he' : (e1 != 0) = true := by simpa using he
    clear he hr3
    go_wp2_with fail
    refine (works12_any _).mono ?_
    rintro r w6 ⟨rfl, hb6⟩
    clear cp0 fp0 lp0 cx0 fx0 lx0 cy0 fy0 ly0
    have hg6 := hb6
    have p0_ := hide ((show Box w5 _ _ from p0.out).grow hg6)
    clear p0
    have p0 := p0_
    clear p0_
    have x0_ := hide ((show Box w5 _ _ from x0.out).grow hg6)
    clear x0
    have x0 := x0_
    clear x0_
    have y0_ := hide ((show Box w5 _ _ from y0.out).grow hg6)
    clear y0
    have y0 := y0_
    clear y0_
    have hx := hx.grow hg6
    have hy := hy.grow hg6
    have HG6 := hide (Grow.trans (show Grow w w5 from HG5.out) hg6)
    clear HG5
    have hsz6 : w.heap.size ≤ w6.heap.size := HG6.out.size
    have hq6 : w5.heap.size ≤ w6.heap.size := hg6.size
    have HS6 := hide hg6
    clear hb6 hg6
    obtain ⟨cp0, fp0, lp0⟩ := (show Box w6 _ _ from p0.out).rules
    obtain ⟨cx0, fx0, lx0⟩ := (show Box w6 _ _ from x0.out).rules
    obtain ⟨cy0, fy0, ly0⟩ := (show Box w6 _ _ from y0.out).rules
    go_wp2
    go_ret
    exact ⟨rfl, HG6.out⟩
set_option maxRecDepth 100000 in
set_option maxHeartbeats 2000000 in
theorem attendPuts_no (p : Pkt) (A : Option Addr) (l : List UInt8) (c : Nat) (w : World) (hlb : Bytes w A l) (h : attB p l = false) :
    Calls Try.prog 26 #[pv p A l.length c] w fun e w' => e = .returned (.bool true) ∧ Grow w w' := by
  have HD := hide (fun W h => attgood_any p A l c W h)
  have HR := hide (fun W h => refattgood_any p A l c W h)
  rw [h] at HD HR
  clear h
  go_enter Try.func26, Try.ntmps26
  go_wp2_with fail
  refine (HR.out _ (hlb.alloc _)).mono ?_
  rintro r w1 ⟨rfl, hb1⟩
  obtain ⟨p0, hg1⟩ := peel1 hb1
  have p0_ := hide p0
  clear p0
  have p0 := p0_
  clear p0_
  have hlb := hlb.grow hg1
  have HG1 := hide (show Grow w w1 from hg1)
  have hsz1 : w.heap.size ≤ w1.heap.size := HG1.out.size
  have hq1 : w.heap.size ≤ w1.heap.size := hg1.size
  have HS1 := hide hg1
  clear hb1 hg1
  obtain ⟨cp0, fp0, lp0⟩ := (show Box w1 _ _ from p0.out).rules
  go_wp2_with fail
  refine (HD.out _ hlb).mono ?_
  rintro r w2 ⟨rfl, hb2⟩
  clear cp0 fp0 lp0
  have hg2 := hb2
  have p0_ := hide ((show Box w1 _ _ from p0.out).grow hg2)
  clear p0
  have p0 := p0_
  clear p0_
  have hlb := hlb.grow hg2
  have HG2 := hide (Grow.trans (show Grow w w1 from HG1.out) hg2)
  clear HG1
  have hsz2 : w.heap.size ≤ w2.heap.size := HG2.out.size
  have hq2 : w1.heap.size ≤ w2.heap.size := hg2.size
  have HS2 := hide hg2
  clear hb2 hg2
  obtain ⟨cp0, fp0, lp0⟩ := (show Box w2 _ _ from p0.out).rules
  go_wp2_with fail
  refine (works12_any _).mono ?_
  rintro r w3 ⟨rfl, hb3⟩
  clear cp0 fp0 lp0
  have hg3 := hb3
  have p0_ := hide ((show Box w2 _ _ from p0.out).grow hg3)
  clear p0
  have p0 := p0_
  clear p0_
  have hlb := hlb.grow hg3
  have HG3 := hide (Grow.trans (show Grow w w2 from HG2.out) hg3)
  clear HG2
  have hsz3 : w.heap.size ≤ w3.heap.size := HG3.out.size
  have hq3 : w2.heap.size ≤ w3.heap.size := hg3.size
  have HS3 := hide hg3
  clear hb3 hg3
  obtain ⟨cp0, fp0, lp0⟩ := (show Box w3 _ _ from p0.out).rules
  go_wp2
  go_ret
  exact ⟨rfl, HG3.out⟩
set_option maxRecDepth 100000 in
set_option maxHeartbeats 2000000 in
theorem attendPuts_yes (p : Pkt) (A : Option Addr) (l : List UInt8) (c : Nat) (w : World) (ok : p.Ok) (hlb : Bytes w A l) (h : attB p l = true) :
    Calls Try.prog 26 #[pv p A l.length c] w fun e w' => e = .returned (.bool true) ∧ Grow w w' := by
  have HD := hide (fun W h => attgood_any p A l c W h)
  have HR := hide (fun W h => refattgood_any p A l c W h)
  rw [h] at HD HR
  have hl0 := hlb
  obtain ⟨hbk, hsm, hle⟩ := att_back p l h []
  rw [List.append_nil] at hbk
  have hback := hide hbk
  have hsame := hide (show (sameB p (attP p.t p.frm p.seq p.hops p.no) && l == []) = true by rw [hsm, hle]; rfl)
  clear hbk hsm hle
  have hPut := hide (fun (g : Nat) (W : World) (hwr : Wr W g g none 0 0 [] 40) (hq : g ≤ W.heap.size) => attput_any g g none 0 0 [] 40 p A l.length c W hwr (by simp) hq)
  have hS := hide (show Buf.wput 40 (0, []) (Buf.sevens (u64of p.no)) = (0, Buf.sevens (u64of p.no)) from by have := Buf.sevens_len (u64of p.no); exact wput_ok 40 [] _ (by simp; omega))
  rw [hS.out] at hPut
  have hB := hide (fun W => refattbytes_any p A l.length c W)
  have hslen : (Buf.sevens (u64of p.no)).length ≤ 40 := by have := Buf.sevens_len (u64of p.no); omega
  generalize Buf.sevens (u64of p.no) = s at *
  clear h
  go_enter Try.func26, Try.ntmps26
  go_wp2_with fail
  refine (HR.out _ (hlb.alloc _)).mono ?_
  rintro r w1 ⟨rfl, hb1⟩
  obtain ⟨p0, hg1⟩ := peel1 hb1
  have p0_ := hide p0
  clear p0
  have p0 := p0_
  clear p0_
  have hlb := hlb.grow hg1
  have HG1 := hide (show Grow w w1 from hg1)
  have hsz1 : w.heap.size ≤ w1.heap.size := HG1.out.size
  have hq1 : w.heap.size ≤ w1.heap.size := hg1.size
  have HS1 := hide hg1
  clear hb1 hg1
  obtain ⟨cp0, fp0, lp0⟩ := (show Box w1 _ _ from p0.out).rules
  go_wp2_with fail
  have hp1 := lp0
  refine (new_at 40 w1.heap.size _ (by decide) (by decide) rfl).mono ?_
  rintro r w2 ⟨rfl, hwr, hb2⟩
  clear cp0 fp0 lp0
  have hg2 := hb2
  have p0_ := hide ((show Box w1 _ _ from p0.out).grow hg2)
  clear p0
  have p0 := p0_
  clear p0_
  have hlb := hlb.grow hg2
  have HG2 := hide (Grow.trans (show Grow w w1 from HG1.out) hg2)
  clear HG1
  have hsz2 : w.heap.size ≤ w2.heap.size := HG2.out.size
  have hq2 : w1.heap.size ≤ w2.heap.size := hg2.size
  have HS2 := hide hg2
  clear hb2 hg2
  obtain ⟨cp0, fp0, lp0⟩ := (show Box w2 _ _ from p0.out).rules
  go_wp2_with fail
  refine (hPut.out _ _ hwr hq2).mono ?_
  rintro r w3 ⟨rfl, A3, c3, hwr3, hb3, _⟩
  simp only [foot, blk, Option.map_none, Option.toList_none] at hb3
  clear cp0 fp0 lp0
  have hg3 := hb3
  have p0_ := hide ((show Box w2 _ _ from p0.out).kept hg3 (by simp; try omega))
  clear p0
  have p0 := p0_
  clear p0_
  have HG3 := hide (Kept.fresh1 hg3 (show Grow w w2 from HG2.out) (by omega))
  clear HG2
  have hsz3 : w.heap.size ≤ w3.heap.size := HG3.out.size
  have hq3 : w2.heap.size ≤ w3.heap.size := hg3.size
  have HS3 := hide hg3
  clear hb3 hg3
  obtain ⟨cp0, fp0, lp0⟩ := (show Box w3 _ _ from p0.out).rules
  go_wp2_with fail
  refine (done_ok _ _ A3 c3 _ 40 _ hwr3 (by show s.length ≤ _; omega)).mono ?_
  rintro r w4 ⟨A4, c4, rfl, hown4, hb4⟩
  have hs4 := hown4.bytes
  have hc4 := hown4.le
  clear hwr hwr3 hown4
  clear cp0 fp0 lp0
  have hg4 := hb4
  have p0_ := hide ((show Box w3 _ _ from p0.out).grow hg4)
  clear p0
  have p0 := p0_
  clear p0_
  have HG4 := hide (Grow.trans (show Grow w w3 from HG3.out) hg4)
  clear HG3
  have hsz4 : w.heap.size ≤ w4.heap.size := HG4.out.size
  have hq4 : w3.heap.size ≤ w4.heap.size := hg4.size
  have HS4 := hide hg4
  clear hb4 hg4
  obtain ⟨cp0, fp0, lp0⟩ := (show Box w4 _ _ from p0.out).rules
  go_wp2_with fail
  have Rp0 := fun (W : World) (h : Grow w4.drew W) => ((show Box w4 _ _ from p0.out).grow (Grow.of_drew h)).cell
  have Fp0 := fun (W : World) (h : Grow w4.drew W) => ((show Box w4 _ _ from p0.out).grow (Grow.of_drew h)).fz
  have Vhs4 := fun (W : World) (h : Grow w4.drew W) => conv_any c4 (hs4.grow (Grow.of_drew h))
  refine wpR_region (Grow) [] (by kernel_rfl) ?_
  refine wpR_take grow_rf grow_tr 0 rfl (by kernel_rfl) (fun _ _ _ h => h) rfl (v := ?_) ?_ ?_
  rotate_left
  · (intro w' hG; go_simp; try with_reducible rfl)
  try simp only [Act.put, List.setIfInBounds_toArray, List.set_cons_zero, List.set_cons_succ]
  refine wpR_take grow_rf grow_tr 1 rfl (by kernel_rfl) (fun _ _ _ h => h) rfl (v := ?_) ?_ ?_
  rotate_left
  · (intro w' hG; go_simp; try with_reducible rfl)
  try simp only [Act.put, List.setIfInBounds_toArray, List.set_cons_zero, List.set_cons_succ]
  refine wpR_take grow_rf grow_tr 2 rfl (by kernel_rfl) (fun _ _ _ h => h) rfl (v := ?_) ?_ ?_
  rotate_left
  · (intro w' hG; go_simp; try with_reducible rfl)
  try simp only [Act.put, List.setIfInBounds_toArray, List.set_cons_zero, List.set_cons_succ]
  refine wpR_call 3 rfl (by kernel_rfl) rfl fun K hK => ?_
  go_simp
  refine (hB.out _).mono ?_
  rintro r w5 ⟨A5, c5, rfl, hown5, hb5⟩
  have hs5 := hown5.bytes
  clear hown5
  refine hK.out _ _ (.inr (hb5)) ?_
  clear hK
  try simp only [Act.put, List.setIfInBounds_toArray, List.set_cons_zero, List.set_cons_succ]
  clear Rp0 Fp0
  clear Vhs4
  have hb5 := Grow.of_drew hb5
  clear cp0 fp0 lp0
  have hg5 := hb5
  have p0_ := hide ((show Box w4 _ _ from p0.out).grow hg5)
  clear p0
  have p0 := p0_
  clear p0_
  have hs4 := hs4.grow hg5
  have HG5 := hide (Grow.trans (show Grow w w4 from HG4.out) hg5)
  clear HG4
  have hsz5 : w.heap.size ≤ w5.heap.size := HG5.out.size
  have hq5 : w4.heap.size ≤ w5.heap.size := hg5.size
  have HS5 := hide hg5
  clear hb5 hg5
  obtain ⟨cp0, fp0, lp0⟩ := (show Box w5 _ _ from p0.out).rules
  have Rp0 := fun (W : World) (h : Grow w5 W) => ((show Box w5 _ _ from p0.out).grow h).cell
  have Fp0 := fun (W : World) (h : Grow w5 W) => ((show Box w5 _ _ from p0.out).grow h).fz
  have Vhs4 := fun (W : World) (h : Grow w5 W) => conv_any c4 (hs4.grow h)
  have Vhs5 := fun (W : World) (h : Grow w5 W) => conv_any c5 (hs5.grow h)
  refine wpR_take grow_rf grow_tr 4 rfl (by kernel_rfl) (fun _ _ _ h => h) rfl (v := ?_) ?_ ?_
  rotate_left
  · (intro w' hG; go_simp; try with_reducible rfl)
  try simp only [Act.put, List.setIfInBounds_toArray, List.set_cons_zero, List.set_cons_succ]
  refine wpR_take grow_rf grow_tr 5 rfl (by kernel_rfl) (fun _ _ _ h => h) rfl (v := ?_) ?_ ?_
  rotate_left
  · (intro w' hG; go_simp; try with_reducible rfl)
  try simp only [Act.put, List.setIfInBounds_toArray, List.set_cons_zero, List.set_cons_succ]
  refine wpR_take grow_rf grow_tr 6 rfl (by kernel_rfl) (fun _ _ _ h => h) rfl (v := ?_) ?_ ?_
  rotate_left
  · (intro w' hG; go_simp; try with_reducible rfl)
  try simp only [Act.put, List.setIfInBounds_toArray, List.set_cons_zero, List.set_cons_succ]
  refine wpR_take grow_rf grow_tr 7 rfl (by kernel_rfl) (fun _ _ _ h => h) rfl (v := ?_) ?_ ?_
  rotate_left
  · (intro w' hG; go_simp; try with_reducible rfl)
  try simp only [Act.put, List.setIfInBounds_toArray, List.set_cons_zero, List.set_cons_succ]
  refine wpR_take grow_rf grow_tr 8 rfl (by kernel_rfl) (fun _ _ _ h => h) rfl (v := ?_) ?_ ?_
  rotate_left
  · (intro w' hG; go_simp; try with_reducible rfl)
  try simp only [Act.put, List.setIfInBounds_toArray, List.set_cons_zero, List.set_cons_succ]
  refine wpR_take grow_rf grow_tr 9 rfl (by kernel_rfl) (fun _ _ _ h => h) rfl (v := ?_) ?_ ?_
  rotate_left
  · (intro w' hG; go_simp; try with_reducible rfl)
  try simp only [Act.put, List.setIfInBounds_toArray, List.set_cons_zero, List.set_cons_succ]
  refine wpR_done (by kernel_rfl) ?_ _
  clear Rp0 Fp0
  clear Vhs4 Vhs5
  go_wp2_with fail
  refine (read_any A4 s c4 _ hs4 (by omega)).mono ?_
  rintro r w6 ⟨N, pr, rfl, hr, hpr, hb6⟩
  have hp5 := lp0
  clear cp0 fp0 lp0
  have hg6 := hb6
  have p0_ := hide ((show Box w5 _ _ from p0.out).grow hg6)
  clear p0
  have p0 := p0_
  clear p0_
  have hs4 := hs4.grow hg6
  have HG6 := hide (Grow.trans (show Grow w w5 from HG5.out) hg6)
  clear HG5
  have hsz6 : w.heap.size ≤ w6.heap.size := HG6.out.size
  have hq6 : w5.heap.size ≤ w6.heap.size := hg6.size
  have HS6 := hide hg6
  clear hb6 hg6
  obtain ⟨cp0, fp0, lp0⟩ := (show Box w6 _ _ from p0.out).rules
  have hG := hide (fun W h => attget_any N pr s (attP p.t p.frm p.seq p.hops 0) none [] 0 W h (Bytes.nil _ _) (fun e => absurd rfl e) (by simp) (by decide))
  rw [hback.out] at hG
  dsimp only at hG
  rw [show bodyOf 0 ([] : List UInt8) = [] from rfl] at hG
  go_wp2_with fail
  refine (hG.out _ hr).mono ?_
  rintro r w7 ⟨⟨A7, c7, rfl, hc7, hcm7, hx⟩, hr7, hb7⟩
  have hrd7 := hr7 (by simp)
  clear hr7
  clear cp0 fp0 lp0
  have hg7 := hb7
  have p0_ := hide ((show Box w6 _ _ from p0.out).kept hg7 (by simp; try omega))
  clear p0
  have p0 := p0_
  clear p0_
  have HG7 := hide (Kept.fresh1 hg7 (show Grow w w6 from HG6.out) (by omega))
  clear HG6
  have hsz7 : w.heap.size ≤ w7.heap.size := HG7.out.size
  have hq7 : w6.heap.size ≤ w7.heap.size := hg7.size
  have HS7 := hide hg7
  clear hb7 hg7
  obtain ⟨cp0, fp0, lp0⟩ := (show Box w7 _ _ from p0.out).rules
  have hlb := hl0.grow (show Grow w w7 from HG7.out)
  have HE := hide (end_any N pr ([], 0))
  rw [show rend ([], 0) = 0 from rfl] at HE
  have HS := hide (fun W h1 h2 => refsame_any p (attP p.t p.frm p.seq p.hops p.no) A A7 l [] c c7 W h1 h2)
  rw [hsame.out] at HS
  go_wp2_with fail
  refine (HE.out _ (hrd7.grow ((Grow.refl w7).alloc _))).mono ?_
  rintro r w' ⟨rfl, rfl⟩
  go_wp2_with fail
  refine (HS.out _ (hlb.alloc _) (hx.alloc _)).mono ?_
  rintro r w8 ⟨rfl, hb8⟩
  clear cp0 fp0 lp0
  obtain ⟨x0, hg8⟩ := peel1 hb8
  have p0_ := hide ((show Box w7 _ _ from p0.out).grow hg8)
  clear p0
  have p0 := p0_
  clear p0_
  have x0_ := hide x0
  clear x0
  have x0 := x0_
  clear x0_
  have hlb := hlb.grow hg8
  have hx := hx.grow hg8
  have HG8 := hide (Grow.trans (show Grow w w7 from HG7.out) hg8)
  clear HG7
  have hsz8 : w.heap.size ≤ w8.heap.size := HG8.out.size
  have hq8 : w7.heap.size ≤ w8.heap.size := hg8.size
  have HS8 := hide hg8
  clear hb8 hg8
  obtain ⟨cp0, fp0, lp0⟩ := (show Box w8 _ _ from p0.out).rules
  obtain ⟨cx0, fx0, lx0⟩ := (show Box w8 _ _ from x0.out).rules
  go_wp2_with fail
  refine (works12_any _).mono ?_
  rintro r w9 ⟨rfl, hb9⟩
  clear cp0 fp0 lp0 cx0 fx0 lx0
  have hg9 := hb9
  have p0_ := hide ((show Box w8 _ _ from p0.out).grow hg9)
  clear p0
  have p0 := p0_
  clear p0_
  have x0_ := hide ((show Box w8 _ _ from x0.out).grow hg9)
  clear x0
  have x0 := x0_
  clear x0_
  have hlb := hlb.grow hg9
  have hx := hx.grow hg9
  have HG9 := hide (Grow.trans (show Grow w w8 from HG8.out) hg9)
  clear HG8
  have hsz9 : w.heap.size ≤ w9.heap.size := HG9.out.size
  have hq9 : w8.heap.size ≤ w9.heap.size := hg9.size
  have HS9 := hide hg9
  clear hb9 hg9
  obtain ⟨cp0, fp0, lp0⟩ := (show Box w9 _ _ from p0.out).rules
  obtain ⟨cx0, fx0, lx0⟩ := (show Box w9 _ _ from x0.out).rules
  go_wp2
  go_ret
  exact ⟨rfl, HG9.out⟩
theorem attendPuts_any (p : Pkt) (A : Option Addr) (l : List UInt8) (c : Nat) (w : World) (ok : p.Ok) (hlb : Bytes w A l) :
    Calls Try.prog 26 #[pv p A l.length c] w fun e w' => e = .returned (.bool true) ∧ Grow w w' := by
  cases h : attB p l with
  | false => exact attendPuts_no p A l c w hlb h
  | true => exact attendPuts_yes p A l c w ok hlb h
end Go.Proofs.Ytldgnallbkpchaa
