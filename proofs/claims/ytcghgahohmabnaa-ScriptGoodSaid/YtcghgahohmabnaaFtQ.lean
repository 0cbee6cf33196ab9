/- The walk of the statement FatePuts. -/
import Derived.Test.YtcghgahohmabnaaFtB
import Derived.Test.YtcghgahohmabnaaFrmF
namespace Go.Proofs.Ytcghgahohmabnaa
open Go.RowKit
theorem fu8of_val (x : Int) (h0 : 0 ≤ x) (h1 : x < 256) : ((u8of x).toNat : Int) = x := by
  unfold u8of
  rw [IntKind.wrap_u8, UInt8.toNat_ofNat']
  omega
theorem frbyte_cons (a : UInt8) (l : List UInt8) : rbyte (a :: l, 0) = (a.toNat, l, 0) := by
  show Buf.getFixed (a :: l) 1 = _
  unfold Buf.getFixed
  rw [if_neg (by omega), if_neg (by simp)]
  simp [Buf.num]
theorem fate_eq (f g : Fate) (h1 : f.kind = g.kind) (h2 : f.delay = g.delay) (h3 : f.again = g.again) (h4 : f.pos = g.pos) (h5 : f.bits = g.bits) : f = g := by
  obtain ⟨a, b, c, d, e⟩ := f
  obtain ⟨a', b', c', d', e'⟩ := g
  simp at h1 h2 h3 h4 h5
  simp [h1, h2, h3, h4, h5]
theorem fu64of_val (x : Int) (h0 : 0 ≤ x) (h1 : x < 18446744073709551616) : ((u64of x : Nat) : Int) = x := by rw [← u64_of, IntKind.wrap_u64]; omega
/-- what was written is read -/
theorem fate_back (f : Fate) (h : fateB f = true) (hp : 0 ≤ f.pos) (hp2 : f.pos < 4294967296) (hb : 0 ≤ f.bits) (hb2 : f.bits < 4294967296) : fg (fateBytes f) = (f, [], 0) := by
  have hr := fateB_range f h
  have hk := fu8of_val f.kind (by omega) (by omega)
  rcases hr with k | k | k | k
  · have h0 := h
    rw [fateB_0 f k] at h0
    simp [withinB] at h0
    obtain ⟨⟨⟨⟨d1, d2⟩, a0⟩, p0⟩, b0⟩ := h0
    have hd := fu8of_val f.delay (by omega) (by omega)
    rw [fateBytes_0 f h k]
    have hk0 : (u8of f.kind).toNat = 0 := by omega
    have e1 : rbyte ([u8of f.kind] ++ [u8of f.delay], 0) = (0, [u8of f.delay], 0) := by
      have := frbyte_cons (u8of f.kind) [u8of f.delay]
      rw [hk0] at this
      exact this
    have e2 : rbyte ([u8of f.delay], 0) = ((u8of f.delay).toNat, [], 0) := frbyte_cons _ _
    rw [fg_0 e1 e2, if_neg (by simp), hd]
    have ef : ({ kind := 0, delay := f.delay, again := 0, pos := 0, bits := 0 } : Fate) = f := fate_eq _ _ k.symm rfl a0.symm p0.symm b0.symm
    rw [ef, h, if_neg (by decide)]
  · have h0 := h
    rw [fateB_1 f k] at h0
    simp at h0
    obtain ⟨⟨⟨d0, a0⟩, p0⟩, b0⟩ := h0
    rw [fateBytes_1 f h k]
    have hk0 : (u8of f.kind).toNat = 1 := by omega
    have e1 : rbyte ([u8of f.kind], 0) = (1, [], 0) := by
      have := frbyte_cons (u8of f.kind) []
      rw [hk0] at this
      exact this
    rw [fg_1 e1]
    have ef : ({ kind := 1, delay := 0, again := 0, pos := 0, bits := 0 } : Fate) = f := fate_eq _ _ k.symm d0.symm a0.symm p0.symm b0.symm
    rw [ef]
  · have h0 := h
    rw [fateB_2 f k] at h0
    simp [withinB] at h0
    obtain ⟨⟨⟨⟨a1, a2⟩, d1, d2⟩, p0⟩, b0⟩ := h0
    have hd := fu8of_val f.delay (by omega) (by omega)
    have ha := fu8of_val f.again (by omega) (by omega)
    rw [fateBytes_2 f h k]
    have hk0 : (u8of f.kind).toNat = 2 := by omega
    have e1 : rbyte ([u8of f.kind] ++ [u8of f.delay] ++ [u8of f.again], 0) = (2, [u8of f.delay, u8of f.again], 0) := by
      have := frbyte_cons (u8of f.kind) [u8of f.delay, u8of f.again]
      rw [hk0] at this
      exact this
    have e2 : rbyte ([u8of f.delay, u8of f.again], 0) = ((u8of f.delay).toNat, [u8of f.again], 0) := frbyte_cons _ _
    have e3 : rbyte ([u8of f.again], 0) = ((u8of f.again).toNat, [], 0) := frbyte_cons _ _
    rw [fg_2 e1 e2 e3, if_neg (by simp), hd, ha]
    have ef : ({ kind := 2, delay := f.delay, again := f.again, pos := 0, bits := 0 } : Fate) = f := fate_eq _ _ k.symm rfl rfl p0.symm b0.symm
    rw [ef, h, if_neg (by decide)]
  · have h0 := h
    rw [fateB_3 f k] at h0
    simp [withinB] at h0
    obtain ⟨⟨d1, d2⟩, a0⟩ := h0
    have hd := fu8of_val f.delay (by omega) (by omega)
    rw [fateBytes_3 f h k]
    have hk0 : (u8of f.kind).toNat = 3 := by omega
    have e1 : rbyte ([u8of f.kind] ++ [u8of f.delay] ++ Buf.fixed (u64of f.pos) 4 ++ Buf.fixed (u64of f.bits) 4, 0) = (3, u8of f.delay :: (Buf.fixed (u64of f.pos) 4 ++ Buf.fixed (u64of f.bits) 4), 0) := by
      have := frbyte_cons (u8of f.kind) (u8of f.delay :: (Buf.fixed (u64of f.pos) 4 ++ Buf.fixed (u64of f.bits) 4))
      rw [hk0] at this
      rw [← this]
      simp
    have e2 : rbyte (u8of f.delay :: (Buf.fixed (u64of f.pos) 4 ++ Buf.fixed (u64of f.bits) 4), 0) = ((u8of f.delay).toNat, Buf.fixed (u64of f.pos) 4 ++ Buf.fixed (u64of f.bits) 4, 0) := frbyte_cons _ _
    have hx := Buf.fixed_get_back (u64of f.pos) 4 (Buf.fixed (u64of f.bits) 4) (by decide) (by decide)
    have hy := Buf.fixed_get_back (u64of f.bits) 4 [] (by decide) (by decide)
    have vp := fu64of_val f.pos hp (by omega)
    have vb := fu64of_val f.bits hb (by omega)
    rw [Nat.mod_eq_of_lt (by omega)] at hx hy
    rw [List.append_nil] at hy
    have e3 : rfix 4 (Buf.fixed (u64of f.pos) 4 ++ Buf.fixed (u64of f.bits) 4, 0) = (u64of f.pos, Buf.fixed (u64of f.bits) 4, 0) := hx
    have e4 : rfix 4 (Buf.fixed (u64of f.bits) 4, 0) = (u64of f.bits, [], 0) := hy
    rw [fg_3 e1 e2 e3 e4, if_neg (by simp), hd, vp, vb]
    have ef : ({ kind := 3, delay := f.delay, again := 0, pos := f.pos, bits := f.bits } : Fate) = f := fate_eq _ _ k.symm rfl a0.symm rfl rfl
    rw [ef, h, if_neg (by decide)]
theorem fateBytes_len (f : Fate) : (fateBytes f).length ≤ 20 := by
  unfold fateBytes
  split
  · simp
  split
  · simp
  split
  · simp
  split
  · rw [List.length_append, List.length_append, Buf.fixed_length, Buf.fixed_length]; simp
  · simp
theorem fnew_at (most : Int) (g : Nat) (w : World) (h : most ≤ 9223372036854775807) (h0 : 0 ≤ most) (hg : w.heap.size = g) :
    Calls Try.prog 61 #[.int .i64 most] w fun r w' => r = .returned (.pointer (some ⟨g, 0, none⟩)) ∧ Wr w' g g none 0 0 [] most ∧ Grow w w' := by
  subst hg
  have h1 := new_any most w h
  rw [show max most 0 = most by omega] at h1
  exact h1
set_option maxRecDepth 100000 in
set_option maxHeartbeats 2000000 in
theorem fatePuts_no (f : Fate) (w : World) (hg : fateB f = false) :
    Calls Try.prog 16 #[fv f] w fun e w' => e = .returned (.bool true) ∧ Grow w w' := by
  have HR := hide (fun W => reffgood_any f W)
  rw [hg] at HR
  have hPut := hide (fun (g : Nat) (W : World) (hwr : Wr W g g none 0 0 [] 20) (hq : g ≤ W.heap.size) => fput_any g g none 0 0 [] 20 f W hwr (by simp) hq)
  rw [fateS_ok f] at hPut
  have hB := hide (fun W => reffb_any f W)
  have hslen := fateBytes_len f
  have hG0 := hide (fun N pr W h => fget_any N pr (fateBytes f) W h)
  generalize fateBytes f = s at *
  clear hg
  go_enter Try.func16, Try.ntmps16
  go_wp2_with fail
  generalize hW1 : World.alloc w _ = w1
  have hb1 := Grow.of_eq hW1
  clear hW1
  obtain ⟨p0, hg1⟩ := peel1 hb1
  have p0_ := hide p0
  clear p0
  have p0 := p0_
  clear p0_
  have HG1 := hide (show Grow w w1 from hg1)
  have hsz1 : w.heap.size ≤ w1.heap.size := HG1.out.size
  have hq1 : w.heap.size ≤ w1.heap.size := hg1.size
  have HS1 := hide hg1
  clear hb1 hg1
  obtain ⟨cp0, fp0, lp0⟩ := (show Box w1 _ _ from p0.out).rules
  have hp1 := lp0
  refine (fnew_at 20 w1.heap.size _ (by decide) (by decide) rfl).mono ?_
  rintro r w2 ⟨rfl, hwr, hb2⟩
  clear cp0 fp0 lp0
  have hg2 := hb2
  have p0_ := hide ((show Box w1 _ _ from p0.out).grow hg2)
  clear p0
  have p0 := p0_
  clear p0_
  have HG2 := hide (Grow.trans (show Grow w w1 from HG1.out) hg2)
  clear HG1
  have hsz2 : w.heap.size ≤ w2.heap.size := HG2.out.size
  have hq2 : w1.heap.size ≤ w2.heap.size := hg2.size
  have HS2 := hide hg2
  clear hb2 hg2
  obtain ⟨cp0, fp0, lp0⟩ := (show Box w2 _ _ from p0.out).rules
  go_wp2_with fail
  refine (hPut.out _ _ hwr HS2.out.size).mono ?_
  rintro r w3 ⟨rfl, A3, c3, hwr3, hb3, _⟩
  simp only [foot, blk, Option.map_none, Option.toList_none] at hb3
  clear cp0 fp0 lp0
  have hg3 := hb3
  have p0_ := hide ((show Box w2 _ _ from p0.out).kept hg3 (by simp; try omega))
  clear p0
  have p0 := p0_
  clear p0_
  have HG3 := hide (Kept.fresh1 hg3 (show Grow w w2 from HG2.out) (by omega))
  clear HG2
  have hsz3 : w.heap.size ≤ w3.heap.size := HG3.out.size
  have hq3 : w2.heap.size ≤ w3.heap.size := hg3.size
  have HS3 := hide hg3
  clear hb3 hg3
  obtain ⟨cp0, fp0, lp0⟩ := (show Box w3 _ _ from p0.out).rules
  go_wp2_with fail
  refine (done_ok _ _ A3 c3 _ 20 _ hwr3 (by show s.length ≤ _; omega)).mono ?_
  rintro r w4 ⟨A4, c4, rfl, hown4, hb4⟩
  have hs4 := hown4.bytes
  have hc4 := hown4.le
  clear hwr hwr3 hown4
  clear cp0 fp0 lp0
  have hg4 := hb4
  have p0_ := hide ((show Box w3 _ _ from p0.out).grow hg4)
  clear p0
  have p0 := p0_
  clear p0_
  have HG4 := hide (Grow.trans (show Grow w w3 from HG3.out) hg4)
  clear HG3
  have hsz4 : w.heap.size ≤ w4.heap.size := HG4.out.size
  have hq4 : w3.heap.size ≤ w4.heap.size := hg4.size
  have HS4 := hide hg4
  clear hb4 hg4
  obtain ⟨cp0, fp0, lp0⟩ := (show Box w4 _ _ from p0.out).rules
  go_wp2_with fail
  have Rp0 := fun (W : World) (h : Grow w4.drew W) => ((show Box w4 _ _ from p0.out).grow (Grow.of_drew h)).cell
  have Fp0 := fun (W : World) (h : Grow w4.drew W) => ((show Box w4 _ _ from p0.out).grow (Grow.of_drew h)).fz
  have Vhs4 := fun (W : World) (h : Grow w4.drew W) => conv_any c4 (hs4.grow (Grow.of_drew h))
  refine wpR_region (Grow) [] (by kernel_rfl) ?_
  refine wpR_take grow_rf grow_tr 0 rfl (by kernel_rfl) (fun _ _ _ h => h) rfl (v := ?_) ?_ ?_
  rotate_left
  · (intro w' hG; go_simp; try with_reducible rfl)
  try simp only [Act.put, List.setIfInBounds_toArray, List.set_cons_zero, List.set_cons_succ]
  refine wpR_take grow_rf grow_tr 1 rfl (by kernel_rfl) (fun _ _ _ h => h) rfl (v := ?_) ?_ ?_
  rotate_left
  · (intro w' hG; go_simp; try with_reducible rfl)
  try simp only [Act.put, List.setIfInBounds_toArray, List.set_cons_zero, List.set_cons_succ]
  refine wpR_take grow_rf grow_tr 2 rfl (by kernel_rfl) (fun _ _ _ h => h) rfl (v := ?_) ?_ ?_
  rotate_left
  · (intro w' hG; go_simp; try with_reducible rfl)
  try simp only [Act.put, List.setIfInBounds_toArray, List.set_cons_zero, List.set_cons_succ]
  refine wpR_call 3 rfl (by kernel_rfl) rfl fun K hK => ?_
  go_simp
  refine (hB.out _).mono ?_
  rintro r w5 ⟨A5, c5, rfl, hown5, hb5⟩
  have hs5 := hown5.bytes
  clear hown5
  refine hK.out _ _ (.inr (hb5)) ?_
  clear hK
  try simp only [Act.put, List.setIfInBounds_toArray, List.set_cons_zero, List.set_cons_succ]
  clear Rp0 Fp0
  clear Vhs4
  have hb5 := Grow.of_drew hb5
  clear cp0 fp0 lp0
  have hg5 := hb5
  have p0_ := hide ((show Box w4 _ _ from p0.out).grow hg5)
  clear p0
  have p0 := p0_
  clear p0_
  have hs4 := hs4.grow hg5
  have HG5 := hide (Grow.trans (show Grow w w4 from HG4.out) hg5)
  clear HG4
  have hsz5 : w.heap.size ≤ w5.heap.size := HG5.out.size
  have hq5 : w4.heap.size ≤ w5.heap.size := hg5.size
  have HS5 := hide hg5
  clear hb5 hg5
  obtain ⟨cp0, fp0, lp0⟩ := (show Box w5 _ _ from p0.out).rules
  have Rp0 := fun (W : World) (h : Grow w5 W) => ((show Box w5 _ _ from p0.out).grow h).cell
  have Fp0 := fun (W : World) (h : Grow w5 W) => ((show Box w5 _ _ from p0.out).grow h).fz
  have Vhs4 := fun (W : World) (h : Grow w5 W) => conv_any c4 (hs4.grow h)
  have Vhs5 := fun (W : World) (h : Grow w5 W) => conv_any c5 (hs5.grow h)
  refine wpR_take grow_rf grow_tr 4 rfl (by kernel_rfl) (fun _ _ _ h => h) rfl (v := ?_) ?_ ?_
  rotate_left
  · (intro w' hG; go_simp; try with_reducible rfl)
  try simp only [Act.put, List.setIfInBounds_toArray, List.set_cons_zero, List.set_cons_succ]
  refine wpR_take grow_rf grow_tr 5 rfl (by kernel_rfl) (fun _ _ _ h => h) rfl (v := ?_) ?_ ?_
  rotate_left
  · (intro w' hG; go_simp; try with_reducible rfl)
  try simp only [Act.put, List.setIfInBounds_toArray, List.set_cons_zero, List.set_cons_succ]
  refine wpR_take grow_rf grow_tr 6 rfl (by kernel_rfl) (fun _ _ _ h => h) rfl (v := ?_) ?_ ?_
  rotate_left
  · (intro w' hG; go_simp; try with_reducible rfl)
  try simp only [Act.put, List.setIfInBounds_toArray, List.set_cons_zero, List.set_cons_succ]
  refine wpR_take grow_rf grow_tr 7 rfl (by kernel_rfl) (fun _ _ _ h => h) rfl (v := ?_) ?_ ?_
  rotate_left
  · (intro w' hG; go_simp; try with_reducible rfl)
  try simp only [Act.put, List.setIfInBounds_toArray, List.set_cons_zero, List.set_cons_succ]
  refine wpR_take grow_rf grow_tr 8 rfl (by kernel_rfl) (fun _ _ _ h => h) rfl (v := ?_) ?_ ?_
  rotate_left
  · (intro w' hG; go_simp; try with_reducible rfl)
  try simp only [Act.put, List.setIfInBounds_toArray, List.set_cons_zero, List.set_cons_succ]
  refine wpR_take grow_rf grow_tr 9 rfl (by kernel_rfl) (fun _ _ _ h => h) rfl (v := ?_) ?_ ?_
  rotate_left
  · (intro w' hG; go_simp; try with_reducible rfl)
  try simp only [Act.put, List.setIfInBounds_toArray, List.set_cons_zero, List.set_cons_succ]
  refine wpR_done (by kernel_rfl) ?_ _
  clear Rp0 Fp0
  clear Vhs4 Vhs5
  go_wp2_with fail
  refine (read_any A4 s c4 _ hs4 (by omega)).mono ?_
  rintro r w6 ⟨N, pr, rfl, hr, hpr, hb6⟩
  have hp5 := lp0
  clear cp0 fp0 lp0
  have hg6 := hb6
  have p0_ := hide ((show Box w5 _ _ from p0.out).grow hg6)
  clear p0
  have p0 := p0_
  clear p0_
  have hs4 := hs4.grow hg6
  have HG6 := hide (Grow.trans (show Grow w w5 from HG5.out) hg6)
  clear HG5
  have hsz6 : w.heap.size ≤ w6.heap.size := HG6.out.size
  have hq6 : w5.heap.size ≤ w6.heap.size := hg6.size
  have HS6 := hide hg6
  clear hb6 hg6
  obtain ⟨cp0, fp0, lp0⟩ := (show Box w6 _ _ from p0.out).rules
  have hG1 := hide (fun W h => hG0.out N pr W h)
  clear hG0
  generalize fg s = T at *
  obtain ⟨q, rest, e1⟩ := T
  dsimp only at *
  go_wp2_with fail
  refine (hG1.out _ hr).mono ?_
  rintro r w7 ⟨rfl, _, hb7⟩
  clear cp0 fp0 lp0
  have hg7 := hb7
  have p0_ := hide ((show Box w6 _ _ from p0.out).kept hg7 (by simp; try omega))
  clear p0
  have p0 := p0_
  clear p0_
  have HG7 := hide (Kept.fresh1 hg7 (show Grow w w6 from HG6.out) (by omega))
  clear HG6
  have hsz7 : w.heap.size ≤ w7.heap.size := HG7.out.size
  have hq7 : w6.heap.size ≤ w7.heap.size := hg7.size
  have HS7 := hide hg7
  clear hb7 hg7
  obtain ⟨cp0, fp0, lp0⟩ := (show Box w7 _ _ from p0.out).rules
  go_wp2_with fail
  refine (HR.out _).mono ?_
  rintro r w8 ⟨rfl, hb8⟩
  clear cp0 fp0 lp0
  obtain ⟨x0, hg8⟩ := peel1 hb8
  have p0_ := hide ((show Box w7 _ _ from p0.out).grow hg8)
  clear p0
  have p0 := p0_
  clear p0_
  have x0_ := hide x0
  clear x0
  have x0 := x0_
  clear x0_
  have HG8 := hide (Grow.trans (show Grow w w7 from HG7.out) hg8)
  clear HG7
  have hsz8 : w.heap.size ≤ w8.heap.size := HG8.out.size
  have hq8 : w7.heap.size ≤ w8.heap.size := hg8.size
  have HS8 := hide hg8
  clear hb8 hg8
  obtain ⟨cp0, fp0, lp0⟩ := (show Box w8 _ _ from p0.out).rules
  obtain ⟨cx0, fx0, lx0⟩ := (show Box w8 _ _ from x0.out).rules
  go_wp2_with fail
  refine (works45_any _).mono ?_
  rintro r w9 ⟨rfl, hb9⟩
  clear cp0 fp0 lp0 cx0 fx0 lx0
  have hg9 := hb9
  have p0_ := hide ((show Box w8 _ _ from p0.out).grow hg9)
  clear p0
  have p0 := p0_
  clear p0_
  have x0_ := hide ((show Box w8 _ _ from x0.out).grow hg9)
  clear x0
  have x0 := x0_
  clear x0_
  have HG9 := hide (Grow.trans (show Grow w w8 from HG8.out) hg9)
  clear HG8
  have hsz9 : w.heap.size ≤ w9.heap.size := HG9.out.size
  have hq9 : w8.heap.size ≤ w9.heap.size := hg9.size
  have HS9 := hide hg9
  clear hb9 hg9
  obtain ⟨cp0, fp0, lp0⟩ := (show Box w9 _ _ from p0.out).rules
  obtain ⟨cx0, fx0, lx0⟩ := (show Box w9 _ _ from x0.out).rules
  go_wp2
  go_ret
  exact ⟨rfl, HG9.out⟩
set_option maxRecDepth 100000 in
set_option maxHeartbeats 2000000 in
theorem fatePuts_yes (f : Fate) (w : World) (hg : fateB f = true) (hp : 0 ≤ f.pos ∧ f.pos < 4294967296) (hb : 0 ≤ f.bits ∧ f.bits < 4294967296) :
    Calls Try.prog 16 #[fv f] w fun e w' => e = .returned (.bool true) ∧ Grow w w' := by
  have HR := hide (fun W => reffgood_any f W)
  rw [hg] at HR
  have hPut := hide (fun (g : Nat) (W : World) (hwr : Wr W g g none 0 0 [] 20) (hq : g ≤ W.heap.size) => fput_any g g none 0 0 [] 20 f W hwr (by simp) hq)
  rw [fateS_ok f] at hPut
  have hB := hide (fun W => reffb_any f W)
  have hslen := fateBytes_len f
  have hback := hide (fate_back f hg hp.1 hp.2 hb.1 hb.2)
  have hG0 := hide (fun N pr W h => fget_any N pr (fateBytes f) W h)
  rw [hback.out] at hG0
  dsimp only at hG0
  generalize fateBytes f = s at *
  clear hg hp hb hback
  go_enter Try.func16, Try.ntmps16
  go_wp2_with fail
  generalize hW1 : World.alloc w _ = w1
  have hb1 := Grow.of_eq hW1
  clear hW1
  obtain ⟨p0, hg1⟩ := peel1 hb1
  have p0_ := hide p0
  clear p0
  have p0 := p0_
  clear p0_
  have HG1 := hide (show Grow w w1 from hg1)
  have hsz1 : w.heap.size ≤ w1.heap.size := HG1.out.size
  have hq1 : w.heap.size ≤ w1.heap.size := hg1.size
  have HS1 := hide hg1
  clear hb1 hg1
  obtain ⟨cp0, fp0, lp0⟩ := (show Box w1 _ _ from p0.out).rules
  have hp1 := lp0
  refine (fnew_at 20 w1.heap.size _ (by decide) (by decide) rfl).mono ?_
  rintro r w2 ⟨rfl, hwr, hb2⟩
  clear cp0 fp0 lp0
  have hg2 := hb2
  have p0_ := hide ((show Box w1 _ _ from p0.out).grow hg2)
  clear p0
  have p0 := p0_
  clear p0_
  have HG2 := hide (Grow.trans (show Grow w w1 from HG1.out) hg2)
  clear HG1
  have hsz2 : w.heap.size ≤ w2.heap.size := HG2.out.size
  have hq2 : w1.heap.size ≤ w2.heap.size := hg2.size
  have HS2 := hide hg2
  clear hb2 hg2
  obtain ⟨cp0, fp0, lp0⟩ := (show Box w2 _ _ from p0.out).rules
  go_wp2_with fail
  refine (hPut.out _ _ hwr HS2.out.size).mono ?_
  rintro r w3 ⟨rfl, A3, c3, hwr3, hb3, _⟩
  simp only [foot, blk, Option.map_none, Option.toList_none] at hb3
  clear cp0 fp0 lp0
  have hg3 := hb3
  have p0_ := hide ((show Box w2 _ _ from p0.out).kept hg3 (by simp; try omega))
  clear p0
  have p0 := p0_
  clear p0_
  have HG3 := hide (Kept.fresh1 hg3 (show Grow w w2 from HG2.out) (by omega))
  clear HG2
  have hsz3 : w.heap.size ≤ w3.heap.size := HG3.out.size
  have hq3 : w2.heap.size ≤ w3.heap.size := hg3.size
  have HS3 := hide hg3
  clear hb3 hg3
  obtain ⟨cp0, fp0, lp0⟩ := (show Box w3 _ _ from p0.out).rules
  go_wp2_with fail
  refine (done_ok _ _ A3 c3 _ 20 _ hwr3 (by show s.length ≤ _; omega)).mono ?_
  rintro r w4 ⟨A4, c4, rfl, hown4, hb4⟩
  have hs4 := hown4.bytes
  have hc4 := hown4.le
  clear hwr hwr3 hown4
  clear cp0 fp0 lp0
  have hg4 := hb4
  have p0_ := hide ((show Box w3 _ _ from p0.out).grow hg4)
  clear p0
  have p0 := p0_
  clear p0_
  have HG4 := hide (Grow.trans (show Grow w w3 from HG3.out) hg4)
  clear HG3
  have hsz4 : w.heap.size ≤ w4.heap.size := HG4.out.size
  have hq4 : w3.heap.size ≤ w4.heap.size := hg4.size
  have HS4 := hide hg4
  clear hb4 hg4
  obtain ⟨cp0, fp0, lp0⟩ := (show Box w4 _ _ from p0.out).rules
  go_wp2_with fail
  have Rp0 := fun (W : World) (h : Grow w4.drew W) => ((show Box w4 _ _ from p0.out).grow (Grow.of_drew h)).cell
  have Fp0 := fun (W : World) (h : Grow w4.drew W) => ((show Box w4 _ _ from p0.out).grow (Grow.of_drew h)).fz
  have Vhs4 := fun (W : World) (h : Grow w4.drew W) => conv_any c4 (hs4.grow (Grow.of_drew h))
  refine wpR_region (Grow) [] (by kernel_rfl) ?_
  refine wpR_take grow_rf grow_tr 0 rfl (by kernel_rfl) (fun _ _ _ h => h) rfl (v := ?_) ?_ ?_
  rotate_left
  · (intro w' hG; go_simp; try with_reducible rfl)
  try simp only [Act.put, List.setIfInBounds_toArray, List.set_cons_zero, List.set_cons_succ]
  refine wpR_take grow_rf grow_tr 1 rfl (by kernel_rfl) (fun _ _ _ h => h) rfl (v := ?_) ?_ ?_
  rotate_left
  · (intro w' hG; go_simp; try with_reducible rfl)
  try simp only [Act.put, List.setIfInBounds_toArray, List.set_cons_zero, List.set_cons_succ]
  refine wpR_take grow_rf grow_tr 2 rfl (by kernel_rfl) (fun _ _ _ h => h) rfl (v := ?_) ?_ ?_
  rotate_left
  · (intro w' hG; go_simp; try with_reducible rfl)
  try simp only [Act.put, List.setIfInBounds_toArray, List.set_cons_zero, List.set_cons_succ]
  refine wpR_call 3 rfl (by kernel_rfl) rfl fun K hK => ?_
  go_simp
  refine (hB.out _).mono ?_
  rintro r w5 ⟨A5, c5, rfl, hown5, hb5⟩
  have hs5 := hown5.bytes
  clear hown5
  refine hK.out _ _ (.inr (hb5)) ?_
  clear hK
  try simp only [Act.put, List.setIfInBounds_toArray, List.set_cons_zero, List.set_cons_succ]
  clear Rp0 Fp0
  clear Vhs4
  have hb5 := Grow.of_drew hb5
  clear cp0 fp0 lp0
  have hg5 := hb5
  have p0_ := hide ((show Box w4 _ _ from p0.out).grow hg5)
  clear p0
  have p0 := p0_
  clear p0_
  have hs4 := hs4.grow hg5
  have HG5 := hide (Grow.trans (show Grow w w4 from HG4.out) hg5)
  clear HG4
  have hsz5 : w.heap.size ≤ w5.heap.size := HG5.out.size
  have hq5 : w4.heap.size ≤ w5.heap.size := hg5.size
  have HS5 := hide hg5
  clear hb5 hg5
  obtain ⟨cp0, fp0, lp0⟩ := (show Box w5 _ _ from p0.out).rules
  have Rp0 := fun (W : World) (h : Grow w5 W) => ((show Box w5 _ _ from p0.out).grow h).cell
  have Fp0 := fun (W : World) (h : Grow w5 W) => ((show Box w5 _ _ from p0.out).grow h).fz
  have Vhs4 := fun (W : World) (h : Grow w5 W) => conv_any c4 (hs4.grow h)
  have Vhs5 := fun (W : World) (h : Grow w5 W) => conv_any c5 (hs5.grow h)
  refine wpR_take grow_rf grow_tr 4 rfl (by kernel_rfl) (fun _ _ _ h => h) rfl (v := ?_) ?_ ?_
  rotate_left
  · (intro w' hG; go_simp; try with_reducible rfl)
  try simp only [Act.put, List.setIfInBounds_toArray, List.set_cons_zero, List.set_cons_succ]
  refine wpR_take grow_rf grow_tr 5 rfl (by kernel_rfl) (fun _ _ _ h => h) rfl (v := ?_) ?_ ?_
  rotate_left
  · (intro w' hG; go_simp; try with_reducible rfl)
  try simp only [Act.put, List.setIfInBounds_toArray, List.set_cons_zero, List.set_cons_succ]
  refine wpR_take grow_rf grow_tr 6 rfl (by kernel_rfl) (fun _ _ _ h => h) rfl (v := ?_) ?_ ?_
  rotate_left
  · (intro w' hG; go_simp; try with_reducible rfl)
  try simp only [Act.put, List.setIfInBounds_toArray, List.set_cons_zero, List.set_cons_succ]
  refine wpR_take grow_rf grow_tr 7 rfl (by kernel_rfl) (fun _ _ _ h => h) rfl (v := ?_) ?_ ?_
  rotate_left
  · (intro w' hG; go_simp; try with_reducible rfl)
  try simp only [Act.put, List.setIfInBounds_toArray, List.set_cons_zero, List.set_cons_succ]
  refine wpR_take grow_rf grow_tr 8 rfl (by kernel_rfl) (fun _ _ _ h => h) rfl (v := ?_) ?_ ?_
  rotate_left
  · (intro w' hG; go_simp; try with_reducible rfl)
  try simp only [Act.put, List.setIfInBounds_toArray, List.set_cons_zero, List.set_cons_succ]
  refine wpR_take grow_rf grow_tr 9 rfl (by kernel_rfl) (fun _ _ _ h => h) rfl (v := ?_) ?_ ?_
  rotate_left
  · (intro w' hG; go_simp; try with_reducible rfl)
  try simp only [Act.put, List.setIfInBounds_toArray, List.set_cons_zero, List.set_cons_succ]
  refine wpR_done (by kernel_rfl) ?_ _
  clear Rp0 Fp0
  clear Vhs4 Vhs5
  go_wp2_with fail
  refine (read_any A4 s c4 _ hs4 (by omega)).mono ?_
  rintro r w6 ⟨N, pr, rfl, hr, hpr, hb6⟩
  have hp5 := lp0
  clear cp0 fp0 lp0
  have hg6 := hb6
  have p0_ := hide ((show Box w5 _ _ from p0.out).grow hg6)
  clear p0
  have p0 := p0_
  clear p0_
  have hs4 := hs4.grow hg6
  have HG6 := hide (Grow.trans (show Grow w w5 from HG5.out) hg6)
  clear HG5
  have hsz6 : w.heap.size ≤ w6.heap.size := HG6.out.size
  have hq6 : w5.heap.size ≤ w6.heap.size := hg6.size
  have HS6 := hide hg6
  clear hb6 hg6
  obtain ⟨cp0, fp0, lp0⟩ := (show Box w6 _ _ from p0.out).rules
  go_wp2_with fail
  refine (hG0.out N pr _ hr).mono ?_
  rintro r w7 ⟨rfl, hr7, hb7⟩
  have hrd7 := hr7 rfl
  clear hr7
  clear cp0 fp0 lp0
  have hg7 := hb7
  have p0_ := hide ((show Box w6 _ _ from p0.out).kept hg7 (by simp; try omega))
  clear p0
  have p0 := p0_
  clear p0_
  have HG7 := hide (Kept.fresh1 hg7 (show Grow w w6 from HG6.out) (by omega))
  clear HG6
  have hsz7 : w.heap.size ≤ w7.heap.size := HG7.out.size
  have hq7 : w6.heap.size ≤ w7.heap.size := hg7.size
  have HS7 := hide hg7
  clear hb7 hg7
  obtain ⟨cp0, fp0, lp0⟩ := (show Box w7 _ _ from p0.out).rules
  go_wp2_with fail
  refine (HR.out _).mono ?_
  rintro r w8 ⟨rfl, hb8⟩
  have hrd8 := hrd7.grow (Grow.trans ((Grow.refl w7).alloc _) hb8)
  have HE := hide (end_any N pr ([], 0))
  rw [show rend ([], 0) = 0 from rfl] at HE
  clear cp0 fp0 lp0
  obtain ⟨x0, hg8⟩ := peel1 hb8
  have p0_ := hide ((show Box w7 _ _ from p0.out).grow hg8)
  clear p0
  have p0 := p0_
  clear p0_
  have x0_ := hide x0
  clear x0
  have x0 := x0_
  clear x0_
  have HG8 := hide (Grow.trans (show Grow w w7 from HG7.out) hg8)
  clear HG7
  have hsz8 : w.heap.size ≤ w8.heap.size := HG8.out.size
  have hq8 : w7.heap.size ≤ w8.heap.size := hg8.size
  have HS8 := hide hg8
  clear hb8 hg8
  obtain ⟨cp0, fp0, lp0⟩ := (show Box w8 _ _ from p0.out).rules
  obtain ⟨cx0, fx0, lx0⟩ := (show Box w8 _ _ from x0.out).rules
  go_wp2_with fail
  refine (HE.out _ hrd8).mono ?_
  rintro r w' ⟨rfl, rfl⟩
  go_wp2_with fail
  refine (works45_any _).mono ?_
  rintro r w9 ⟨rfl, hb9⟩
  clear cp0 fp0 lp0 cx0 fx0 lx0
  have hg9 := hb9
  have p0_ := hide ((show Box w8 _ _ from p0.out).grow hg9)
  clear p0
  have p0 := p0_
  clear p0_
  have x0_ := hide ((show Box w8 _ _ from x0.out).grow hg9)
  clear x0
  have x0 := x0_
  clear x0_
  have HG9 := hide (Grow.trans (show Grow w w8 from HG8.out) hg9)
  clear HG8
  have hsz9 : w.heap.size ≤ w9.heap.size := HG9.out.size
  have hq9 : w8.heap.size ≤ w9.heap.size := hg9.size
  have HS9 := hide hg9
  clear hb9 hg9
  obtain ⟨cp0, fp0, lp0⟩ := (show Box w9 _ _ from p0.out).rules
  obtain ⟨cx0, fx0, lx0⟩ := (show Box w9 _ _ from x0.out).rules
  go_wp2
  go_ret
  exact ⟨rfl, HG9.out⟩
theorem fatePuts_any (f : Fate) (w : World) (ok : FateOk f) :
    Calls Try.prog 16 #[fv f] w fun e w' => e = .returned (.bool true) ∧ Grow w w' := by
  have hp := bounds_u32 ok.pos
  have hb := bounds_u32 ok.bits
  cases h : fateB f with
  | false => exact fatePuts_no f w h
  | true => exact fatePuts_yes f w h ⟨hp.1, by have := hp.2; omega⟩ ⟨hb.1, by have := hb.2; omega⟩
end Go.Proofs.Ytcghgahohmabnaa
