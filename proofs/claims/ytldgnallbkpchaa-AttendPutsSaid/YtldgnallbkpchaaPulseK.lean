/- The walk of the statement PulsePuts. -/
import Derived.Test.YtldgnallbkpchaaPulseJ
import Derived.Test.YtldgnallbkpchaaFrameP
namespace Go.Proofs.Ytldgnallbkpchaa
open Go.RowKit
theorem i64_back (s : Int) (h : (Lit.int .i64 s).wf = true) : i64of (u64of s) = s := by
  show wrap64 ((u64of s : Nat) : Int) = s
  have hb := bounds_i64 h
  rw [← u64_of, IntKind.wrap_u64]
  unfold wrap64
  omega
theorem fixed8_back (s : Int) (r : List UInt8) : Buf.getFixed (Buf.fixed (u64of s) 8 ++ r) 8 = (u64of s, r, 0) := by
  have h := Buf.fixed_get_back (u64of s) 8 r (by omega) (by omega)
  have h2 := u64of_lt s
  rw [Nat.mod_eq_of_lt (by omega)] at h
  exact h
theorem pulse_kind (p : Pkt) (l : List UInt8) (h : pulseB p l = true) : (p.kind = 1 ∨ p.kind = 2 ∨ p.kind = 3) ∧ headB p = true ∧ l = [] := by
  by_cases k1 : p.kind = 1
  · cases hh : headB p with
    | false => unfold pulseB at h; rw [if_pos hh] at h; cases h
    | true => rw [pulse_one p l hh k1] at h; simp at h; exact ⟨.inl k1, rfl, h.2⟩
  · by_cases k2 : p.kind = 2
    · cases hh : headB p with
      | false => unfold pulseB at h; rw [if_pos hh] at h; cases h
      | true => rw [pulse_two p l hh k2] at h; simp at h; exact ⟨.inr (.inl k2), rfl, h.2⟩
    · by_cases k3 : p.kind = 3
      · cases hh : headB p with
        | false => unfold pulseB at h; rw [if_pos hh] at h; cases h
        | true => rw [pulse_three p l hh k3] at h; simp at h; exact ⟨.inr (.inr k3), rfl, h.1.1.2⟩
      · rw [pulse_other p l k1 k2 k3] at h; cases h
/-- what was written is read -/
theorem pulse_back (p : Pkt) (l : List UInt8) (ok : p.Ok) (h : pulseB p l = true) (r : List UInt8) : ∃ q, pg (pulseBytes p ++ r) (base p) = (q, r, 0) ∧ sameB p q = true := by
  obtain ⟨hk, hh, _⟩ := pulse_kind p l h
  rcases hk with k | k | k
  · rw [pulse_one p l hh k] at h
    simp at h
    refine ⟨{ base p with stamp := p.stamp }, ?_, ?_⟩
    · unfold pg pulseBytes
      rw [if_pos (show (base p).kind = 1 from k), if_pos k]
      unfold pg1
      rw [show rfix 8 (Buf.fixed (u64of p.stamp) 8 ++ r, 0) = (u64of p.stamp, r, 0) from fixed8_back p.stamp r]
      dsimp only
      rw [if_pos rfl, i64_back _ ok.stamp]
    · have := h.1
      simp [sameB, restB, keyEq, base] at this ⊢
      grind
  · rw [pulse_two p l hh k] at h
    simp at h
    refine ⟨{ base p with stamp := p.stamp, value := p.value }, ?_, ?_⟩
    · unfold pg pulseBytes
      rw [if_neg (show ¬ (base p).kind = 1 by show ¬ p.kind = 1; omega), if_pos (show (base p).kind = 2 from k), if_neg (by omega), if_pos k]
      unfold pg2
      rw [List.append_assoc, show rfix 8 (Buf.fixed (u64of p.stamp) 8 ++ (Buf.fixed (u64of p.value) 8 ++ r), 0) = (u64of p.stamp, Buf.fixed (u64of p.value) 8 ++ r, 0) from fixed8_back p.stamp _]
      dsimp only
      rw [show rfix 8 (Buf.fixed (u64of p.value) 8 ++ r, 0) = (u64of p.value, r, 0) from fixed8_back p.value r]
      dsimp only
      rw [if_pos rfl, i64_back _ ok.stamp, i64_back _ ok.value]
    · have := h.1
      simp [sameB, restB, keyEq, base] at this ⊢
      grind
  · rw [pulse_three p l hh k] at h
    simp at h
    have hno : 0 ≤ p.no ∧ p.no ≤ 1152921504606846976 := ⟨h.1.2, h.2⟩
    have hx : ((u64of p.no : Nat) : Int) = p.no := by rw [← u64_of, IntKind.wrap_u64]; omega
    refine ⟨{ base p with no := p.no }, ?_, ?_⟩
    · unfold pg pulseBytes
      rw [if_neg (show ¬ (base p).kind = 1 by show ¬ p.kind = 1; omega), if_neg (show ¬ (base p).kind = 2 by show ¬ p.kind = 2; omega), if_pos (show (base p).kind = 3 from k), if_neg (by omega), if_neg (by omega)]
      unfold pg3
      rw [show rnum (Buf.sevens (u64of p.no) ++ r, 0) = (u64of p.no, r, 0) from Buf.sevens_get_back _ _ (u64of_lt _)]
      have en : noG (u64of p.no, r, 0) = 0 := if_neg (fun h => by have := h.2; dsimp only at this; omega)
      rw [en, if_pos rfl]
      dsimp only
      rw [hx]
    · have := h.1.1.1
      simp [sameB, restB, keyEq, base] at this ⊢
      grind
set_option maxRecDepth 100000 in
set_option maxHeartbeats 2000000 in
theorem pulsePuts_no (p : Pkt) (A : Option Addr) (l : List UInt8) (c : Nat) (w : World) (hlb : Bytes w A l) (h : pulseB p l = false) :
    Calls Try.prog 22 #[pv p A l.length c] w fun e w' => e = .returned (.bool true) ∧ Grow w w' := by
  have HD := hide (fun W h => pulsegood_any p A l c W h)
  have HR := hide (fun W h => refpulsegood_any p A l c W h)
  rw [h] at HD HR
  clear h
  go_enter Try.func22, Try.ntmps22
  go_wp2_with fail
  refine (HR.out _ (hlb.alloc _)).mono ?_
  rintro r w1 ⟨rfl, hb1⟩
  obtain ⟨p0, hg1⟩ := peel1 hb1
  have p0_ := hide p0
  clear p0
  have p0 := p0_
  clear p0_
  have hlb := hlb.grow hg1
  have HG1 := hide (show Grow w w1 from hg1)
  have hsz1 : w.heap.size ≤ w1.heap.size := HG1.out.size
  have hq1 : w.heap.size ≤ w1.heap.size := hg1.size
  have HS1 := hide hg1
  clear hb1 hg1
  obtain ⟨cp0, fp0, lp0⟩ := (show Box w1 _ _ from p0.out).rules
  go_wp2_with fail
  refine (HD.out _ hlb).mono ?_
  rintro r w2 ⟨rfl, hb2⟩
  clear cp0 fp0 lp0
  have hg2 := hb2
  have p0_ := hide ((show Box w1 _ _ from p0.out).grow hg2)
  clear p0
  have p0 := p0_
  clear p0_
  have hlb := hlb.grow hg2
  have HG2 := hide (Grow.trans (show Grow w w1 from HG1.out) hg2)
  clear HG1
  have hsz2 : w.heap.size ≤ w2.heap.size := HG2.out.size
  have hq2 : w1.heap.size ≤ w2.heap.size := hg2.size
  have HS2 := hide hg2
  clear hb2 hg2
  obtain ⟨cp0, fp0, lp0⟩ := (show Box w2 _ _ from p0.out).rules
  go_wp2_with fail
  refine (works11_any _).mono ?_
  rintro r w3 ⟨rfl, hb3⟩
  clear cp0 fp0 lp0
  have hg3 := hb3
  have p0_ := hide ((show Box w2 _ _ from p0.out).grow hg3)
  clear p0
  have p0 := p0_
  clear p0_
  have hlb := hlb.grow hg3
  have HG3 := hide (Grow.trans (show Grow w w2 from HG2.out) hg3)
  clear HG2
  have hsz3 : w.heap.size ≤ w3.heap.size := HG3.out.size
  have hq3 : w2.heap.size ≤ w3.heap.size := hg3.size
  have HS3 := hide hg3
  clear hb3 hg3
  obtain ⟨cp0, fp0, lp0⟩ := (show Box w3 _ _ from p0.out).rules
  go_wp2
  go_ret
  exact ⟨rfl, HG3.out⟩
set_option maxRecDepth 100000 in
set_option maxHeartbeats 2000000 in
theorem pulsePuts_yes (p : Pkt) (A : Option Addr) (l : List UInt8) (c : Nat) (w : World) (ok : p.Ok) (hlb : Bytes w A l) (h : pulseB p l = true) :
    Calls Try.prog 22 #[pv p A l.length c] w fun e w' => e = .returned (.bool true) ∧ Grow w w' := by
  have HD := hide (fun W h => pulsegood_any p A l c W h)
  have HR := hide (fun W h => refpulsegood_any p A l c W h)
  rw [h] at HD HR
  have hl0 := hlb
  obtain ⟨hkind, _, hle⟩ := pulse_kind p l h
  obtain ⟨q, hbk, hsm⟩ := pulse_back p l ok h []
  rw [List.append_nil] at hbk
  have hback := hide hbk
  have hsame := hide (show (sameB p q && l == []) = true by rw [hsm, hle]; rfl)
  have hkd := hide hkind
  clear hbk hsm hle hkind
  have hS := hide (show pulseS 40 (0, []) p = (0, pulseBytes p) from pulseS_ok 40 [] p hkd.out (by decide))
  have hB := hide (fun W => (fun W => refpulsebytes_any p A l.length c W hkd.out) W)
  have hslen : (pulseBytes p).length ≤ 40 := by have := pulseBytes_len p; omega
  generalize pulseBytes p = s at *
  clear h
  go_enter Try.func22, Try.ntmps22
  go_wp2_with fail
  refine (HR.out _ (hlb.alloc _)).mono ?_
  rintro r w1 ⟨rfl, hb1⟩
  obtain ⟨p0, hg1⟩ := peel1 hb1
  have p0_ := hide p0
  clear p0
  have p0 := p0_
  clear p0_
  have hlb := hlb.grow hg1
  have HG1 := hide (show Grow w w1 from hg1)
  have hsz1 : w.heap.size ≤ w1.heap.size := HG1.out.size
  have hq1 : w.heap.size ≤ w1.heap.size := hg1.size
  have HS1 := hide hg1
  clear hb1 hg1
  obtain ⟨cp0, fp0, lp0⟩ := (show Box w1 _ _ from p0.out).rules
  go_wp2_with fail
  have hp1 := lp0
  refine (new_at 40 w1.heap.size _ (by decide) (by decide) rfl).mono ?_
  rintro r w2 ⟨rfl, hwr, hb2⟩
  clear cp0 fp0 lp0
  have hg2 := hb2
  have p0_ := hide ((show Box w1 _ _ from p0.out).grow hg2)
  clear p0
  have p0 := p0_
  clear p0_
  have hlb := hlb.grow hg2
  have HG2 := hide (Grow.trans (show Grow w w1 from HG1.out) hg2)
  clear HG1
  have hsz2 : w.heap.size ≤ w2.heap.size := HG2.out.size
  have hq2 : w1.heap.size ≤ w2.heap.size := hg2.size
  have HS2 := hide hg2
  clear hb2 hg2
  obtain ⟨cp0, fp0, lp0⟩ := (show Box w2 _ _ from p0.out).rules
  go_wp2_with fail
  have hput := pulseput_any w1.heap.size w1.heap.size none 0 0 [] 40 p A l.length c _ hwr (by simp) hq2 hkd.out
  rw [hS.out] at hput
  refine hput.mono ?_
  rintro r w3 ⟨rfl, A3, c3, hwr3, hb3, _⟩
  simp only [foot, blk, Option.map_none, Option.toList_none] at hb3
  clear hput
  clear cp0 fp0 lp0
  have hg3 := hb3
  have p0_ := hide ((show Box w2 _ _ from p0.out).kept hg3 (by simp; try omega))
  clear p0
  have p0 := p0_
  clear p0_
  have HG3 := hide (Kept.fresh1 hg3 (show Grow w w2 from HG2.out) (by omega))
  clear HG2
  have hsz3 : w.heap.size ≤ w3.heap.size := HG3.out.size
  have hq3 : w2.heap.size ≤ w3.heap.size := hg3.size
  have HS3 := hide hg3
  clear hb3 hg3
  obtain ⟨cp0, fp0, lp0⟩ := (show Box w3 _ _ from p0.out).rules
  go_wp2_with fail
  refine (done_ok _ _ A3 c3 _ 40 _ hwr3 (by show s.length ≤ _; omega)).mono ?_
  rintro r w4 ⟨A4, c4, rfl, hown4, hb4⟩
  have hs4 := hown4.bytes
  have hc4 := hown4.le
  clear hwr hwr3 hown4
  clear cp0 fp0 lp0
  have hg4 := hb4
  have p0_ := hide ((show Box w3 _ _ from p0.out).grow hg4)
  clear p0
  have p0 := p0_
  clear p0_
  have HG4 := hide (Grow.trans (show Grow w w3 from HG3.out) hg4)
  clear HG3
  have hsz4 : w.heap.size ≤ w4.heap.size := HG4.out.size
  have hq4 : w3.heap.size ≤ w4.heap.size := hg4.size
  have HS4 := hide hg4
  clear hb4 hg4
  obtain ⟨cp0, fp0, lp0⟩ := (show Box w4 _ _ from p0.out).rules
  go_wp2_with fail
  have Rp0 := fun (W : World) (h : Grow w4.drew W) => ((show Box w4 _ _ from p0.out).grow (Grow.of_drew h)).cell
  have Fp0 := fun (W : World) (h : Grow w4.drew W) => ((show Box w4 _ _ from p0.out).grow (Grow.of_drew h)).fz
  have Vhs4 := fun (W : World) (h : Grow w4.drew W) => conv_any c4 (hs4.grow (Grow.of_drew h))
  refine wpR_region (Grow) [] (by kernel_rfl) ?_
  refine wpR_take grow_rf grow_tr 0 rfl (by kernel_rfl) (fun _ _ _ h => h) rfl (v := ?_) ?_ ?_
  rotate_left
  · (intro w' hG; go_simp; try with_reducible rfl)
  try simp only [Act.put, List.setIfInBounds_toArray, List.set_cons_zero, List.set_cons_succ]
  refine wpR_take grow_rf grow_tr 1 rfl (by kernel_rfl) (fun _ _ _ h => h) rfl (v := ?_) ?_ ?_
  rotate_left
  · (intro w' hG; go_simp; try with_reducible rfl)
  try simp only [Act.put, List.setIfInBounds_toArray, List.set_cons_zero, List.set_cons_succ]
  refine wpR_take grow_rf grow_tr 2 rfl (by kernel_rfl) (fun _ _ _ h => h) rfl (v := ?_) ?_ ?_
  rotate_left
  · (intro w' hG; go_simp; try with_reducible rfl)
  try simp only [Act.put, List.setIfInBounds_toArray, List.set_cons_zero, List.set_cons_succ]
  refine wpR_call 3 rfl (by kernel_rfl) rfl fun K hK => ?_
  go_simp
  refine (hB.out _).mono ?_
  rintro r w5 ⟨A5, c5, rfl, hown5, hb5⟩
  have hs5 := hown5.bytes
  clear hown5
  refine hK.out _ _ (.inr (hb5)) ?_
  clear hK
  try simp only [Act.put, List.setIfInBounds_toArray, List.set_cons_zero, List.set_cons_succ]
  clear Rp0 Fp0
  clear Vhs4
  have hb5 := Grow.of_drew hb5
  clear cp0 fp0 lp0
  have hg5 := hb5
  have p0_ := hide ((show Box w4 _ _ from p0.out).grow hg5)
  clear p0
  have p0 := p0_
  clear p0_
  have hs4 := hs4.grow hg5
  have HG5 := hide (Grow.trans (show Grow w w4 from HG4.out) hg5)
  clear HG4
  have hsz5 : w.heap.size ≤ w5.heap.size := HG5.out.size
  have hq5 : w4.heap.size ≤ w5.heap.size := hg5.size
  have HS5 := hide hg5
  clear hb5 hg5
  obtain ⟨cp0, fp0, lp0⟩ := (show Box w5 _ _ from p0.out).rules
  have Rp0 := fun (W : World) (h : Grow w5 W) => ((show Box w5 _ _ from p0.out).grow h).cell
  have Fp0 := fun (W : World) (h : Grow w5 W) => ((show Box w5 _ _ from p0.out).grow h).fz
  have Vhs4 := fun (W : World) (h : Grow w5 W) => conv_any c4 (hs4.grow h)
  have Vhs5 := fun (W : World) (h : Grow w5 W) => conv_any c5 (hs5.grow h)
  refine wpR_take grow_rf grow_tr 4 rfl (by kernel_rfl) (fun _ _ _ h => h) rfl (v := ?_) ?_ ?_
  rotate_left
  · (intro w' hG; go_simp; try with_reducible rfl)
  try simp only [Act.put, List.setIfInBounds_toArray, List.set_cons_zero, List.set_cons_succ]
  refine wpR_take grow_rf grow_tr 5 rfl (by kernel_rfl) (fun _ _ _ h => h) rfl (v := ?_) ?_ ?_
  rotate_left
  · (intro w' hG; go_simp; try with_reducible rfl)
  try simp only [Act.put, List.setIfInBounds_toArray, List.set_cons_zero, List.set_cons_succ]
  refine wpR_take grow_rf grow_tr 6 rfl (by kernel_rfl) (fun _ _ _ h => h) rfl (v := ?_) ?_ ?_
  rotate_left
  · (intro w' hG; go_simp; try with_reducible rfl)
  try simp only [Act.put, List.setIfInBounds_toArray, List.set_cons_zero, List.set_cons_succ]
  refine wpR_take grow_rf grow_tr 7 rfl (by kernel_rfl) (fun _ _ _ h => h) rfl (v := ?_) ?_ ?_
  rotate_left
  · (intro w' hG; go_simp; try with_reducible rfl)
  try simp only [Act.put, List.setIfInBounds_toArray, List.set_cons_zero, List.set_cons_succ]
  refine wpR_take grow_rf grow_tr 8 rfl (by kernel_rfl) (fun _ _ _ h => h) rfl (v := ?_) ?_ ?_
  rotate_left
  · (intro w' hG; go_simp; try with_reducible rfl)
  try simp only [Act.put, List.setIfInBounds_toArray, List.set_cons_zero, List.set_cons_succ]
  refine wpR_take grow_rf grow_tr 9 rfl (by kernel_rfl) (fun _ _ _ h => h) rfl (v := ?_) ?_ ?_
  rotate_left
  · (intro w' hG; go_simp; try with_reducible rfl)
  try simp only [Act.put, List.setIfInBounds_toArray, List.set_cons_zero, List.set_cons_succ]
  refine wpR_done (by kernel_rfl) ?_ _
  clear Rp0 Fp0
  clear Vhs4 Vhs5
  go_wp2_with fail
  refine (read_any A4 s c4 _ hs4 (by omega)).mono ?_
  rintro r w6 ⟨N, pr, rfl, hr, hpr, hb6⟩
  have hp5 := lp0
  clear cp0 fp0 lp0
  have hg6 := hb6
  have p0_ := hide ((show Box w5 _ _ from p0.out).grow hg6)
  clear p0
  have p0 := p0_
  clear p0_
  have hs4 := hs4.grow hg6
  have HG6 := hide (Grow.trans (show Grow w w5 from HG5.out) hg6)
  clear HG5
  have hsz6 : w.heap.size ≤ w6.heap.size := HG6.out.size
  have hq6 : w5.heap.size ≤ w6.heap.size := hg6.size
  have HS6 := hide hg6
  clear hb6 hg6
  obtain ⟨cp0, fp0, lp0⟩ := (show Box w6 _ _ from p0.out).rules
  have hG := hide (fun W h => pulseget_any N pr s (base p) none [] 0 W h (Bytes.nil _ _) (fun e => absurd rfl e) (by simp) (by decide))
  rw [hback.out] at hG
  dsimp only at hG
  rw [show bodyOf 0 ([] : List UInt8) = [] from rfl] at hG
  go_wp2_with fail
  refine (hG.out _ hr).mono ?_
  rintro r w7 ⟨⟨A7, c7, rfl, hc7, hcm7, hx⟩, hr7, hb7⟩
  have hrd7 := hr7 (by simp)
  clear hr7
  clear cp0 fp0 lp0
  have hg7 := hb7
  have p0_ := hide ((show Box w6 _ _ from p0.out).kept hg7 (by simp; try omega))
  clear p0
  have p0 := p0_
  clear p0_
  have HG7 := hide (Kept.fresh1 hg7 (show Grow w w6 from HG6.out) (by omega))
  clear HG6
  have hsz7 : w.heap.size ≤ w7.heap.size := HG7.out.size
  have hq7 : w6.heap.size ≤ w7.heap.size := hg7.size
  have HS7 := hide hg7
  clear hb7 hg7
  obtain ⟨cp0, fp0, lp0⟩ := (show Box w7 _ _ from p0.out).rules
  have hlb := hl0.grow (show Grow w w7 from HG7.out)
  have HE := hide (end_any N pr ([], 0))
  rw [show rend ([], 0) = 0 from rfl] at HE
  have HS := hide (fun W h1 h2 => refsame_any p (q) A A7 l [] c c7 W h1 h2)
  rw [hsame.out] at HS
  go_wp2_with fail
  refine (HE.out _ (hrd7.grow ((Grow.refl w7).alloc _))).mono ?_
  rintro r w' ⟨rfl, rfl⟩
  go_wp2_with fail
  refine (HS.out _ (hlb.alloc _) (hx.alloc _)).mono ?_
  rintro r w8 ⟨rfl, hb8⟩
  clear cp0 fp0 lp0
  obtain ⟨x0, hg8⟩ := peel1 hb8
  have p0_ := hide ((show Box w7 _ _ from p0.out).grow hg8)
  clear p0
  have p0 := p0_
  clear p0_
  have x0_ := hide x0
  clear x0
  have x0 := x0_
  clear x0_
  have hlb := hlb.grow hg8
  have hx := hx.grow hg8
  have HG8 := hide (Grow.trans (show Grow w w7 from HG7.out) hg8)
  clear HG7
  have hsz8 : w.heap.size ≤ w8.heap.size := HG8.out.size
  have hq8 : w7.heap.size ≤ w8.heap.size := hg8.size
  have HS8 := hide hg8
  clear hb8 hg8
  obtain ⟨cp0, fp0, lp0⟩ := (show Box w8 _ _ from p0.out).rules
  obtain ⟨cx0, fx0, lx0⟩ := (show Box w8 _ _ from x0.out).rules
  go_wp2_with fail
  refine (works11_any _).mono ?_
  rintro r w9 ⟨rfl, hb9⟩
  clear cp0 fp0 lp0 cx0 fx0 lx0
  have hg9 := hb9
  have p0_ := hide ((show Box w8 _ _ from p0.out).grow hg9)
  clear p0
  have p0 := p0_
  clear p0_
  have x0_ := hide ((show Box w8 _ _ from x0.out).grow hg9)
  clear x0
  have x0 := x0_
  clear x0_
  have hlb := hlb.grow hg9
  have hx := hx.grow hg9
  have HG9 := hide (Grow.trans (show Grow w w8 from HG8.out) hg9)
  clear HG8
  have hsz9 : w.heap.size ≤ w9.heap.size := HG9.out.size
  have hq9 : w8.heap.size ≤ w9.heap.size := hg9.size
  have HS9 := hide hg9
  clear hb9 hg9
  obtain ⟨cp0, fp0, lp0⟩ := (show Box w9 _ _ from p0.out).rules
  obtain ⟨cx0, fx0, lx0⟩ := (show Box w9 _ _ from x0.out).rules
  go_wp2
  go_ret
  exact ⟨rfl, HG9.out⟩
theorem pulsePuts_any (p : Pkt) (A : Option Addr) (l : List UInt8) (c : Nat) (w : World) (ok : p.Ok) (hlb : Bytes w A l) :
    Calls Try.prog 22 #[pv p A l.length c] w fun e w' => e = .returned (.bool true) ∧ Grow w w' := by
  cases h : pulseB p l with
  | false => exact pulsePuts_no p A l c w hlb h
  | true => exact pulsePuts_yes p A l c w ok hlb h
end Go.Proofs.Ytldgnallbkpchaa
