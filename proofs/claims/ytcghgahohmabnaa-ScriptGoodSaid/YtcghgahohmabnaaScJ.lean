/- Acts (chapter 46): who crashes, by the document; the walk of the statement ScriptGood. -/
import Derived.Test.YtcghgahohmabnaaScI
import Derived.Test.YtcghgahohmabnaaNod
namespace Go.Proofs.Ytcghgahohmabnaa
open Go.RowKit
set_option maxRecDepth 100000 in
set_option maxHeartbeats 4000000 in
theorem refcrashes_any (A : Option Addr) (L : List AB) (c : Nat) (w : World) (hi : Acts w A L) (hL : L.length ≤ 1000000) :
    Calls Try.prog 73 #[.slice A L.length c] w fun r w' => r = .returned (.int .u64 (crashOf L : Nat)) ∧ Grow w w' := by
  have hg0 := Grow.refl w
  go_enter Try.func73, Try.ntmps73
  go_wp2
  go_loopw [3, 4] (fun v i wr => ∃ (k S : Nat), k ≤ L.length ∧ i = .int .i64 k ∧ v = .int .u64 S ∧ Hid (S = crashOf (L.take k)) ∧ Grow w wr) (fun _ i _ => L.length - (intOf i).toNat)
  case atStart => exact ⟨0, 0, by omega, rfl, rfl, hide rfl, hg0⟩
  case round =>
    obtain ⟨k, S, hk, rfl, rfl, hS, hgr⟩ := hrel
    clear hg0
    have hSl : S < 18446744073709551616 := by rw [hS.out]; exact crash_lt _
    by_cases hlt : k < L.length
    · have hlti : (k : Int) < (L.length : Int) := by omega
      obtain ⟨x, hx⟩ : ∃ x, Hid (x = L[k]) := ⟨_, hide rfl⟩
      obtain ⟨b3, o, rfl, hcs, hok⟩ := (hi.grow hgr).at_ k hlt
      rw [← hx.out] at hcs hok
      have d0 := hcs 0 (by omega)
      have d1 := hcs 1 (by omega)
      have d2 := hcs 2 (by omega)
      have d3 := hcs 3 (by omega)
      have d4 := hcs 4 (by omega)
      have d5 := hcs 5 (by omega)
      have d6 := hcs 6 (by omega)
      have d7 := hcs 7 (by omega)
      have d8 := hcs 8 (by omega)
      simp at d0 d1 d2 d3 d4 d5 d6 d7 d8
      clear hcs
      have HG := hide (refagood_any x.p x.A x.l x.c _ hok.bytes (by have := hok.len; omega))
      have HS := hide (crashOf_snoc L k hlt)
      rw [← hx.out, ← hS.out] at HS
      generalize hgb : actB x.p x.l = bg at HG
      have hgb := hide hgb
      clear hok
      by_cases hkk : x.p.kind = 4
      · have hkb : (x.p.kind == 4) = true := by simpa using hkk
        have hkq := hide hkk
        clear hkk
        go_wp2_with fail
        refine HG.out.mono ?_
        rintro r w4 ⟨rfl, hg4⟩
        have hgr4 := Grow.trans hgr hg4
        have e1 := Grow.cell' hg4 d1
        clear d0 d1 d2 d3 d4 d5 d6 d7 d8 HG
        cases bg with
        | false =>
          have hS2 : Hid (S = crashOf (L.take (k + 1))) := hide (by rw [HS.out]; unfold crashAdd; rw [hkb, hgb.out]; rfl)
          clear e1
          go_wp2
          go_roundw
          case rel => exact ⟨k + 1, S, by omega, by go_num, rfl, hS2, hgr4⟩
          case measure => simp [intOf]; omega
        | true =>
          have hn := crash_n x.p x.l hgb.out hkq.out
          obtain ⟨nd, hnd⟩ := Int.eq_ofNat_of_zero_le hn.1
          have hnl : nd < 64 := by omega
          have hS2 : Hid (S ||| 2 ^ nd = crashOf (L.take (k + 1))) := hide (by rw [HS.out]; unfold crashAdd; rw [hkb, hgb.out, hnd]; rfl)
          have HW := hide (nwith_any S nd w4.heap.size _ hSl hnl ((Box.new w4 #[nv nd] 3 rfl).cell 0))
          rw [hnd] at e1
          clear hn hnd
          generalize S ||| 2 ^ nd = S2 at *
          go_wp2_with fail
          refine HW.out.mono ?_
          rintro r w5 ⟨rfl, hg5⟩
          have hgr5 := Grow.trans (hgr4.alloc _) hg5
          clear HW e1
          go_wp2
          go_roundw
          case rel => exact ⟨k + 1, S2, by omega, by go_num, rfl, hS2, hgr5⟩
          case measure => simp [intOf]; omega
      · have hkb : (x.p.kind == 4) = false := by simpa using hkk
        have hS2 : Hid (S = crashOf (L.take (k + 1))) := hide (by rw [HS.out]; unfold crashAdd; rw [hkb]; rfl)
        clear hkk
        go_wp2
        go_roundw
        case rel => exact ⟨k + 1, S, by omega, by go_num, rfl, hS2, hgr⟩
        case measure => simp [intOf]; omega
    · obtain rfl : k = L.length := by omega
      have hSS := hS.out
      rw [List.take_length] at hSS
      subst hSS
      clear hlt
      go_wp2
      go_ret
      exact ⟨rfl, hgr⟩
set_option maxRecDepth 100000 in
set_option maxHeartbeats 8000000 in
theorem scriptGood_any (A0 : Option Addr) (L0 : List AB) (c0 : Nat) (w : World) (hi0 : ActsIn w A0 L0) (hL0 : L0.length ≤ 9223372036854775807) :
    Calls Try.prog 17 #[.slice A0 L0.length c0] w fun e w' => e = .returned (.bool true) ∧ Grow w w' := by
  go_enter Try.func17, Try.ntmps17
  go_wp2_with fail
  refine (cut46_any A0 L0 c0 w hi0 hL0).mono ?_
  rintro r w0 ⟨⟨L, A, c, rfl, hL60, hi1, _⟩, hg0⟩
  clear hi0
  have hi := hide hi1
  clear hi1
  go_wp2
  go_loopw [3, 10] (fun v i wr => ∃ (k : Nat) (S : Int), k ≤ L.length ∧ i = .int .i64 k ∧ v = .int .i64 S ∧ Hid (S = tickOf (L.take k)) ∧ Grow w0 wr) (fun _ i _ => L.length - (intOf i).toNat)
  case atStart => exact ⟨0, 0, by omega, rfl, rfl, hide rfl, Grow.refl _⟩
  case round =>
    obtain ⟨k, S, hk, rfl, rfl, hS, hgr⟩ := hrel
    have hSb := tick_bounds (L.take k)
    rw [← hS.out, List.length_take] at hSb
    by_cases hlt : k < L.length
    · have hlti : (k : Int) < (L.length : Int) := by omega
      obtain ⟨x, hx⟩ : ∃ x, Hid (x = L[k]) := ⟨_, hide rfl⟩
      obtain ⟨b3, o, rfl, hcs, hok⟩ := (hi.out.grow hgr).at_ k hlt
      rw [← hx.out] at hcs hok
      have d0 := hcs 0 (by omega)
      have d1 := hcs 1 (by omega)
      have d2 := hcs 2 (by omega)
      have d3 := hcs 3 (by omega)
      have d4 := hcs 4 (by omega)
      have d5 := hcs 5 (by omega)
      have d6 := hcs 6 (by omega)
      have d7 := hcs 7 (by omega)
      have d8 := hcs 8 (by omega)
      simp at d0 d1 d2 d3 d4 d5 d6 d7 d8
      clear hcs
      have hgq := (Grow.refl wr).alloc (.cells (abc x) 108)
      have hq0 := hide (Box.new wr (abc x) 108 rfl)
      have hlx := hok.len
      have hbx := hide (hok.bytes.grow hgq)
      have HGd := hide (fun W h => agood_any x.p x.A x.l x.c W h (by omega))
      have HRf := hide (fun W h => refagood_any x.p x.A x.l x.c W h (by omega))
      have HSs := hide (fun W h => asame_any x.p x.p x.A x.A x.l x.l x.c x.c W h h)
      rw [actEq_refl, show (x.l == x.l) = true by simp, Bool.and_self] at HSs
      have HS := hide (tickOf_snoc L k hlt)
      rw [← hx.out, ← hS.out] at HS
      clear hok hlx
      have hsz : wr.heap.size < (wr.alloc (.cells (abc x) 108)).heap.size := by simp
      by_cases hk0 : k = 0
      · have hk0h := hide hk0
        generalize hgb : actB x.p x.l = bg at HGd HRf
        have hgb := hide hgb
        clear hk0
        go_wp2_with fail
        generalize hw1 : World.alloc wr _ = w1 at *
        clear hw1 d0 d1 d2 d3 d4 d5 d6 d7 d8
        have hgw := Grow.trans hgr hgq
        have hk0i : ¬ ((0 : Int) < (k : Int)) := by have := hk0h.out; omega
        have hk0n : ¬ (0 < k) := by have := hk0h.out; omega
        have hk0d : decide (0 < k) = false := by simpa using hk0h.out
        have Rq := fun (W : World) (h : Grow w1.drew W) => (hq0.out.grow (Grow.of_drew h)).cell
        have Fq := fun (W : World) (h : Grow w1.drew W) => (hq0.out.grow (Grow.of_drew h)).fz
        refine wpR_region (Grow) [] (by kernel_rfl) ?_
        refine wpR_take grow_rf grow_tr 0 rfl (by kernel_rfl) (fun _ _ _ h => h) rfl (v := ?_) ?_ ?_
        rotate_left
        · (intro w' hG; go_simp; try with_reducible rfl)
        try simp only [Act.put, List.setIfInBounds_toArray, List.set_cons_zero, List.set_cons_succ]
        refine wpR_take grow_rf grow_tr 2 rfl (by kernel_rfl) (fun _ _ _ h => h) rfl (v := ?_) ?_ ?_
        rotate_left
        · (intro w' hG; go_simp; try with_reducible rfl)
        try simp only [Act.put, List.setIfInBounds_toArray, List.set_cons_zero, List.set_cons_succ]
        refine wpR_call 1 rfl (by kernel_rfl) rfl fun K hK => ?_
        go_simp
        refine (HGd.out _ (hbx.out.grow (Grow.of_drew (Grow.refl _)))).mono ?_
        rintro r w4 ⟨rfl, hb4⟩
        refine hK.out _ _ (.inr (hb4)) ?_
        clear hK
        try simp only [Act.put, List.setIfInBounds_toArray, List.set_cons_zero, List.set_cons_succ]
        have hgw4 : Grow w1 w4 := Grow.of_drew hb4
        clear Rq Fq
        have Rq := fun (W : World) (h : Grow w4 W) => (hq0.out.grow (Grow.trans hgw4 h)).cell
        have Fq := fun (W : World) (h : Grow w4 W) => (hq0.out.grow (Grow.trans hgw4 h)).fz
        refine wpR_call 3 rfl (by kernel_rfl) rfl fun K hK => ?_
        go_simp
        refine (HRf.out _ (hbx.out.grow hgw4)).mono ?_
        rintro r w5 ⟨rfl, hb5⟩
        refine hK.out _ _ (.inr (hb5)) ?_
        clear hK
        try simp only [Act.put, List.setIfInBounds_toArray, List.set_cons_zero, List.set_cons_succ]
        have hgw5 : Grow w1 w5 := Grow.trans hgw4 hb5
        clear Rq Fq
        have Rq := fun (W : World) (h : Grow w5 W) => (hq0.out.grow (Grow.trans hgw5 h)).cell
        have Fq := fun (W : World) (h : Grow w5 W) => (hq0.out.grow (Grow.trans hgw5 h)).fz
        refine wpR_take grow_rf grow_tr 4 rfl (by kernel_rfl) (fun _ _ _ h => h) rfl (v := ?_) ?_ ?_
        rotate_left
        · (intro w' hG; go_simp; try with_reducible rfl)
        try simp only [Act.put, List.setIfInBounds_toArray, List.set_cons_zero, List.set_cons_succ]
        refine wpR_take grow_rf grow_tr 5 rfl (by kernel_rfl) (fun _ _ _ h => h) rfl (v := ?_) ?_ ?_
        rotate_left
        · (intro w' hG; go_simp; try with_reducible rfl)
        try simp only [Act.put, List.setIfInBounds_toArray, List.set_cons_zero, List.set_cons_succ]
        refine wpR_take grow_rf grow_tr 6 rfl (by kernel_rfl) (fun _ _ _ h => h) rfl (v := ?_) ?_ ?_
        rotate_left
        · (intro w' hG; go_simp; try with_reducible rfl)
        try simp only [Act.put, List.setIfInBounds_toArray, List.set_cons_zero, List.set_cons_succ]
        refine wpR_take grow_rf grow_tr 7 rfl (by kernel_rfl) (fun _ _ _ h => h) rfl (v := ?_) ?_ ?_
        rotate_left
        · (intro w' hG; go_simp; try with_reducible rfl)
        try simp only [Act.put, List.setIfInBounds_toArray, List.set_cons_zero, List.set_cons_succ]
        refine wpR_call 8 rfl (by kernel_rfl) rfl fun K hK => ?_
        go_simp
        refine (HSs.out _ (hbx.out.grow hgw5)).mono ?_
        rintro r w6 ⟨rfl, hb6⟩
        refine hK.out _ _ (.inr (hb6)) ?_
        clear hK
        try simp only [Act.put, List.setIfInBounds_toArray, List.set_cons_zero, List.set_cons_succ]
        have hgw6 : Grow w1 w6 := Grow.trans hgw5 hb6
        clear Rq Fq
        have Rq := fun (W : World) (h : Grow w6 W) => (hq0.out.grow (Grow.trans hgw6 h)).cell
        have Fq := fun (W : World) (h : Grow w6 W) => (hq0.out.grow (Grow.trans hgw6 h)).fz
        refine wpR_take grow_rf grow_tr 9 rfl (by kernel_rfl) (fun _ _ _ h => h) rfl (v := ?_) ?_ ?_
        rotate_left
        · (intro w' hG; go_simp; try with_reducible rfl)
        try simp only [Act.put, List.setIfInBounds_toArray, List.set_cons_zero, List.set_cons_succ]
        refine wpR_take grow_rf grow_tr 10 rfl (by kernel_rfl) (fun _ _ _ h => h) rfl (v := ?_) ?_ ?_
        rotate_left
        · (intro w' hG; go_simp; try with_reducible rfl)
        try simp only [Act.put, List.setIfInBounds_toArray, List.set_cons_zero, List.set_cons_succ]
        refine wpR_take grow_rf grow_tr 11 rfl (by kernel_rfl) (fun _ _ _ h => h) rfl (v := ?_) ?_ ?_
        rotate_left
        · (intro w' hG; go_simp; try with_reducible rfl)
        try simp only [Act.put, List.setIfInBounds_toArray, List.set_cons_zero, List.set_cons_succ]
        refine wpR_take grow_rf grow_tr 12 rfl (by kernel_rfl) (fun _ _ _ h => h) rfl (v := ?_) ?_ ?_
        rotate_left
        · (intro w' hG; go_simp; try with_reducible rfl)
        try simp only [Act.put, List.setIfInBounds_toArray, List.set_cons_zero, List.set_cons_succ]
        refine wpR_take grow_rf grow_tr 13 rfl (by kernel_rfl) (fun _ _ _ h => h) rfl (v := ?_) ?_ ?_
        rotate_left
        · (intro w' hG; go_simp; try with_reducible rfl)
        try simp only [Act.put, List.setIfInBounds_toArray, List.set_cons_zero, List.set_cons_succ]
        refine wpR_take grow_rf grow_tr 14 rfl (by kernel_rfl) (fun _ _ _ h => h) rfl (v := ?_) ?_ ?_
        rotate_left
        · (intro w' hG; go_simp; try with_reducible rfl)
        try simp only [Act.put, List.setIfInBounds_toArray, List.set_cons_zero, List.set_cons_succ]
        refine wpR_skip grow_rf grow_tr 15 rfl (by kernel_rfl) (fun _ _ _ h => h) rfl ?_
        try simp only [Act.put, List.setIfInBounds_toArray, List.set_cons_zero, List.set_cons_succ]
        refine wpR_skip grow_rf grow_tr 16 rfl (by kernel_rfl) (fun _ _ _ h => h) rfl ?_
        try simp only [Act.put, List.setIfInBounds_toArray, List.set_cons_zero, List.set_cons_succ]
        refine wpR_skip grow_rf grow_tr 17 rfl (by kernel_rfl) (fun _ _ _ h => h) rfl ?_
        try simp only [Act.put, List.setIfInBounds_toArray, List.set_cons_zero, List.set_cons_succ]
        refine wpR_skip grow_rf grow_tr 18 rfl (by kernel_rfl) (fun _ _ _ h => h) rfl ?_
        try simp only [Act.put, List.setIfInBounds_toArray, List.set_cons_zero, List.set_cons_succ]
        refine wpR_skip grow_rf grow_tr 19 rfl (by kernel_rfl) (fun _ _ _ h => h) rfl ?_
        try simp only [Act.put, List.setIfInBounds_toArray, List.set_cons_zero, List.set_cons_succ]
        refine wpR_skip grow_rf grow_tr 20 rfl (by kernel_rfl) (fun _ _ _ h => h) rfl ?_
        try simp only [Act.put, List.setIfInBounds_toArray, List.set_cons_zero, List.set_cons_succ]
        refine wpR_skip grow_rf grow_tr 21 rfl (by kernel_rfl) (fun _ _ _ h => h) rfl ?_
        try simp only [Act.put, List.setIfInBounds_toArray, List.set_cons_zero, List.set_cons_succ]
        refine wpR_skip grow_rf grow_tr 22 rfl (by kernel_rfl) (fun _ _ _ h => h) rfl ?_
        try simp only [Act.put, List.setIfInBounds_toArray, List.set_cons_zero, List.set_cons_succ]
        refine wpR_skip grow_rf grow_tr 23 rfl (by kernel_rfl) (fun _ _ _ h => h) rfl ?_
        try simp only [Act.put, List.setIfInBounds_toArray, List.set_cons_zero, List.set_cons_succ]
        refine wpR_skip grow_rf grow_tr 24 rfl (by kernel_rfl) (fun _ _ _ h => h) rfl ?_
        try simp only [Act.put, List.setIfInBounds_toArray, List.set_cons_zero, List.set_cons_succ]
        refine wpR_skip grow_rf grow_tr 25 rfl (by kernel_rfl) (fun _ _ _ h => h) rfl ?_
        try simp only [Act.put, List.setIfInBounds_toArray, List.set_cons_zero, List.set_cons_succ]
        refine wpR_skip grow_rf grow_tr 26 rfl (by kernel_rfl) (fun _ _ _ h => h) rfl ?_
        try simp only [Act.put, List.setIfInBounds_toArray, List.set_cons_zero, List.set_cons_succ]
        refine wpR_skip grow_rf grow_tr 27 rfl (by kernel_rfl) (fun _ _ _ h => h) rfl ?_
        try simp only [Act.put, List.setIfInBounds_toArray, List.set_cons_zero, List.set_cons_succ]
        refine wpR_skip grow_rf grow_tr 28 rfl (by kernel_rfl) (fun _ _ _ h => h) rfl ?_
        try simp only [Act.put, List.setIfInBounds_toArray, List.set_cons_zero, List.set_cons_succ]
        refine wpR_skip grow_rf grow_tr 29 rfl (by kernel_rfl) (fun _ _ _ h => h) rfl ?_
        try simp only [Act.put, List.setIfInBounds_toArray, List.set_cons_zero, List.set_cons_succ]
        refine wpR_take grow_rf grow_tr 30 rfl (by kernel_rfl) (fun _ _ _ h => h) rfl (v := ?_) ?_ ?_
        rotate_left
        · (intro w' hG; go_simp; try with_reducible rfl)
        try simp only [Act.put, List.setIfInBounds_toArray, List.set_cons_zero, List.set_cons_succ]
        refine wpR_take grow_rf grow_tr 31 rfl (by kernel_rfl) (fun _ _ _ h => h) rfl (v := ?_) ?_ ?_
        rotate_left
        · (intro w' hG; go_simp; try with_reducible rfl)
        try simp only [Act.put, List.setIfInBounds_toArray, List.set_cons_zero, List.set_cons_succ]
        refine wpR_done (by kernel_rfl) ?_ _
        clear Rq Fq hk0i hk0n hk0d
        obtain ⟨cq, fq, lq⟩ := (hq0.out.grow hgw6).rules
        by_cases hkk : x.p.kind = 1
        · have hkb : (x.p.kind == 1) = true := by simpa using hkk
          have hkq := hide hkk
          clear hkk
          go_wp2_with fail
          refine (HRf.out _ (hbx.out.grow hgw6)).mono ?_
          rintro r w9 ⟨rfl, hb9⟩
          have hgw9 : Grow w1 w9 := Grow.trans hgw6 hb9
          clear cq fq lq
          obtain ⟨cq, fq, lq⟩ := (hq0.out.grow hgw9).rules
          have hgend := Grow.trans hgw hgw9
          cases bg with
          | false =>
            have hS2 : Hid (S = tickOf (L.take (k + 1))) := hide (by rw [HS.out]; unfold tickAdd; rw [hkb, hgb.out]; rfl)
            go_wp2
            go_roundw
            case rel => exact ⟨k + 1, S, by omega, by go_num, rfl, hS2, hgend⟩
            case measure => simp [intOf]; omega
          | true =>
            have hn := tick_n x.p x.l hgb.out hkq.out
            have hS2 : Hid (S + x.p.n = tickOf (L.take (k + 1))) := hide (by rw [HS.out]; unfold tickAdd; rw [hkb, hgb.out]; rfl)
            go_wp2
            go_roundw
            case rel => exact ⟨k + 1, S + x.p.n, by omega, by go_num, by go_num, hS2, hgend⟩
            case measure => simp [intOf]; omega
        · have hkb : (x.p.kind == 1) = false := by simpa using hkk
          have hS2 : Hid (S = tickOf (L.take (k + 1))) := hide (by rw [HS.out]; unfold tickAdd; rw [hkb]; rfl)
          have hgend := Grow.trans hgw hgw6
          clear hkk
          go_wp2
          go_roundw
          case rel => exact ⟨k + 1, S, by omega, by go_num, rfl, hS2, hgend⟩
          case measure => simp [intOf]; omega
      · have hkp : 0 < k := by omega
        obtain ⟨j, hj⟩ : ∃ j, Hid (j = k - 1) := ⟨_, hide rfl⟩
        have hjl : j < L.length := by have := hj.out; omega
        obtain ⟨y, hy⟩ : ∃ y, Hid (y = L[j]) := ⟨_, hide rfl⟩
        obtain ⟨b4, o4, hA4, hcs, hok⟩ := (hi.out.grow hgr).at_ j hjl
        obtain ⟨rfl, rfl⟩ : b3 = b4 ∧ o = o4 := by simpa using hA4
        clear hA4
        rw [← hy.out] at hcs hok
        have e0 := hcs 0 (by omega)
        have e1 := hcs 1 (by omega)
        have e2 := hcs 2 (by omega)
        have e3 := hcs 3 (by omega)
        have e4 := hcs 4 (by omega)
        have e5 := hcs 5 (by omega)
        have e6 := hcs 6 (by omega)
        have e7 := hcs 7 (by omega)
        have e8 := hcs 8 (by omega)
        simp at e0 e1 e2 e3 e4 e5 e6 e7 e8
        clear hcs
        have hE0 := hide (Grow.cell' hgq e0)
        have hE1 := hide (Grow.cell' hgq e1)
        have hE2 := hide (Grow.cell' hgq e2)
        have hE3 := hide (Grow.cell' hgq e3)
        have hE4 := hide (Grow.cell' hgq e4)
        have hE5 := hide (Grow.cell' hgq e5)
        have hE6 := hide (Grow.cell' hgq e6)
        have hE7 := hide (Grow.cell' hgq e7)
        have hE8 := hide (Grow.cell' hgq e8)
        clear e0 e1 e2 e3 e4 e5 e6 e7 e8
        have hby := hide (hok.bytes.grow hgq)
        have HSy := hide (fun W h h2 => asame_any x.p y.p x.A y.A x.l y.l x.c y.c W h h2)
        have HRy := hide (fun W h h2 => refasame_any x.p y.p x.A y.A x.l y.l x.c y.c W h h2)
        generalize (actEq x.p y.p && x.l == y.l) = sm at HSy HRy
        clear hok
        generalize hgb : actB x.p x.l = bg at HGd HRf
        have hgb := hide hgb
        have hjh := hide hjl
        clear hk0
        go_wp2_with fail
        generalize hw1 : World.alloc wr _ = w1 at *
        clear hw1 d0 d1 d2 d3 d4 d5 d6 d7 d8
        have hgw := Grow.trans hgr hgq
        have hkpi : (0 : Int) < (k : Int) := by omega
        have hkm : (k : Int) - 1 = (j : Int) := by have := hj.out; omega
        have hkw : IntKind.i64.wrap (j : Int) = (j : Int) := by have := hjh.out; simp only [IntKind.wrap_i64]; omega
        have hjli : (j : Int) < (L.length : Int) := by have := hjh.out; omega
        have Rq := fun (W : World) (h : Grow w1.drew W) => (hq0.out.grow (Grow.of_drew h)).cell
        have Fq := fun (W : World) (h : Grow w1.drew W) => (hq0.out.grow (Grow.of_drew h)).fz
        have RY0 := fun (W : World) (h : Grow w1.drew W) => Grow.cell' (Grow.of_drew h) hE0.out
        have RY1 := fun (W : World) (h : Grow w1.drew W) => Grow.cell' (Grow.of_drew h) hE1.out
        have RY2 := fun (W : World) (h : Grow w1.drew W) => Grow.cell' (Grow.of_drew h) hE2.out
        have RY3 := fun (W : World) (h : Grow w1.drew W) => Grow.cell' (Grow.of_drew h) hE3.out
        have RY4 := fun (W : World) (h : Grow w1.drew W) => Grow.cell' (Grow.of_drew h) hE4.out
        have RY5 := fun (W : World) (h : Grow w1.drew W) => Grow.cell' (Grow.of_drew h) hE5.out
        have RY6 := fun (W : World) (h : Grow w1.drew W) => Grow.cell' (Grow.of_drew h) hE6.out
        have RY7 := fun (W : World) (h : Grow w1.drew W) => Grow.cell' (Grow.of_drew h) hE7.out
        have RY8 := fun (W : World) (h : Grow w1.drew W) => Grow.cell' (Grow.of_drew h) hE8.out
        refine wpR_region (Grow) [] (by kernel_rfl) ?_
        refine wpR_take grow_rf grow_tr 0 rfl (by kernel_rfl) (fun _ _ _ h => h) rfl (v := ?_) ?_ ?_
        rotate_left
        · (intro w' hG; go_simp; try with_reducible rfl)
        try simp only [Act.put, List.setIfInBounds_toArray, List.set_cons_zero, List.set_cons_succ]
        refine wpR_take grow_rf grow_tr 2 rfl (by kernel_rfl) (fun _ _ _ h => h) rfl (v := ?_) ?_ ?_
        rotate_left
        · (intro w' hG; go_simp; try with_reducible rfl)
        try simp only [Act.put, List.setIfInBounds_toArray, List.set_cons_zero, List.set_cons_succ]
        refine wpR_call 1 rfl (by kernel_rfl) rfl fun K hK => ?_
        go_simp
        refine (HGd.out _ (hbx.out.grow (Grow.of_drew (Grow.refl _)))).mono ?_
        rintro r w4 ⟨rfl, hb4⟩
        refine hK.out _ _ (.inr (hb4)) ?_
        clear hK
        try simp only [Act.put, List.setIfInBounds_toArray, List.set_cons_zero, List.set_cons_succ]
        have hgw4 : Grow w1 w4 := Grow.of_drew hb4
        clear Rq Fq RY0 RY1 RY2 RY3 RY4 RY5 RY6 RY7 RY8
        have Rq := fun (W : World) (h : Grow w4 W) => (hq0.out.grow (Grow.trans hgw4 h)).cell
        have Fq := fun (W : World) (h : Grow w4 W) => (hq0.out.grow (Grow.trans hgw4 h)).fz
        have RY0 := fun (W : World) (h : Grow w4 W) => Grow.cell' (Grow.trans hgw4 h) hE0.out
        have RY1 := fun (W : World) (h : Grow w4 W) => Grow.cell' (Grow.trans hgw4 h) hE1.out
        have RY2 := fun (W : World) (h : Grow w4 W) => Grow.cell' (Grow.trans hgw4 h) hE2.out
        have RY3 := fun (W : World) (h : Grow w4 W) => Grow.cell' (Grow.trans hgw4 h) hE3.out
        have RY4 := fun (W : World) (h : Grow w4 W) => Grow.cell' (Grow.trans hgw4 h) hE4.out
        have RY5 := fun (W : World) (h : Grow w4 W) => Grow.cell' (Grow.trans hgw4 h) hE5.out
        have RY6 := fun (W : World) (h : Grow w4 W) => Grow.cell' (Grow.trans hgw4 h) hE6.out
        have RY7 := fun (W : World) (h : Grow w4 W) => Grow.cell' (Grow.trans hgw4 h) hE7.out
        have RY8 := fun (W : World) (h : Grow w4 W) => Grow.cell' (Grow.trans hgw4 h) hE8.out
        refine wpR_call 3 rfl (by kernel_rfl) rfl fun K hK => ?_
        go_simp
        refine (HRf.out _ (hbx.out.grow hgw4)).mono ?_
        rintro r w5 ⟨rfl, hb5⟩
        refine hK.out _ _ (.inr (hb5)) ?_
        clear hK
        try simp only [Act.put, List.setIfInBounds_toArray, List.set_cons_zero, List.set_cons_succ]
        have hgw5 : Grow w1 w5 := Grow.trans hgw4 hb5
        clear Rq Fq RY0 RY1 RY2 RY3 RY4 RY5 RY6 RY7 RY8
        have Rq := fun (W : World) (h : Grow w5 W) => (hq0.out.grow (Grow.trans hgw5 h)).cell
        have Fq := fun (W : World) (h : Grow w5 W) => (hq0.out.grow (Grow.trans hgw5 h)).fz
        have RY0 := fun (W : World) (h : Grow w5 W) => Grow.cell' (Grow.trans hgw5 h) hE0.out
        have RY1 := fun (W : World) (h : Grow w5 W) => Grow.cell' (Grow.trans hgw5 h) hE1.out
        have RY2 := fun (W : World) (h : Grow w5 W) => Grow.cell' (Grow.trans hgw5 h) hE2.out
        have RY3 := fun (W : World) (h : Grow w5 W) => Grow.cell' (Grow.trans hgw5 h) hE3.out
        have RY4 := fun (W : World) (h : Grow w5 W) => Grow.cell' (Grow.trans hgw5 h) hE4.out
        have RY5 := fun (W : World) (h : Grow w5 W) => Grow.cell' (Grow.trans hgw5 h) hE5.out
        have RY6 := fun (W : World) (h : Grow w5 W) => Grow.cell' (Grow.trans hgw5 h) hE6.out
        have RY7 := fun (W : World) (h : Grow w5 W) => Grow.cell' (Grow.trans hgw5 h) hE7.out
        have RY8 := fun (W : World) (h : Grow w5 W) => Grow.cell' (Grow.trans hgw5 h) hE8.out
        refine wpR_take grow_rf grow_tr 4 rfl (by kernel_rfl) (fun _ _ _ h => h) rfl (v := ?_) ?_ ?_
        rotate_left
        · (intro w' hG; go_simp; try with_reducible rfl)
        try simp only [Act.put, List.setIfInBounds_toArray, List.set_cons_zero, List.set_cons_succ]
        refine wpR_take grow_rf grow_tr 5 rfl (by kernel_rfl) (fun _ _ _ h => h) rfl (v := ?_) ?_ ?_
        rotate_left
        · (intro w' hG; go_simp; try with_reducible rfl)
        try simp only [Act.put, List.setIfInBounds_toArray, List.set_cons_zero, List.set_cons_succ]
        refine wpR_take grow_rf grow_tr 6 rfl (by kernel_rfl) (fun _ _ _ h => h) rfl (v := ?_) ?_ ?_
        rotate_left
        · (intro w' hG; go_simp; try with_reducible rfl)
        try simp only [Act.put, List.setIfInBounds_toArray, List.set_cons_zero, List.set_cons_succ]
        refine wpR_take grow_rf grow_tr 7 rfl (by kernel_rfl) (fun _ _ _ h => h) rfl (v := ?_) ?_ ?_
        rotate_left
        · (intro w' hG; go_simp; try with_reducible rfl)
        try simp only [Act.put, List.setIfInBounds_toArray, List.set_cons_zero, List.set_cons_succ]
        refine wpR_call 8 rfl (by kernel_rfl) rfl fun K hK => ?_
        go_simp
        refine (HSs.out _ (hbx.out.grow hgw5)).mono ?_
        rintro r w6 ⟨rfl, hb6⟩
        refine hK.out _ _ (.inr (hb6)) ?_
        clear hK
        try simp only [Act.put, List.setIfInBounds_toArray, List.set_cons_zero, List.set_cons_succ]
        have hgw6 : Grow w1 w6 := Grow.trans hgw5 hb6
        clear Rq Fq RY0 RY1 RY2 RY3 RY4 RY5 RY6 RY7 RY8
        have Rq := fun (W : World) (h : Grow w6 W) => (hq0.out.grow (Grow.trans hgw6 h)).cell
        have Fq := fun (W : World) (h : Grow w6 W) => (hq0.out.grow (Grow.trans hgw6 h)).fz
        have RY0 := fun (W : World) (h : Grow w6 W) => Grow.cell' (Grow.trans hgw6 h) hE0.out
        have RY1 := fun (W : World) (h : Grow w6 W) => Grow.cell' (Grow.trans hgw6 h) hE1.out
        have RY2 := fun (W : World) (h : Grow w6 W) => Grow.cell' (Grow.trans hgw6 h) hE2.out
        have RY3 := fun (W : World) (h : Grow w6 W) => Grow.cell' (Grow.trans hgw6 h) hE3.out
        have RY4 := fun (W : World) (h : Grow w6 W) => Grow.cell' (Grow.trans hgw6 h) hE4.out
        have RY5 := fun (W : World) (h : Grow w6 W) => Grow.cell' (Grow.trans hgw6 h) hE5.out
        have RY6 := fun (W : World) (h : Grow w6 W) => Grow.cell' (Grow.trans hgw6 h) hE6.out
        have RY7 := fun (W : World) (h : Grow w6 W) => Grow.cell' (Grow.trans hgw6 h) hE7.out
        have RY8 := fun (W : World) (h : Grow w6 W) => Grow.cell' (Grow.trans hgw6 h) hE8.out
        refine wpR_take grow_rf grow_tr 9 rfl (by kernel_rfl) (fun _ _ _ h => h) rfl (v := ?_) ?_ ?_
        rotate_left
        · (intro w' hG; go_simp; try with_reducible rfl)
        try simp only [Act.put, List.setIfInBounds_toArray, List.set_cons_zero, List.set_cons_succ]
        refine wpR_take grow_rf grow_tr 10 rfl (by kernel_rfl) (fun _ _ _ h => h) rfl (v := ?_) ?_ ?_
        rotate_left
        · (intro w' hG; go_simp; try with_reducible rfl)
        try simp only [Act.put, List.setIfInBounds_toArray, List.set_cons_zero, List.set_cons_succ]
        refine wpR_take grow_rf grow_tr 11 rfl (by kernel_rfl) (fun _ _ _ h => h) rfl (v := ?_) ?_ ?_
        rotate_left
        · (intro w' hG; go_simp; try with_reducible rfl)
        try simp only [Act.put, List.setIfInBounds_toArray, List.set_cons_zero, List.set_cons_succ]
        refine wpR_take grow_rf grow_tr 12 rfl (by kernel_rfl) (fun _ _ _ h => h) rfl (v := ?_) ?_ ?_
        rotate_left
        · (intro w' hG; go_simp; try with_reducible rfl)
        try simp only [Act.put, List.setIfInBounds_toArray, List.set_cons_zero, List.set_cons_succ]
        refine wpR_take grow_rf grow_tr 13 rfl (by kernel_rfl) (fun _ _ _ h => h) rfl (v := ?_) ?_ ?_
        rotate_left
        · (intro w' hG; go_simp; try with_reducible rfl)
        try simp only [Act.put, List.setIfInBounds_toArray, List.set_cons_zero, List.set_cons_succ]
        refine wpR_take grow_rf grow_tr 14 rfl (by kernel_rfl) (fun _ _ _ h => h) rfl (v := ?_) ?_ ?_
        rotate_left
        · (intro w' hG; go_simp; try with_reducible rfl)
        try simp only [Act.put, List.setIfInBounds_toArray, List.set_cons_zero, List.set_cons_succ]
        refine wpR_take grow_rf grow_tr 15 rfl (by kernel_rfl) (fun _ _ _ h => h) rfl (v := ?_) ?_ ?_
        rotate_left
        · (intro w' hG; go_simp; try with_reducible rfl)
        try simp only [Act.put, List.setIfInBounds_toArray, List.set_cons_zero, List.set_cons_succ]
        refine wpR_take grow_rf grow_tr 16 rfl (by kernel_rfl) (fun _ _ _ h => h) rfl (v := ?_) ?_ ?_
        rotate_left
        · (intro w' hG; go_simp; try with_reducible rfl)
        try simp only [Act.put, List.setIfInBounds_toArray, List.set_cons_zero, List.set_cons_succ]
        refine wpR_take grow_rf grow_tr 17 rfl (by kernel_rfl) (fun _ _ _ h => h) rfl (v := ?_) ?_ ?_
        rotate_left
        · (intro w' hG; go_simp; try with_reducible rfl)
        try simp only [Act.put, List.setIfInBounds_toArray, List.set_cons_zero, List.set_cons_succ]
        refine wpR_take grow_rf grow_tr 18 rfl (by kernel_rfl) (fun _ _ _ h => h) rfl (v := ?_) ?_ ?_
        rotate_left
        · (intro w' hG; go_simp; try with_reducible rfl)
        try simp only [Act.put, List.setIfInBounds_toArray, List.set_cons_zero, List.set_cons_succ]
        refine wpR_take grow_rf grow_tr 19 rfl (by kernel_rfl) (fun _ _ _ h => h) rfl (v := ?_) ?_ ?_
        rotate_left
        · (intro w' hG; go_simp; try with_reducible rfl)
        try simp only [Act.put, List.setIfInBounds_toArray, List.set_cons_zero, List.set_cons_succ]
        refine wpR_take grow_rf grow_tr 20 rfl (by kernel_rfl) (fun _ _ _ h => h) rfl (v := ?_) ?_ ?_
        rotate_left
        · (intro w' hG; go_simp; try with_reducible rfl)
        try simp only [Act.put, List.setIfInBounds_toArray, List.set_cons_zero, List.set_cons_succ]
        refine wpR_take grow_rf grow_tr 22 rfl (by kernel_rfl) (fun _ _ _ h => h) rfl (v := ?_) ?_ ?_
        rotate_left
        · (intro w' hG; go_simp; try with_reducible rfl)
        try simp only [Act.put, List.setIfInBounds_toArray, List.set_cons_zero, List.set_cons_succ]
        refine wpR_take grow_rf grow_tr 23 rfl (by kernel_rfl) (fun _ _ _ h => h) rfl (v := ?_) ?_ ?_
        rotate_left
        · (intro w' hG; go_simp; try with_reducible rfl)
        try simp only [Act.put, List.setIfInBounds_toArray, List.set_cons_zero, List.set_cons_succ]
        refine wpR_take grow_rf grow_tr 24 rfl (by kernel_rfl) (fun _ _ _ h => h) rfl (v := ?_) ?_ ?_
        rotate_left
        · (intro w' hG; go_simp; try with_reducible rfl)
        try simp only [Act.put, List.setIfInBounds_toArray, List.set_cons_zero, List.set_cons_succ]
        refine wpR_take grow_rf grow_tr 25 rfl (by kernel_rfl) (fun _ _ _ h => h) rfl (v := ?_) ?_ ?_
        rotate_left
        · (intro w' hG; go_simp; try with_reducible rfl)
        try simp only [Act.put, List.setIfInBounds_toArray, List.set_cons_zero, List.set_cons_succ]
        refine wpR_take grow_rf grow_tr 26 rfl (by kernel_rfl) (fun _ _ _ h => h) rfl (v := ?_) ?_ ?_
        rotate_left
        · (intro w' hG; go_simp; try with_reducible rfl)
        try simp only [Act.put, List.setIfInBounds_toArray, List.set_cons_zero, List.set_cons_succ]
        refine wpR_take grow_rf grow_tr 27 rfl (by kernel_rfl) (fun _ _ _ h => h) rfl (v := ?_) ?_ ?_
        rotate_left
        · (intro w' hG; go_simp; try with_reducible rfl)
        try simp only [Act.put, List.setIfInBounds_toArray, List.set_cons_zero, List.set_cons_succ]
        refine wpR_call 21 rfl (by kernel_rfl) rfl fun K hK => ?_
        go_simp
        refine (HSy.out _ (hbx.out.grow hgw6) (hby.out.grow hgw6)).mono ?_
        rintro r w7 ⟨rfl, hb7⟩
        refine hK.out _ _ (.inr (hb7)) ?_
        clear hK
        try simp only [Act.put, List.setIfInBounds_toArray, List.set_cons_zero, List.set_cons_succ]
        have hgw7 : Grow w1 w7 := Grow.trans hgw6 hb7
        clear Rq Fq RY0 RY1 RY2 RY3 RY4 RY5 RY6 RY7 RY8
        have Rq := fun (W : World) (h : Grow w7 W) => (hq0.out.grow (Grow.trans hgw7 h)).cell
        have Fq := fun (W : World) (h : Grow w7 W) => (hq0.out.grow (Grow.trans hgw7 h)).fz
        have RY0 := fun (W : World) (h : Grow w7 W) => Grow.cell' (Grow.trans hgw7 h) hE0.out
        have RY1 := fun (W : World) (h : Grow w7 W) => Grow.cell' (Grow.trans hgw7 h) hE1.out
        have RY2 := fun (W : World) (h : Grow w7 W) => Grow.cell' (Grow.trans hgw7 h) hE2.out
        have RY3 := fun (W : World) (h : Grow w7 W) => Grow.cell' (Grow.trans hgw7 h) hE3.out
        have RY4 := fun (W : World) (h : Grow w7 W) => Grow.cell' (Grow.trans hgw7 h) hE4.out
        have RY5 := fun (W : World) (h : Grow w7 W) => Grow.cell' (Grow.trans hgw7 h) hE5.out
        have RY6 := fun (W : World) (h : Grow w7 W) => Grow.cell' (Grow.trans hgw7 h) hE6.out
        have RY7 := fun (W : World) (h : Grow w7 W) => Grow.cell' (Grow.trans hgw7 h) hE7.out
        have RY8 := fun (W : World) (h : Grow w7 W) => Grow.cell' (Grow.trans hgw7 h) hE8.out
        refine wpR_call 28 rfl (by kernel_rfl) rfl fun K hK => ?_
        go_simp
        refine (HRy.out _ (hbx.out.grow hgw7) (hby.out.grow hgw7)).mono ?_
        rintro r w8 ⟨rfl, hb8⟩
        refine hK.out _ _ (.inr (hb8)) ?_
        clear hK
        try simp only [Act.put, List.setIfInBounds_toArray, List.set_cons_zero, List.set_cons_succ]
        have hgw8 : Grow w1 w8 := Grow.trans hgw7 hb8
        clear Rq Fq RY0 RY1 RY2 RY3 RY4 RY5 RY6 RY7 RY8
        have Rq := fun (W : World) (h : Grow w8 W) => (hq0.out.grow (Grow.trans hgw8 h)).cell
        have Fq := fun (W : World) (h : Grow w8 W) => (hq0.out.grow (Grow.trans hgw8 h)).fz
        have RY0 := fun (W : World) (h : Grow w8 W) => Grow.cell' (Grow.trans hgw8 h) hE0.out
        have RY1 := fun (W : World) (h : Grow w8 W) => Grow.cell' (Grow.trans hgw8 h) hE1.out
        have RY2 := fun (W : World) (h : Grow w8 W) => Grow.cell' (Grow.trans hgw8 h) hE2.out
        have RY3 := fun (W : World) (h : Grow w8 W) => Grow.cell' (Grow.trans hgw8 h) hE3.out
        have RY4 := fun (W : World) (h : Grow w8 W) => Grow.cell' (Grow.trans hgw8 h) hE4.out
        have RY5 := fun (W : World) (h : Grow w8 W) => Grow.cell' (Grow.trans hgw8 h) hE5.out
        have RY6 := fun (W : World) (h : Grow w8 W) => Grow.cell' (Grow.trans hgw8 h) hE6.out
        have RY7 := fun (W : World) (h : Grow w8 W) => Grow.cell' (Grow.trans hgw8 h) hE7.out
        have RY8 := fun (W : World) (h : Grow w8 W) => Grow.cell' (Grow.trans hgw8 h) hE8.out
        refine wpR_take grow_rf grow_tr 29 rfl (by kernel_rfl) (fun _ _ _ h => h) rfl (v := ?_) ?_ ?_
        rotate_left
        · (intro w' hG; go_simp; try with_reducible rfl)
        try simp only [Act.put, List.setIfInBounds_toArray, List.set_cons_zero, List.set_cons_succ]
        refine wpR_take grow_rf grow_tr 30 rfl (by kernel_rfl) (fun _ _ _ h => h) rfl (v := ?_) ?_ ?_
        rotate_left
        · (intro w' hG; go_simp; try with_reducible rfl)
        try simp only [Act.put, List.setIfInBounds_toArray, List.set_cons_zero, List.set_cons_succ]
        refine wpR_take grow_rf grow_tr 31 rfl (by kernel_rfl) (fun _ _ _ h => h) rfl (v := ?_) ?_ ?_
        rotate_left
        · (intro w' hG; go_simp; try with_reducible rfl)
        try simp only [Act.put, List.setIfInBounds_toArray, List.set_cons_zero, List.set_cons_succ]
        refine wpR_done (by kernel_rfl) ?_ _
        clear Rq Fq hkpi hkw hkm RY0 RY1 RY2 RY3 RY4 RY5 RY6 RY7 RY8
        obtain ⟨cq, fq, lq⟩ := (hq0.out.grow hgw8).rules
        by_cases hkk : x.p.kind = 1
        · have hkb : (x.p.kind == 1) = true := by simpa using hkk
          have hkq := hide hkk
          clear hkk
          go_wp2_with fail
          refine (HRf.out _ (hbx.out.grow hgw8)).mono ?_
          rintro r w9 ⟨rfl, hb9⟩
          have hgw9 : Grow w1 w9 := Grow.trans hgw8 hb9
          clear cq fq lq
          obtain ⟨cq, fq, lq⟩ := (hq0.out.grow hgw9).rules
          have hgend := Grow.trans hgw hgw9
          cases bg with
          | false =>
            have hS2 : Hid (S = tickOf (L.take (k + 1))) := hide (by rw [HS.out]; unfold tickAdd; rw [hkb, hgb.out]; rfl)
            go_wp2
            go_roundw
            case rel => exact ⟨k + 1, S, by omega, by go_num, rfl, hS2, hgend⟩
            case measure => simp [intOf]; omega
          | true =>
            have hn := tick_n x.p x.l hgb.out hkq.out
            have hS2 : Hid (S + x.p.n = tickOf (L.take (k + 1))) := hide (by rw [HS.out]; unfold tickAdd; rw [hkb, hgb.out]; rfl)
            go_wp2
            go_roundw
            case rel => exact ⟨k + 1, S + x.p.n, by omega, by go_num, by go_num, hS2, hgend⟩
            case measure => simp [intOf]; omega
        · have hkb : (x.p.kind == 1) = false := by simpa using hkk
          have hS2 : Hid (S = tickOf (L.take (k + 1))) := hide (by rw [HS.out]; unfold tickAdd; rw [hkb]; rfl)
          have hgend := Grow.trans hgw hgw8
          clear hkk
          go_wp2
          go_roundw
          case rel => exact ⟨k + 1, S, by omega, by go_num, rfl, hS2, hgend⟩
          case measure => simp [intOf]; omega
    · obtain rfl : k = L.length := by omega
      have hSS : Hid (tickOf L = S) := hide (by rw [hS.out, List.take_length])
      have hgr0 := Grow.trans hg0 hgr
      have ha := hi.out.grow hgr
      have HT := hide (ticks_any A L c wr ha (by omega))
      rw [hSS.out] at HT
      clear hlt
      go_wp2_with fail
      refine HT.out.mono ?_
      rintro r w2 ⟨rfl, hg2⟩
      have ha2 := ha.grow hg2
      have HC := hide (crashes_any A L c w2 ha2 (by omega))
      have HR := hide (fun W h => refcrashes_any A L c W h (by omega))
      generalize crashOf L = C at *
      go_wp2_with fail
      refine HC.out.mono ?_
      rintro r w3 ⟨rfl, hg3⟩
      go_wp2_with fail
      refine (HR.out _ (ha2.grow hg3)).mono ?_
      rintro r w4 ⟨rfl, hg4⟩
      go_wp2_with fail
      refine (works46_any _).mono ?_
      rintro r w5 ⟨rfl, hg5⟩
      go_wp2
      go_ret
      exact ⟨rfl, Grow.trans (Grow.trans (Grow.trans (Grow.trans hgr0 hg2) hg3) hg4) hg5⟩
end Go.Proofs.Ytcghgahohmabnaa
