/- The walk of script.get (kinds that are wrong, 1, 2, 3, 6). -/
import Derived.Test.YtcghgahohmabnaaSc8
namespace Go.Proofs.Ytcghgahohmabnaa
open Go.RowKit
theorem agFin_if (p : ActP) (l r : List UInt8) (e : Int) : agFin p l (r, e) = if e ≠ 0 then ((noA, []), [], e) else if actB p l = false then ((noA, []), [], 2) else ((p, l), r, 0) := rfl
theorem rbyte_len {b r : List UInt8} {x : Nat} {e : Int} (h : rbyte (b, 0) = (x, r, e)) : r.length ≤ b.length := by
  have h1 := Buf.getFixed_len b 1
  have h2 : rbyte (b, 0) = Buf.getFixed b 1 := rfl
  rw [← h2, h] at h1
  exact h1
set_option maxRecDepth 100000 in
set_option maxHeartbeats 2000000 in
theorem aget_err (N pr : Nat) (b : List UInt8) (w : World) (h : Rd w N pr (b, 0)) (_hbl : b.length ≤ 1000000000000) (x1 : Nat) (r1 : List UInt8) (e1 : Int) (hT1 : rbyte (b, 0) = (x1, r1, e1)) (he : e1 ≠ 0) :
    Calls Try.prog 120 #[.pointer (some ⟨pr, 0, none⟩)] w fun r w' => GotA w w' r N pr (ag b) := by
  have hpr : pr < w.heap.size := Nat.lt_of_lt_of_le h.lt h.size
  have hN := h.size
  have HF := hide (fun W h => rbyte_any N pr (b, 0) W h)
  have hx1 := rbyte_lt (b, 0)
  have HP := hide (ag_err hT1 he)
  have hE := hide (fun W h => err_any N pr (r1, e1) W h)
  rw [hT1] at HF hx1
  generalize ag b = Q at *
  clear hT1
  dsimp only at *
  have hne := hide he
  have he' : (e1 != 0) = true := by simpa using he
  clear he
  go_enter Try.func120, Try.ntmps120
  go_wp2_with fail
  refine (HF.out _ (h.grow ((Grow.refl w).alloc _))).mono ?_
  rintro r w1 ⟨rfl, hr1, hb1⟩
  obtain ⟨p0, hg1⟩ := peelK1 hb1 (by simp; omega)
  have p0_ := hide p0
  clear p0
  have p0 := p0_
  clear p0_
  have HK1 := hide (show Kept w.heap.size [pr] w w1 from hg1)
  have hsz1 : w.heap.size ≤ w1.heap.size := HK1.out.size
  have hq1 : w.heap.size ≤ w1.heap.size := hg1.size
  have HS1 := hide hg1
  clear hb1 hg1
  obtain ⟨cp0, fp0, lp0⟩ := (show Box w1 _ _ from p0.out).rules
  have hw01 := lp0
  go_wp2_with fail
  generalize hW2 : World.alloc w1 _ = w2
  have hb2 := Grow.of_eq hW2
  clear hW2
  have hr2 := hr1.grow (Grow.trans ((Grow.refl _).alloc _) hb2)
  clear hr1
  clear cp0 fp0 lp0
  obtain ⟨q0, hg2'⟩ := peel1 hb2
  have hg2 := Kept.of_below hg2' [pr]
  clear hg2'
  have p0_ := hide ((show Box w1 _ _ from p0.out).kept hg2 (by simp; omega))
  clear p0
  have p0 := p0_
  clear p0_
  have q0_ := hide q0
  clear q0
  have q0 := q0_
  clear q0_
  have HK2 := hide (Kept.at_ (show Kept w.heap.size [pr] w w1 from HK1.out) hg2)
  clear HK1
  have hsz2 : w.heap.size ≤ w2.heap.size := HK2.out.size
  have hq2 : w1.heap.size ≤ w2.heap.size := hg2.size
  have HS2 := hide hg2
  clear hb2 hg2
  obtain ⟨cp0, fp0, lp0⟩ := (show Box w2 _ _ from p0.out).rules
  obtain ⟨cq0, fq0, lq0⟩ := (show Box w2 _ _ from q0.out).rules
  have hw12 := lq0
  refine (hE.out _ hr2).mono ?_
  rintro r w' ⟨rfl, rfl⟩
  go_wp2
  refine bodyPost_ret (v := .tuple #[av ⟨(x1 : Int), 0, 0, zF⟩ none 0 0, .int .i64 e1]) (by simp [results, Try.results120, go_sem, cp0]) rfl ?_
  rw [HP.out]
  refine ⟨⟨_, _, _, _, rfl, fun h => absurd h hne.out⟩, ?_⟩
  repeat (first | (with_reducible refine Kept.setCell ?_ (.inl (by simp; try omega)) _) | (with_reducible refine Kept.at_ ?_ (Kept.of_below (Below.alloc (Below.refl _ _) (Nat.le_refl _) _) [pr])))
  exact HK2.out
set_option maxRecDepth 100000 in
set_option maxHeartbeats 2000000 in
theorem aget_kind (N pr : Nat) (b : List UInt8) (w : World) (h : Rd w N pr (b, 0)) (_hbl : b.length ≤ 1000000000000) (x1 : Nat) (r1 : List UInt8) (e1 : Int) (hT1 : rbyte (b, 0) = (x1, r1, e1)) (he : e1 = 0) (hk : x1 < 1 ∨ 8 < x1) :
    Calls Try.prog 120 #[.pointer (some ⟨pr, 0, none⟩)] w fun r w' => GotA w w' r N pr (ag b) := by
  have hpr : pr < w.heap.size := Nat.lt_of_lt_of_le h.lt h.size
  have hN := h.size
  have HF := hide (fun W h => rbyte_any N pr (b, 0) W h)
  have hx1 := rbyte_lt (b, 0)
  subst he
  have HP := hide (ag_kind hT1 hk)
  have hE := hide (fun W h => err_any N pr (r1, 0) W h)
  rw [hT1] at HF hx1
  generalize ag b = Q at *
  clear hT1
  dsimp only at *
  go_enter Try.func120, Try.ntmps120
  go_wp2_with fail
  refine (HF.out _ (h.grow ((Grow.refl w).alloc _))).mono ?_
  rintro r w1 ⟨rfl, hr1, hb1⟩
  obtain ⟨p0, hg1⟩ := peelK1 hb1 (by simp; omega)
  have p0_ := hide p0
  clear p0
  have p0 := p0_
  clear p0_
  have HK1 := hide (show Kept w.heap.size [pr] w w1 from hg1)
  have hsz1 : w.heap.size ≤ w1.heap.size := HK1.out.size
  have hq1 : w.heap.size ≤ w1.heap.size := hg1.size
  have HS1 := hide hg1
  clear hb1 hg1
  obtain ⟨cp0, fp0, lp0⟩ := (show Box w1 _ _ from p0.out).rules
  have hw01 := lp0
  go_wp2_with fail
  generalize hW2 : World.alloc w1 _ = w2
  have hb2 := Grow.of_eq hW2
  clear hW2
  have hr2 := hr1.grow (Grow.trans ((Grow.refl _).alloc _) hb2)
  clear hr1
  clear cp0 fp0 lp0
  obtain ⟨q0, hg2'⟩ := peel1 hb2
  have hg2 := Kept.of_below hg2' [pr]
  clear hg2'
  have p0_ := hide ((show Box w1 _ _ from p0.out).kept hg2 (by simp; omega))
  clear p0
  have p0 := p0_
  clear p0_
  have q0_ := hide q0
  clear q0
  have q0 := q0_
  clear q0_
  have HK2 := hide (Kept.at_ (show Kept w.heap.size [pr] w w1 from HK1.out) hg2)
  clear HK1
  have hsz2 : w.heap.size ≤ w2.heap.size := HK2.out.size
  have hq2 : w1.heap.size ≤ w2.heap.size := hg2.size
  have HS2 := hide hg2
  clear hb2 hg2
  obtain ⟨cp0, fp0, lp0⟩ := (show Box w2 _ _ from p0.out).rules
  obtain ⟨cq0, fq0, lq0⟩ := (show Box w2 _ _ from q0.out).rules
  have hw12 := lq0
  refine (hE.out _ hr2).mono ?_
  rintro r w' ⟨rfl, rfl⟩
  rcases hk with hk | hk
  · have hki : (x1 : Int) < 1 := by omega
    go_wp2
    refine bodyPost_ret (v := .tuple #[av ⟨(x1 : Int), 0, 0, zF⟩ none 0 0, .int .i64 7]) (by simp [results, Try.results120, go_sem, cp0]) rfl ?_
    rw [HP.out]
    refine ⟨⟨_, _, _, _, rfl, fun h => absurd h (by simp)⟩, ?_⟩
    repeat (first | (with_reducible refine Kept.setCell ?_ (.inl (by simp; try omega)) _) | (with_reducible refine Kept.at_ ?_ (Kept.of_below (Below.alloc (Below.refl _ _) (Nat.le_refl _) _) [pr])))
    exact HK2.out
  · have hki : (8 : Int) < (x1 : Int) := by omega
    have hkj : ¬ ((x1 : Int) < 1) := by omega
    go_wp2
    refine bodyPost_ret (v := .tuple #[av ⟨(x1 : Int), 0, 0, zF⟩ none 0 0, .int .i64 7]) (by simp [results, Try.results120, go_sem, cp0]) rfl ?_
    rw [HP.out]
    refine ⟨⟨_, _, _, _, rfl, fun h => absurd h (by simp)⟩, ?_⟩
    repeat (first | (with_reducible refine Kept.setCell ?_ (.inl (by simp; try omega)) _) | (with_reducible refine Kept.at_ ?_ (Kept.of_below (Below.alloc (Below.refl _ _) (Nat.le_refl _) _) [pr])))
    exact HK2.out
set_option maxRecDepth 100000 in
set_option maxHeartbeats 2000000 in
theorem aget_3 (N pr : Nat) (b : List UInt8) (w : World) (h : Rd w N pr (b, 0)) (_hbl : b.length ≤ 1000000000000) (x1 : Nat) (r1 : List UInt8) (e1 : Int) (hT1 : rbyte (b, 0) = (x1, r1, e1)) (hk : x1 = 3) (he : e1 = 0) :
    Calls Try.prog 120 #[.pointer (some ⟨pr, 0, none⟩)] w fun r w' => GotA w w' r N pr (ag b) := by
  have hpr : pr < w.heap.size := Nat.lt_of_lt_of_le h.lt h.size
  have hN := h.size
  have HF := hide (fun W h => rbyte_any N pr (b, 0) W h)
  have hx1 := rbyte_lt (b, 0)
  subst hk he
  have HP := hide (ag_3 hT1)
  have hE := hide (fun W h => err_any N pr (r1, 0) W h)
  have hF := hide (fun W h => fget_any N pr r1 W h)
  rw [hT1] at HF hx1
  generalize ag b = Q at *
  generalize fg r1 = T at *
  obtain ⟨f, rest, e⟩ := T
  clear hT1
  dsimp only at *
  go_enter Try.func120, Try.ntmps120
  go_wp2_with fail
  refine (HF.out _ (h.grow ((Grow.refl w).alloc _))).mono ?_
  rintro r w1 ⟨rfl, hr1, hb1⟩
  obtain ⟨p0, hg1⟩ := peelK1 hb1 (by simp; omega)
  have p0_ := hide p0
  clear p0
  have p0 := p0_
  clear p0_
  have HK1 := hide (show Kept w.heap.size [pr] w w1 from hg1)
  have hsz1 : w.heap.size ≤ w1.heap.size := HK1.out.size
  have hq1 : w.heap.size ≤ w1.heap.size := hg1.size
  have HS1 := hide hg1
  clear hb1 hg1
  obtain ⟨cp0, fp0, lp0⟩ := (show Box w1 _ _ from p0.out).rules
  have hw01 := lp0
  go_wp2_with fail
  generalize hW2 : World.alloc w1 _ = w2
  have hb2 := Grow.of_eq hW2
  clear hW2
  have hr2 := hr1.grow (Grow.trans ((Grow.refl _).alloc _) hb2)
  clear hr1
  clear cp0 fp0 lp0
  obtain ⟨q0, hg2'⟩ := peel1 hb2
  have hg2 := Kept.of_below hg2' [pr]
  clear hg2'
  have p0_ := hide ((show Box w1 _ _ from p0.out).kept hg2 (by simp; omega))
  clear p0
  have p0 := p0_
  clear p0_
  have q0_ := hide q0
  clear q0
  have q0 := q0_
  clear q0_
  have HK2 := hide (Kept.at_ (show Kept w.heap.size [pr] w w1 from HK1.out) hg2)
  clear HK1
  have hsz2 : w.heap.size ≤ w2.heap.size := HK2.out.size
  have hq2 : w1.heap.size ≤ w2.heap.size := hg2.size
  have HS2 := hide hg2
  clear hb2 hg2
  obtain ⟨cp0, fp0, lp0⟩ := (show Box w2 _ _ from p0.out).rules
  obtain ⟨cq0, fq0, lq0⟩ := (show Box w2 _ _ from q0.out).rules
  have hw12 := lq0
  refine (hE.out _ hr2).mono ?_
  rintro r w' ⟨rfl, rfl⟩
  go_wp2_with fail
  refine (hF.out _ hr2).mono ?_
  rintro r w3 ⟨rfl, hr3, hb3⟩
  clear hr2
  clear cp0 fp0 lp0 cq0 fq0 lq0
  have hg3 := hb3
  have p0_ := hide ((show Box w2 _ _ from p0.out).kept hg3 (by simp; omega))
  clear p0
  have p0 := p0_
  clear p0_
  have q0_ := hide ((show Box w2 _ _ from q0.out).kept hg3 (by simp; omega))
  clear q0
  have q0 := q0_
  clear q0_
  have HK3 := hide (Kept.at_ (show Kept w.heap.size [pr] w w2 from HK2.out) hg3)
  clear HK2
  have hsz3 : w.heap.size ≤ w3.heap.size := HK3.out.size
  have hq3 : w2.heap.size ≤ w3.heap.size := hg3.size
  have HS3 := hide hg3
  clear hb3 hg3
  obtain ⟨cp0, fp0, lp0⟩ := (show Box w3 _ _ from p0.out).rules
  obtain ⟨cq0, fq0, lq0⟩ := (show Box w3 _ _ from q0.out).rules
  go_wp2
  refine bodyPost_ret (v := .tuple #[av ⟨3, 0, 0, f⟩ none 0 0, .int .i64 e]) (by simp [results, Try.results120, go_sem, cp0, lp0]) rfl ?_
  rw [HP.out]
  by_cases he : e = 0
  · subst he
    rw [if_neg (by simp)]
    refine ⟨⟨_, none, 0, 0, rfl, fun _ => ⟨rfl, rfl, Nat.le_refl _, Bytes.nil _ _, fun h => absurd rfl h, ?_⟩⟩, ?_⟩
    · repeat (first | (with_reducible refine Rd.setOther ?_ (by simp; omega) _) | (with_reducible refine Rd.grow ?_ ((Grow.refl _).alloc _)))
      exact hr3 rfl
    · repeat (first | (with_reducible refine Kept.setCell ?_ (.inl (by simp; try omega)) _) | (with_reducible refine Kept.at_ ?_ (Kept.of_below (Below.alloc (Below.refl _ _) (Nat.le_refl _) _) [pr])))
      exact HK3.out
  · rw [if_pos he]
    refine ⟨⟨_, _, _, _, rfl, fun h => absurd h he⟩, ?_⟩
    repeat (first | (with_reducible refine Kept.setCell ?_ (.inl (by simp; try omega)) _) | (with_reducible refine Kept.at_ ?_ (Kept.of_below (Below.alloc (Below.refl _ _) (Nat.le_refl _) _) [pr])))
    exact HK3.out
set_option maxRecDepth 100000 in
set_option maxHeartbeats 2000000 in
theorem aget_1 (N pr : Nat) (b : List UInt8) (w : World) (h : Rd w N pr (b, 0)) (_hbl : b.length ≤ 1000000000000) (x1 : Nat) (r1 : List UInt8) (e1 : Int) (hT1 : rbyte (b, 0) = (x1, r1, e1)) (hk : x1 = 1) (he : e1 = 0) (x2 : Nat) (r2 : List UInt8) (e2 : Int) (hT2 : rbyte (r1, 0) = (x2, r2, e2)) :
    Calls Try.prog 120 #[.pointer (some ⟨pr, 0, none⟩)] w fun r w' => GotA w w' r N pr (ag b) := by
  have hpr : pr < w.heap.size := Nat.lt_of_lt_of_le h.lt h.size
  have hN := h.size
  have HF := hide (fun W h => rbyte_any N pr (b, 0) W h)
  have hx1 := rbyte_lt (b, 0)
  subst hk he
  have HP := hide ((ag_1 hT1 hT2).trans (agFin_if _ _ _ _))
  have HG := hide (fun A c W h hn => agood_any ⟨1, 0, (x2 : Int), zF⟩ A [] c W h hn)
  have hE := hide (fun W h => err_any N pr (r1, 0) W h)
  have hEe := hide (fun W h => err_any N pr (r2, e2) W h)
  have HRx2 := hide (fun W h => rbyte_any N pr (r1, 0) W h)
  have hlx2 := rbyte_lt (r1, 0)
  rw [hT2] at HRx2 hlx2
  clear hT2
  rw [hT1] at HF hx1
  generalize actB _ _ = g at *
  generalize ag b = Q at *
  clear hT1
  dsimp only at *
  go_enter Try.func120, Try.ntmps120
  go_wp2_with fail
  refine (HF.out _ (h.grow ((Grow.refl w).alloc _))).mono ?_
  rintro r w1 ⟨rfl, hr1, hb1⟩
  obtain ⟨p0, hg1⟩ := peelK1 hb1 (by simp; omega)
  have p0_ := hide p0
  clear p0
  have p0 := p0_
  clear p0_
  have HK1 := hide (show Kept w.heap.size [pr] w w1 from hg1)
  have hsz1 : w.heap.size ≤ w1.heap.size := HK1.out.size
  have hq1 : w.heap.size ≤ w1.heap.size := hg1.size
  have HS1 := hide hg1
  clear hb1 hg1
  obtain ⟨cp0, fp0, lp0⟩ := (show Box w1 _ _ from p0.out).rules
  have hw01 := lp0
  go_wp2_with fail
  generalize hW2 : World.alloc w1 _ = w2
  have hb2 := Grow.of_eq hW2
  clear hW2
  have hr2 := hr1.grow (Grow.trans ((Grow.refl _).alloc _) hb2)
  clear hr1
  clear cp0 fp0 lp0
  obtain ⟨q0, hg2'⟩ := peel1 hb2
  have hg2 := Kept.of_below hg2' [pr]
  clear hg2'
  have p0_ := hide ((show Box w1 _ _ from p0.out).kept hg2 (by simp; omega))
  clear p0
  have p0 := p0_
  clear p0_
  have q0_ := hide q0
  clear q0
  have q0 := q0_
  clear q0_
  have HK2 := hide (Kept.at_ (show Kept w.heap.size [pr] w w1 from HK1.out) hg2)
  clear HK1
  have hsz2 : w.heap.size ≤ w2.heap.size := HK2.out.size
  have hq2 : w1.heap.size ≤ w2.heap.size := hg2.size
  have HS2 := hide hg2
  clear hb2 hg2
  obtain ⟨cp0, fp0, lp0⟩ := (show Box w2 _ _ from p0.out).rules
  obtain ⟨cq0, fq0, lq0⟩ := (show Box w2 _ _ from q0.out).rules
  have hw12 := lq0
  refine (hE.out _ hr2).mono ?_
  rintro r w' ⟨rfl, rfl⟩
  go_wp2_with fail
  refine (HRx2.out _ hr2).mono ?_
  rintro r w3 ⟨rfl, hr3, hb3⟩
  clear hr2
  clear cp0 fp0 lp0 cq0 fq0 lq0
  have hg3 := hb3
  have p0_ := hide ((show Box w2 _ _ from p0.out).kept hg3 (by simp; omega))
  clear p0
  have p0 := p0_
  clear p0_
  have q0_ := hide ((show Box w2 _ _ from q0.out).kept hg3 (by simp; omega))
  clear q0
  have q0 := q0_
  clear q0_
  have HK3 := hide (Kept.at_ (show Kept w.heap.size [pr] w w2 from HK2.out) hg3)
  clear HK2
  have hsz3 : w.heap.size ≤ w3.heap.size := HK3.out.size
  have hq3 : w2.heap.size ≤ w3.heap.size := hg3.size
  have HS3 := hide hg3
  clear hb3 hg3
  obtain ⟨cp0, fp0, lp0⟩ := (show Box w3 _ _ from p0.out).rules
  obtain ⟨cq0, fq0, lq0⟩ := (show Box w3 _ _ from q0.out).rules
  go_wp2_with fail
  clear cp0 fp0 lp0 cq0 fq0 lq0
  generalize hW4 : World.setCell w3 _ _ = w4
  have n4 := Box.store1 (show Box w3 _ _ from q0.out) hW4
  simp only [List.setIfInBounds_toArray, List.set_cons_zero, List.set_cons_succ] at n4
  have p0_ := hide (Box.keep_ne (show Box w3 _ _ from p0.out) hW4 (by simp <;> omega))
  clear p0
  have p0 := p0_
  clear p0_
  have hr3 := Rd.store1 hr3 hW4 (by simp <;> omega)
  have HK4 := hide (Kept.store1 (show Kept w.heap.size [pr] w w3 from HK3.out) hW4 (by simp <;> omega))
  clear HK3
  have hsz4 : w.heap.size ≤ w4.heap.size := HK4.out.size
  have hq4 : w3.heap.size ≤ w4.heap.size := by rw [← hW4]; simp [World.setCell]
  clear hW4
  have q0_ := hide n4
  clear n4 q0
  have q0 := q0_
  clear q0_
  obtain ⟨cp0, fp0, lp0⟩ := (show Box w4 _ _ from p0.out).rules
  obtain ⟨cq0, fq0, lq0⟩ := (show Box w4 _ _ from q0.out).rules
  refine (hEe.out _ hr3).mono ?_
  rintro r w' ⟨rfl, rfl⟩
  by_cases he : e2 = 0
  rotate_left
  · have hne := hide he
    have he' : (e2 != 0) = true := by simpa using he
    have HP := hide (HP.out.trans (if_pos he))
    clear he
    go_wp2
    refine bodyPost_ret (v := .tuple #[av ⟨1, 0, (x2 : Int), zF⟩ none 0 0, .int .i64 e2]) (by simp [results, Try.results120, go_sem, cp0]) rfl ?_
    rw [HP.out]
    refine ⟨⟨_, _, _, _, rfl, fun h => absurd h hne.out⟩, ?_⟩
    repeat (first | (with_reducible refine Kept.setCell ?_ (.inl (by simp; try omega)) _) | (with_reducible refine Kept.at_ ?_ (Kept.of_below (Below.alloc (Below.refl _ _) (Nat.le_refl _) _) [pr])))
    exact HK4.out
  subst he
  have HP := hide (HP.out.trans (if_neg (by simp)))
  go_wp2_with fail
  refine (HG.out _ _ _ (Bytes.nil _ _) (by decide)).mono ?_
  rintro r w5 ⟨rfl, hb5⟩
  have hr5 := hr3.grow hb5
  clear hr3
  clear cp0 fp0 lp0 cq0 fq0 lq0
  have hg5 := Kept.of_below hb5 [pr]
  have p0_ := hide ((show Box w4 _ _ from p0.out).kept hg5 (by simp; omega))
  clear p0
  have p0 := p0_
  clear p0_
  have q0_ := hide ((show Box w4 _ _ from q0.out).kept hg5 (by simp; omega))
  clear q0
  have q0 := q0_
  clear q0_
  have HK5 := hide (Kept.at_ (show Kept w.heap.size [pr] w w4 from HK4.out) hg5)
  clear HK4
  have hsz5 : w.heap.size ≤ w5.heap.size := HK5.out.size
  have hq5 : w4.heap.size ≤ w5.heap.size := hg5.size
  have HS5 := hide hg5
  clear hb5 hg5
  obtain ⟨cp0, fp0, lp0⟩ := (show Box w5 _ _ from p0.out).rules
  obtain ⟨cq0, fq0, lq0⟩ := (show Box w5 _ _ from q0.out).rules
  cases g with
  | false =>
      have HP := hide (HP.out.trans (if_pos rfl))
      go_wp2
      refine bodyPost_ret (v := .tuple #[av ⟨1, 0, (x2 : Int), zF⟩ none 0 0, .int .i64 2]) (by simp [results, Try.results120, go_sem, cp0]) rfl ?_
      rw [HP.out]
      refine ⟨⟨_, _, _, _, rfl, fun h => absurd h (by simp)⟩, ?_⟩
      repeat (first | (with_reducible refine Kept.setCell ?_ (.inl (by simp; try omega)) _) | (with_reducible refine Kept.at_ ?_ (Kept.of_below (Below.alloc (Below.refl _ _) (Nat.le_refl _) _) [pr])))
      exact HK5.out
  | true =>
      have HP := hide (HP.out.trans (if_neg (by decide)))
      go_wp2
      refine bodyPost_ret (v := .tuple #[av ⟨1, 0, (x2 : Int), zF⟩ none 0 0, .int .i64 0]) (by simp [results, Try.results120, go_sem, cp0]) rfl ?_
      rw [HP.out]
      refine ⟨⟨_, _, _, _, rfl, fun _ => ⟨rfl, rfl, Nat.le_refl _, Bytes.nil _ _, fun h => absurd rfl h, ?_⟩⟩, ?_⟩
      · repeat (first | (with_reducible refine Rd.setOther ?_ (by simp; omega) _) | (with_reducible refine Rd.grow ?_ ((Grow.refl _).alloc _)))
        exact hr5
      · repeat (first | (with_reducible refine Kept.setCell ?_ (.inl (by simp; try omega)) _) | (with_reducible refine Kept.at_ ?_ (Kept.of_below (Below.alloc (Below.refl _ _) (Nat.le_refl _) _) [pr])))
        exact HK5.out
set_option maxRecDepth 100000 in
set_option maxHeartbeats 2000000 in
theorem aget_2 (N pr : Nat) (b : List UInt8) (w : World) (h : Rd w N pr (b, 0)) (_hbl : b.length ≤ 1000000000000) (x1 : Nat) (r1 : List UInt8) (e1 : Int) (hT1 : rbyte (b, 0) = (x1, r1, e1)) (hk : x1 = 2) (he : e1 = 0) (x2 : Nat) (r2 : List UInt8) (e2 : Int) (hT2 : rbyte (r1, 0) = (x2, r2, e2)) (u : Nat) (r3 : List UInt8) (e3 : Int) (hT3 : rnum (r2, e2) = (u, r3, e3)) :
    Calls Try.prog 120 #[.pointer (some ⟨pr, 0, none⟩)] w fun r w' => GotA w w' r N pr (ag b) := by
  have hpr : pr < w.heap.size := Nat.lt_of_lt_of_le h.lt h.size
  have hN := h.size
  have HF := hide (fun W h => rbyte_any N pr (b, 0) W h)
  have hx1 := rbyte_lt (b, 0)
  subst hk he
  have HP := hide ((ag_2 hT1 hT2 hT3).trans (agFin_if _ _ _ _))
  have HG := hide (fun A c W h hn => agood_any ⟨2, (x2 : Int), zagI u, zF⟩ A [] c W h hn)
  have hE := hide (fun W h => err_any N pr (r1, 0) W h)
  have hEe := hide (fun W h => err_any N pr (r3, e3) W h)
  have HRx2 := hide (fun W h => rbyte_any N pr (r1, 0) W h)
  have hlx2 := rbyte_lt (r1, 0)
  rw [hT2] at HRx2 hlx2
  clear hT2
  have HRu := hide (fun W h => rint_any N pr (r2, e2) W h)
  rw [hT3] at HRu
  clear hT3
  rw [hT1] at HF hx1
  generalize actB _ _ = g at *
  generalize ag b = Q at *
  clear hT1
  dsimp only at *
  go_enter Try.func120, Try.ntmps120
  go_wp2_with fail
  refine (HF.out _ (h.grow ((Grow.refl w).alloc _))).mono ?_
  rintro r w1 ⟨rfl, hr1, hb1⟩
  obtain ⟨p0, hg1⟩ := peelK1 hb1 (by simp; omega)
  have p0_ := hide p0
  clear p0
  have p0 := p0_
  clear p0_
  have HK1 := hide (show Kept w.heap.size [pr] w w1 from hg1)
  have hsz1 : w.heap.size ≤ w1.heap.size := HK1.out.size
  have hq1 : w.heap.size ≤ w1.heap.size := hg1.size
  have HS1 := hide hg1
  clear hb1 hg1
  obtain ⟨cp0, fp0, lp0⟩ := (show Box w1 _ _ from p0.out).rules
  have hw01 := lp0
  go_wp2_with fail
  generalize hW2 : World.alloc w1 _ = w2
  have hb2 := Grow.of_eq hW2
  clear hW2
  have hr2 := hr1.grow (Grow.trans ((Grow.refl _).alloc _) hb2)
  clear hr1
  clear cp0 fp0 lp0
  obtain ⟨q0, hg2'⟩ := peel1 hb2
  have hg2 := Kept.of_below hg2' [pr]
  clear hg2'
  have p0_ := hide ((show Box w1 _ _ from p0.out).kept hg2 (by simp; omega))
  clear p0
  have p0 := p0_
  clear p0_
  have q0_ := hide q0
  clear q0
  have q0 := q0_
  clear q0_
  have HK2 := hide (Kept.at_ (show Kept w.heap.size [pr] w w1 from HK1.out) hg2)
  clear HK1
  have hsz2 : w.heap.size ≤ w2.heap.size := HK2.out.size
  have hq2 : w1.heap.size ≤ w2.heap.size := hg2.size
  have HS2 := hide hg2
  clear hb2 hg2
  obtain ⟨cp0, fp0, lp0⟩ := (show Box w2 _ _ from p0.out).rules
  obtain ⟨cq0, fq0, lq0⟩ := (show Box w2 _ _ from q0.out).rules
  have hw12 := lq0
  refine (hE.out _ hr2).mono ?_
  rintro r w' ⟨rfl, rfl⟩
  go_wp2_with fail
  refine (HRx2.out _ hr2).mono ?_
  rintro r w3 ⟨rfl, hr3, hb3⟩
  clear hr2
  clear cp0 fp0 lp0 cq0 fq0 lq0
  have hg3 := hb3
  have p0_ := hide ((show Box w2 _ _ from p0.out).kept hg3 (by simp; omega))
  clear p0
  have p0 := p0_
  clear p0_
  have q0_ := hide ((show Box w2 _ _ from q0.out).kept hg3 (by simp; omega))
  clear q0
  have q0 := q0_
  clear q0_
  have HK3 := hide (Kept.at_ (show Kept w.heap.size [pr] w w2 from HK2.out) hg3)
  clear HK2
  have hsz3 : w.heap.size ≤ w3.heap.size := HK3.out.size
  have hq3 : w2.heap.size ≤ w3.heap.size := hg3.size
  have HS3 := hide hg3
  clear hb3 hg3
  obtain ⟨cp0, fp0, lp0⟩ := (show Box w3 _ _ from p0.out).rules
  obtain ⟨cq0, fq0, lq0⟩ := (show Box w3 _ _ from q0.out).rules
  go_wp2_with fail
  clear cp0 fp0 lp0 cq0 fq0 lq0
  generalize hW4 : World.setCell w3 _ _ = w4
  have n4 := Box.store1 (show Box w3 _ _ from q0.out) hW4
  simp only [List.setIfInBounds_toArray, List.set_cons_zero, List.set_cons_succ] at n4
  have p0_ := hide (Box.keep_ne (show Box w3 _ _ from p0.out) hW4 (by simp <;> omega))
  clear p0
  have p0 := p0_
  clear p0_
  have hr3 := Rd.store1 hr3 hW4 (by simp <;> omega)
  have HK4 := hide (Kept.store1 (show Kept w.heap.size [pr] w w3 from HK3.out) hW4 (by simp <;> omega))
  clear HK3
  have hsz4 : w.heap.size ≤ w4.heap.size := HK4.out.size
  have hq4 : w3.heap.size ≤ w4.heap.size := by rw [← hW4]; simp [World.setCell]
  clear hW4
  have q0_ := hide n4
  clear n4 q0
  have q0 := q0_
  clear q0_
  obtain ⟨cp0, fp0, lp0⟩ := (show Box w4 _ _ from p0.out).rules
  obtain ⟨cq0, fq0, lq0⟩ := (show Box w4 _ _ from q0.out).rules
  go_wp2_with fail
  refine (HRu.out _ hr3).mono ?_
  rintro r w5 ⟨rfl, hr5, hb5⟩
  clear hr3
  clear cp0 fp0 lp0 cq0 fq0 lq0
  have hg5 := hb5
  have p0_ := hide ((show Box w4 _ _ from p0.out).kept hg5 (by simp; omega))
  clear p0
  have p0 := p0_
  clear p0_
  have q0_ := hide ((show Box w4 _ _ from q0.out).kept hg5 (by simp; omega))
  clear q0
  have q0 := q0_
  clear q0_
  have HK5 := hide (Kept.at_ (show Kept w.heap.size [pr] w w4 from HK4.out) hg5)
  clear HK4
  have hsz5 : w.heap.size ≤ w5.heap.size := HK5.out.size
  have hq5 : w4.heap.size ≤ w5.heap.size := hg5.size
  have HS5 := hide hg5
  clear hb5 hg5
  obtain ⟨cp0, fp0, lp0⟩ := (show Box w5 _ _ from p0.out).rules
  obtain ⟨cq0, fq0, lq0⟩ := (show Box w5 _ _ from q0.out).rules
  go_wp2_with fail
  clear cp0 fp0 lp0 cq0 fq0 lq0
  generalize hW6 : World.setCell w5 _ _ = w6
  have n6 := Box.store1 (show Box w5 _ _ from q0.out) hW6
  simp only [List.setIfInBounds_toArray, List.set_cons_zero, List.set_cons_succ] at n6
  have p0_ := hide (Box.keep_ne (show Box w5 _ _ from p0.out) hW6 (by simp <;> omega))
  clear p0
  have p0 := p0_
  clear p0_
  have hr5 := Rd.store1 hr5 hW6 (by simp <;> omega)
  have HK6 := hide (Kept.store1 (show Kept w.heap.size [pr] w w5 from HK5.out) hW6 (by simp <;> omega))
  clear HK5
  have hsz6 : w.heap.size ≤ w6.heap.size := HK6.out.size
  have hq6 : w5.heap.size ≤ w6.heap.size := by rw [← hW6]; simp [World.setCell]
  clear hW6
  have q0_ := hide n6
  clear n6 q0
  have q0 := q0_
  clear q0_
  obtain ⟨cp0, fp0, lp0⟩ := (show Box w6 _ _ from p0.out).rules
  obtain ⟨cq0, fq0, lq0⟩ := (show Box w6 _ _ from q0.out).rules
  refine (hEe.out _ hr5).mono ?_
  rintro r w' ⟨rfl, rfl⟩
  by_cases he : e3 = 0
  rotate_left
  · have hne := hide he
    have he' : (e3 != 0) = true := by simpa using he
    have HP := hide (HP.out.trans (if_pos he))
    clear he
    go_wp2
    refine bodyPost_ret (v := .tuple #[av ⟨2, (x2 : Int), zagI u, zF⟩ none 0 0, .int .i64 e3]) (by simp [results, Try.results120, go_sem, cp0]) rfl ?_
    rw [HP.out]
    refine ⟨⟨_, _, _, _, rfl, fun h => absurd h hne.out⟩, ?_⟩
    repeat (first | (with_reducible refine Kept.setCell ?_ (.inl (by simp; try omega)) _) | (with_reducible refine Kept.at_ ?_ (Kept.of_below (Below.alloc (Below.refl _ _) (Nat.le_refl _) _) [pr])))
    exact HK6.out
  subst he
  have HP := hide (HP.out.trans (if_neg (by simp)))
  go_wp2_with fail
  refine (HG.out _ _ _ (Bytes.nil _ _) (by decide)).mono ?_
  rintro r w7 ⟨rfl, hb7⟩
  have hr7 := hr5.grow hb7
  clear hr5
  clear cp0 fp0 lp0 cq0 fq0 lq0
  have hg7 := Kept.of_below hb7 [pr]
  have p0_ := hide ((show Box w6 _ _ from p0.out).kept hg7 (by simp; omega))
  clear p0
  have p0 := p0_
  clear p0_
  have q0_ := hide ((show Box w6 _ _ from q0.out).kept hg7 (by simp; omega))
  clear q0
  have q0 := q0_
  clear q0_
  have HK7 := hide (Kept.at_ (show Kept w.heap.size [pr] w w6 from HK6.out) hg7)
  clear HK6
  have hsz7 : w.heap.size ≤ w7.heap.size := HK7.out.size
  have hq7 : w6.heap.size ≤ w7.heap.size := hg7.size
  have HS7 := hide hg7
  clear hb7 hg7
  obtain ⟨cp0, fp0, lp0⟩ := (show Box w7 _ _ from p0.out).rules
  obtain ⟨cq0, fq0, lq0⟩ := (show Box w7 _ _ from q0.out).rules
  cases g with
  | false =>
      have HP := hide (HP.out.trans (if_pos rfl))
      go_wp2
      refine bodyPost_ret (v := .tuple #[av ⟨2, (x2 : Int), zagI u, zF⟩ none 0 0, .int .i64 2]) (by simp [results, Try.results120, go_sem, cp0]) rfl ?_
      rw [HP.out]
      refine ⟨⟨_, _, _, _, rfl, fun h => absurd h (by simp)⟩, ?_⟩
      repeat (first | (with_reducible refine Kept.setCell ?_ (.inl (by simp; try omega)) _) | (with_reducible refine Kept.at_ ?_ (Kept.of_below (Below.alloc (Below.refl _ _) (Nat.le_refl _) _) [pr])))
      exact HK7.out
  | true =>
      have HP := hide (HP.out.trans (if_neg (by decide)))
      go_wp2
      refine bodyPost_ret (v := .tuple #[av ⟨2, (x2 : Int), zagI u, zF⟩ none 0 0, .int .i64 0]) (by simp [results, Try.results120, go_sem, cp0]) rfl ?_
      rw [HP.out]
      refine ⟨⟨_, _, _, _, rfl, fun _ => ⟨rfl, rfl, Nat.le_refl _, Bytes.nil _ _, fun h => absurd rfl h, ?_⟩⟩, ?_⟩
      · repeat (first | (with_reducible refine Rd.setOther ?_ (by simp; omega) _) | (with_reducible refine Rd.grow ?_ ((Grow.refl _).alloc _)))
        exact hr7
      · repeat (first | (with_reducible refine Kept.setCell ?_ (.inl (by simp; try omega)) _) | (with_reducible refine Kept.at_ ?_ (Kept.of_below (Below.alloc (Below.refl _ _) (Nat.le_refl _) _) [pr])))
        exact HK7.out
theorem rbytes_most (s : List UInt8 × Int) : (rbytes 1024 s).1.length ≤ 1024 := by
  unfold rbytes Buf.rget
  split
  · show (Buf.getBytes s.1 1024).1.length ≤ 1024
    unfold Buf.getBytes
    split
    · simp
    · split
      · simp
      · split
        · simp
        · rename_i h1 h2 h3
          dsimp only
          rw [List.length_take]
          omega
  · simp
set_option maxRecDepth 100000 in
set_option maxHeartbeats 2000000 in
theorem aget_6 (N pr : Nat) (b : List UInt8) (w : World) (h : Rd w N pr (b, 0)) (hbl : b.length ≤ 1000000000000) (x1 : Nat) (r1 : List UInt8) (e1 : Int) (hT1 : rbyte (b, 0) = (x1, r1, e1)) (hk : x1 = 6) (he : e1 = 0) (x2 : Nat) (r2 : List UInt8) (e2 : Int) (hT2 : rbyte (r1, 0) = (x2, r2, e2)) (t : List UInt8) (r3 : List UInt8) (e3 : Int) (hT3 : rbytes 1024 (r2, e2) = (t, r3, e3)) :
    Calls Try.prog 120 #[.pointer (some ⟨pr, 0, none⟩)] w fun r w' => GotA w w' r N pr (ag b) := by
  have hpr : pr < w.heap.size := Nat.lt_of_lt_of_le h.lt h.size
  have hN := h.size
  have HF := hide (fun W h => rbyte_any N pr (b, 0) W h)
  have hx1 := rbyte_lt (b, 0)
  subst hk he
  have HP := hide ((ag_6 hT1 hT2 hT3).trans (agFin_if _ _ _ _))
  have HG := hide (fun A c W h hn => agood_any ⟨6, (x2 : Int), 0, zF⟩ A t c W h hn)
  have hE := hide (fun W h => err_any N pr (r1, 0) W h)
  have hEe := hide (fun W h => err_any N pr (r3, e3) W h)
  have hr1l := rbyte_len hT1
  have hr2l := rbyte_len hT2
  have HRx2 := hide (fun W h => rbyte_any N pr (r1, 0) W h)
  have hlx2 := rbyte_lt (r1, 0)
  rw [hT2] at HRx2 hlx2
  clear hT2
  have HRt := hide (fun W h => rbytes_any N pr (r2, e2) 1024 W h (by decide) (by dsimp only; omega))
  have hlt := rbytes_most (r2, e2)
  rw [hT3] at HRt hlt
  clear hT3
  rw [hT1] at HF hx1
  generalize actB _ _ = g at *
  generalize ag b = Q at *
  clear hT1
  dsimp only at *
  go_enter Try.func120, Try.ntmps120
  go_wp2_with fail
  refine (HF.out _ (h.grow ((Grow.refl w).alloc _))).mono ?_
  rintro r w1 ⟨rfl, hr1, hb1⟩
  obtain ⟨p0, hg1⟩ := peelK1 hb1 (by simp; omega)
  have p0_ := hide p0
  clear p0
  have p0 := p0_
  clear p0_
  have HK1 := hide (show Kept w.heap.size [pr] w w1 from hg1)
  have hsz1 : w.heap.size ≤ w1.heap.size := HK1.out.size
  have hq1 : w.heap.size ≤ w1.heap.size := hg1.size
  have HS1 := hide hg1
  clear hb1 hg1
  obtain ⟨cp0, fp0, lp0⟩ := (show Box w1 _ _ from p0.out).rules
  have hw01 := lp0
  go_wp2_with fail
  generalize hW2 : World.alloc w1 _ = w2
  have hb2 := Grow.of_eq hW2
  clear hW2
  have hr2 := hr1.grow (Grow.trans ((Grow.refl _).alloc _) hb2)
  clear hr1
  clear cp0 fp0 lp0
  obtain ⟨q0, hg2'⟩ := peel1 hb2
  have hg2 := Kept.of_below hg2' [pr]
  clear hg2'
  have p0_ := hide ((show Box w1 _ _ from p0.out).kept hg2 (by simp; omega))
  clear p0
  have p0 := p0_
  clear p0_
  have q0_ := hide q0
  clear q0
  have q0 := q0_
  clear q0_
  have HK2 := hide (Kept.at_ (show Kept w.heap.size [pr] w w1 from HK1.out) hg2)
  clear HK1
  have hsz2 : w.heap.size ≤ w2.heap.size := HK2.out.size
  have hq2 : w1.heap.size ≤ w2.heap.size := hg2.size
  have HS2 := hide hg2
  clear hb2 hg2
  obtain ⟨cp0, fp0, lp0⟩ := (show Box w2 _ _ from p0.out).rules
  obtain ⟨cq0, fq0, lq0⟩ := (show Box w2 _ _ from q0.out).rules
  have hw12 := lq0
  refine (hE.out _ hr2).mono ?_
  rintro r w' ⟨rfl, rfl⟩
  go_wp2_with fail
  refine (HRx2.out _ hr2).mono ?_
  rintro r w3 ⟨rfl, hr3, hb3⟩
  clear hr2
  clear cp0 fp0 lp0 cq0 fq0 lq0
  have hg3 := hb3
  have p0_ := hide ((show Box w2 _ _ from p0.out).kept hg3 (by simp; omega))
  clear p0
  have p0 := p0_
  clear p0_
  have q0_ := hide ((show Box w2 _ _ from q0.out).kept hg3 (by simp; omega))
  clear q0
  have q0 := q0_
  clear q0_
  have HK3 := hide (Kept.at_ (show Kept w.heap.size [pr] w w2 from HK2.out) hg3)
  clear HK2
  have hsz3 : w.heap.size ≤ w3.heap.size := HK3.out.size
  have hq3 : w2.heap.size ≤ w3.heap.size := hg3.size
  have HS3 := hide hg3
  clear hb3 hg3
  obtain ⟨cp0, fp0, lp0⟩ := (show Box w3 _ _ from p0.out).rules
  obtain ⟨cq0, fq0, lq0⟩ := (show Box w3 _ _ from q0.out).rules
  go_wp2_with fail
  clear cp0 fp0 lp0 cq0 fq0 lq0
  generalize hW4 : World.setCell w3 _ _ = w4
  have n4 := Box.store1 (show Box w3 _ _ from q0.out) hW4
  simp only [List.setIfInBounds_toArray, List.set_cons_zero, List.set_cons_succ] at n4
  have p0_ := hide (Box.keep_ne (show Box w3 _ _ from p0.out) hW4 (by simp <;> omega))
  clear p0
  have p0 := p0_
  clear p0_
  have hr3 := Rd.store1 hr3 hW4 (by simp <;> omega)
  have HK4 := hide (Kept.store1 (show Kept w.heap.size [pr] w w3 from HK3.out) hW4 (by simp <;> omega))
  clear HK3
  have hsz4 : w.heap.size ≤ w4.heap.size := HK4.out.size
  have hq4 : w3.heap.size ≤ w4.heap.size := by rw [← hW4]; simp [World.setCell]
  clear hW4
  have q0_ := hide n4
  clear n4 q0
  have q0 := q0_
  clear q0_
  obtain ⟨cp0, fp0, lp0⟩ := (show Box w4 _ _ from p0.out).rules
  obtain ⟨cq0, fq0, lq0⟩ := (show Box w4 _ _ from q0.out).rules
  go_wp2_with fail
  refine (HRt.out _ hr3).mono ?_
  rintro r w5 ⟨At, ct, rfl, hct, hctm, hown, hr5, hb5⟩
  clear hr3
  have hbt := hown.bytes
  have hbase : ∀ q, blk At = some q → w4.heap.size ≤ q := fun q h => hown.base h
  have hform : t ≠ [] → ∃ g, At = some ⟨g, 0, none⟩ ∧ w4.heap.size ≤ g := fun hne => by
    rcases hown.form with ⟨_, h, _⟩ | ⟨g, h, hg, _⟩
    · exact absurd h hne
    · exact ⟨g, h, hg⟩
  clear hown
  clear cp0 fp0 lp0 cq0 fq0 lq0
  have hg5 := hb5
  have p0_ := hide ((show Box w4 _ _ from p0.out).kept hg5 (by simp; omega))
  clear p0
  have p0 := p0_
  clear p0_
  have q0_ := hide ((show Box w4 _ _ from q0.out).kept hg5 (by simp; omega))
  clear q0
  have q0 := q0_
  clear q0_
  have HK5 := hide (Kept.at_ (show Kept w.heap.size [pr] w w4 from HK4.out) hg5)
  clear HK4
  have hsz5 : w.heap.size ≤ w5.heap.size := HK5.out.size
  have hq5 : w4.heap.size ≤ w5.heap.size := hg5.size
  have HS5 := hide hg5
  clear hb5 hg5
  obtain ⟨cp0, fp0, lp0⟩ := (show Box w5 _ _ from p0.out).rules
  obtain ⟨cq0, fq0, lq0⟩ := (show Box w5 _ _ from q0.out).rules
  go_wp2_with fail
  clear cp0 fp0 lp0 cq0 fq0 lq0
  generalize hW6 : World.setCell w5 _ _ = w6
  have n6 := Box.store1 (show Box w5 _ _ from q0.out) hW6
  simp only [List.setIfInBounds_toArray, List.set_cons_zero, List.set_cons_succ] at n6
  have p0_ := hide (Box.keep_ne (show Box w5 _ _ from p0.out) hW6 (by simp <;> omega))
  clear p0
  have p0 := p0_
  clear p0_
  have hbt := Bytes.store1 hbt hW6 (fun q h => by have := hbase q h; simp <;> omega)
  have hr5 := Rd.store1 hr5 hW6 (by simp <;> omega)
  have HK6 := hide (Kept.store1 (show Kept w.heap.size [pr] w w5 from HK5.out) hW6 (by simp <;> omega))
  clear HK5
  have hsz6 : w.heap.size ≤ w6.heap.size := HK6.out.size
  have hq6 : w5.heap.size ≤ w6.heap.size := by rw [← hW6]; simp [World.setCell]
  clear hW6
  have q0_ := hide n6
  clear n6 q0
  have q0 := q0_
  clear q0_
  obtain ⟨cp0, fp0, lp0⟩ := (show Box w6 _ _ from p0.out).rules
  obtain ⟨cq0, fq0, lq0⟩ := (show Box w6 _ _ from q0.out).rules
  refine (hEe.out _ hr5).mono ?_
  rintro r w' ⟨rfl, rfl⟩
  by_cases he : e3 = 0
  rotate_left
  · have hne := hide he
    have he' : (e3 != 0) = true := by simpa using he
    have HP := hide (HP.out.trans (if_pos he))
    clear he
    go_wp2
    refine bodyPost_ret (v := .tuple #[av ⟨6, (x2 : Int), 0, zF⟩ At t.length ct, .int .i64 e3]) (by simp [results, Try.results120, go_sem, cp0]) rfl ?_
    rw [HP.out]
    refine ⟨⟨_, _, _, _, rfl, fun h => absurd h hne.out⟩, ?_⟩
    repeat (first | (with_reducible refine Kept.setCell ?_ (.inl (by simp; try omega)) _) | (with_reducible refine Kept.at_ ?_ (Kept.of_below (Below.alloc (Below.refl _ _) (Nat.le_refl _) _) [pr])))
    exact HK6.out
  subst he
  have HP := hide (HP.out.trans (if_neg (by simp)))
  go_wp2_with fail
  refine (HG.out _ _ _ hbt (by omega)).mono ?_
  rintro r w7 ⟨rfl, hb7⟩
  have hr7 := hr5.grow hb7
  clear hr5
  have hbt := hbt.grow hb7
  clear cp0 fp0 lp0 cq0 fq0 lq0
  have hg7 := Kept.of_below hb7 [pr]
  have p0_ := hide ((show Box w6 _ _ from p0.out).kept hg7 (by simp; omega))
  clear p0
  have p0 := p0_
  clear p0_
  have q0_ := hide ((show Box w6 _ _ from q0.out).kept hg7 (by simp; omega))
  clear q0
  have q0 := q0_
  clear q0_
  have HK7 := hide (Kept.at_ (show Kept w.heap.size [pr] w w6 from HK6.out) hg7)
  clear HK6
  have hsz7 : w.heap.size ≤ w7.heap.size := HK7.out.size
  have hq7 : w6.heap.size ≤ w7.heap.size := hg7.size
  have HS7 := hide hg7
  clear hb7 hg7
  obtain ⟨cp0, fp0, lp0⟩ := (show Box w7 _ _ from p0.out).rules
  obtain ⟨cq0, fq0, lq0⟩ := (show Box w7 _ _ from q0.out).rules
  cases g with
  | false =>
      have HP := hide (HP.out.trans (if_pos rfl))
      go_wp2
      refine bodyPost_ret (v := .tuple #[av ⟨6, (x2 : Int), 0, zF⟩ At t.length ct, .int .i64 2]) (by simp [results, Try.results120, go_sem, cp0]) rfl ?_
      rw [HP.out]
      refine ⟨⟨_, _, _, _, rfl, fun h => absurd h (by simp)⟩, ?_⟩
      repeat (first | (with_reducible refine Kept.setCell ?_ (.inl (by simp; try omega)) _) | (with_reducible refine Kept.at_ ?_ (Kept.of_below (Below.alloc (Below.refl _ _) (Nat.le_refl _) _) [pr])))
      exact HK7.out
  | true =>
      have HP := hide (HP.out.trans (if_neg (by decide)))
      go_wp2
      refine bodyPost_ret (v := .tuple #[av ⟨6, (x2 : Int), 0, zF⟩ At t.length ct, .int .i64 0]) (by simp [results, Try.results120, go_sem, cp0]) rfl ?_
      rw [HP.out]
      refine ⟨⟨_, _, _, _, rfl, fun _ => ⟨rfl, rfl, hct, ?_, fun hne => by obtain ⟨g, h1, h2⟩ := hform hne; exact ⟨g, h1, by omega⟩, ?_⟩⟩, ?_⟩
      · refine hbt.kept (S := [w.heap.size]) ?_ (fun q h => by have := hbase q h; simp; omega)
        repeat (with_reducible refine Kept.setCell ?_ (.inr (by simp)) _)
        exact Kept.refl _ _ _
      · repeat (first | (with_reducible refine Rd.setOther ?_ (by simp; omega) _) | (with_reducible refine Rd.grow ?_ ((Grow.refl _).alloc _)))
        exact hr7
      · repeat (first | (with_reducible refine Kept.setCell ?_ (.inl (by simp; try omega)) _) | (with_reducible refine Kept.at_ ?_ (Kept.of_below (Below.alloc (Below.refl _ _) (Nat.le_refl _) _) [pr])))
        exact HK7.out
end Go.Proofs.Ytcghgahohmabnaa
