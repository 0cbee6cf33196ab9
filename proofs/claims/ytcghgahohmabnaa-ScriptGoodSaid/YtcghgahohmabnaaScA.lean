/- The walk of script.get (the other kinds). -/
import Derived.Test.YtcghgahohmabnaaSc9
namespace Go.Proofs.Ytcghgahohmabnaa
open Go.RowKit
set_option maxRecDepth 100000 in
set_option maxHeartbeats 2000000 in
theorem aget_4 (N pr : Nat) (b : List UInt8) (w : World) (h : Rd w N pr (b, 0)) (_hbl : b.length ≤ 1000000000000) (x1 : Nat) (r1 : List UInt8) (e1 : Int) (hT1 : rbyte (b, 0) = (x1, r1, e1)) (hk : x1 = 4) (he : e1 = 0) (x2 : Nat) (r2 : List UInt8) (e2 : Int) (hT2 : rbyte (r1, 0) = (x2, r2, e2)) :
    Calls Try.prog 120 #[.pointer (some ⟨pr, 0, none⟩)] w fun r w' => GotA w w' r N pr (ag b) := by
  have hpr : pr < w.heap.size := Nat.lt_of_lt_of_le h.lt h.size
  have hN := h.size
  have HF := hide (fun W h => rbyte_any N pr (b, 0) W h)
  have hx1 := rbyte_lt (b, 0)
  subst hk he
  have HP := hide ((ag_n hT1 (by omega) hT2).trans (agFin_if _ _ _ _))
  rw [show ((4 : Nat) : Int) = 4 from rfl] at HP
  have HG := hide (fun A c W h hn => agood_any ⟨4, (x2 : Int), 0, zF⟩ A [] c W h hn)
  have hE := hide (fun W h => err_any N pr (r1, 0) W h)
  have hEe := hide (fun W h => err_any N pr (r2, e2) W h)
  have HRx2 := hide (fun W h => rbyte_any N pr (r1, 0) W h)
  have hlx2 := rbyte_lt (r1, 0)
  rw [hT2] at HRx2 hlx2
  clear hT2
  rw [hT1] at HF hx1
  generalize actB _ _ = g at *
  generalize ag b = Q at *
  clear hT1
  dsimp only at *
  go_enter Try.func120, Try.ntmps120
  go_wp2_with fail
  refine (HF.out _ (h.grow ((Grow.refl w).alloc _))).mono ?_
  rintro r w1 ⟨rfl, hr1, hb1⟩
  obtain ⟨p0, hg1⟩ := peelK1 hb1 (by simp; omega)
  have p0_ := hide p0
  clear p0
  have p0 := p0_
  clear p0_
  have HK1 := hide (show Kept w.heap.size [pr] w w1 from hg1)
  have hsz1 : w.heap.size ≤ w1.heap.size := HK1.out.size
  have hq1 : w.heap.size ≤ w1.heap.size := hg1.size
  have HS1 := hide hg1
  clear hb1 hg1
  obtain ⟨cp0, fp0, lp0⟩ := (show Box w1 _ _ from p0.out).rules
  have hw01 := lp0
  go_wp2_with fail
  generalize hW2 : World.alloc w1 _ = w2
  have hb2 := Grow.of_eq hW2
  clear hW2
  have hr2 := hr1.grow (Grow.trans ((Grow.refl _).alloc _) hb2)
  clear hr1
  clear cp0 fp0 lp0
  obtain ⟨q0, hg2'⟩ := peel1 hb2
  have hg2 := Kept.of_below hg2' [pr]
  clear hg2'
  have p0_ := hide ((show Box w1 _ _ from p0.out).kept hg2 (by simp; omega))
  clear p0
  have p0 := p0_
  clear p0_
  have q0_ := hide q0
  clear q0
  have q0 := q0_
  clear q0_
  have HK2 := hide (Kept.at_ (show Kept w.heap.size [pr] w w1 from HK1.out) hg2)
  clear HK1
  have hsz2 : w.heap.size ≤ w2.heap.size := HK2.out.size
  have hq2 : w1.heap.size ≤ w2.heap.size := hg2.size
  have HS2 := hide hg2
  clear hb2 hg2
  obtain ⟨cp0, fp0, lp0⟩ := (show Box w2 _ _ from p0.out).rules
  obtain ⟨cq0, fq0, lq0⟩ := (show Box w2 _ _ from q0.out).rules
  have hw12 := lq0
  refine (hE.out _ hr2).mono ?_
  rintro r w' ⟨rfl, rfl⟩
  go_wp2_with fail
  refine (HRx2.out _ hr2).mono ?_
  rintro r w3 ⟨rfl, hr3, hb3⟩
  clear hr2
  clear cp0 fp0 lp0 cq0 fq0 lq0
  have hg3 := hb3
  have p0_ := hide ((show Box w2 _ _ from p0.out).kept hg3 (by simp; omega))
  clear p0
  have p0 := p0_
  clear p0_
  have q0_ := hide ((show Box w2 _ _ from q0.out).kept hg3 (by simp; omega))
  clear q0
  have q0 := q0_
  clear q0_
  have HK3 := hide (Kept.at_ (show Kept w.heap.size [pr] w w2 from HK2.out) hg3)
  clear HK2
  have hsz3 : w.heap.size ≤ w3.heap.size := HK3.out.size
  have hq3 : w2.heap.size ≤ w3.heap.size := hg3.size
  have HS3 := hide hg3
  clear hb3 hg3
  obtain ⟨cp0, fp0, lp0⟩ := (show Box w3 _ _ from p0.out).rules
  obtain ⟨cq0, fq0, lq0⟩ := (show Box w3 _ _ from q0.out).rules
  go_wp2_with fail
  clear cp0 fp0 lp0 cq0 fq0 lq0
  generalize hW4 : World.setCell w3 _ _ = w4
  have n4 := Box.store1 (show Box w3 _ _ from q0.out) hW4
  simp only [List.setIfInBounds_toArray, List.set_cons_zero, List.set_cons_succ] at n4
  have p0_ := hide (Box.keep_ne (show Box w3 _ _ from p0.out) hW4 (by simp <;> omega))
  clear p0
  have p0 := p0_
  clear p0_
  have hr3 := Rd.store1 hr3 hW4 (by simp <;> omega)
  have HK4 := hide (Kept.store1 (show Kept w.heap.size [pr] w w3 from HK3.out) hW4 (by simp <;> omega))
  clear HK3
  have hsz4 : w.heap.size ≤ w4.heap.size := HK4.out.size
  have hq4 : w3.heap.size ≤ w4.heap.size := by rw [← hW4]; simp [World.setCell]
  clear hW4
  have q0_ := hide n4
  clear n4 q0
  have q0 := q0_
  clear q0_
  obtain ⟨cp0, fp0, lp0⟩ := (show Box w4 _ _ from p0.out).rules
  obtain ⟨cq0, fq0, lq0⟩ := (show Box w4 _ _ from q0.out).rules
  refine (hEe.out _ hr3).mono ?_
  rintro r w' ⟨rfl, rfl⟩
  by_cases he : e2 = 0
  rotate_left
  · have hne := hide he
    have he' : (e2 != 0) = true := by simpa using he
    have HP := hide (HP.out.trans (if_pos he))
    clear he
    go_wp2
    refine bodyPost_ret (v := .tuple #[av ⟨4, (x2 : Int), 0, zF⟩ none 0 0, .int .i64 e2]) (by simp [results, Try.results120, go_sem, cp0]) rfl ?_
    rw [HP.out]
    refine ⟨⟨_, _, _, _, rfl, fun h => absurd h hne.out⟩, ?_⟩
    repeat (first | (with_reducible refine Kept.setCell ?_ (.inl (by simp; try omega)) _) | (with_reducible refine Kept.at_ ?_ (Kept.of_below (Below.alloc (Below.refl _ _) (Nat.le_refl _) _) [pr])))
    exact HK4.out
  subst he
  have HP := hide (HP.out.trans (if_neg (by simp)))
  go_wp2_with fail
  refine (HG.out _ _ _ (Bytes.nil _ _) (by decide)).mono ?_
  rintro r w5 ⟨rfl, hb5⟩
  have hr5 := hr3.grow hb5
  clear hr3
  clear cp0 fp0 lp0 cq0 fq0 lq0
  have hg5 := Kept.of_below hb5 [pr]
  have p0_ := hide ((show Box w4 _ _ from p0.out).kept hg5 (by simp; omega))
  clear p0
  have p0 := p0_
  clear p0_
  have q0_ := hide ((show Box w4 _ _ from q0.out).kept hg5 (by simp; omega))
  clear q0
  have q0 := q0_
  clear q0_
  have HK5 := hide (Kept.at_ (show Kept w.heap.size [pr] w w4 from HK4.out) hg5)
  clear HK4
  have hsz5 : w.heap.size ≤ w5.heap.size := HK5.out.size
  have hq5 : w4.heap.size ≤ w5.heap.size := hg5.size
  have HS5 := hide hg5
  clear hb5 hg5
  obtain ⟨cp0, fp0, lp0⟩ := (show Box w5 _ _ from p0.out).rules
  obtain ⟨cq0, fq0, lq0⟩ := (show Box w5 _ _ from q0.out).rules
  cases g with
  | false =>
      have HP := hide (HP.out.trans (if_pos rfl))
      go_wp2
      refine bodyPost_ret (v := .tuple #[av ⟨4, (x2 : Int), 0, zF⟩ none 0 0, .int .i64 2]) (by simp [results, Try.results120, go_sem, cp0]) rfl ?_
      rw [HP.out]
      refine ⟨⟨_, _, _, _, rfl, fun h => absurd h (by simp)⟩, ?_⟩
      repeat (first | (with_reducible refine Kept.setCell ?_ (.inl (by simp; try omega)) _) | (with_reducible refine Kept.at_ ?_ (Kept.of_below (Below.alloc (Below.refl _ _) (Nat.le_refl _) _) [pr])))
      exact HK5.out
  | true =>
      have HP := hide (HP.out.trans (if_neg (by decide)))
      go_wp2
      refine bodyPost_ret (v := .tuple #[av ⟨4, (x2 : Int), 0, zF⟩ none 0 0, .int .i64 0]) (by simp [results, Try.results120, go_sem, cp0]) rfl ?_
      rw [HP.out]
      refine ⟨⟨_, _, _, _, rfl, fun _ => ⟨rfl, rfl, Nat.le_refl _, Bytes.nil _ _, fun h => absurd rfl h, ?_⟩⟩, ?_⟩
      · repeat (first | (with_reducible refine Rd.setOther ?_ (by simp; omega) _) | (with_reducible refine Rd.grow ?_ ((Grow.refl _).alloc _)))
        exact hr5
      · repeat (first | (with_reducible refine Kept.setCell ?_ (.inl (by simp; try omega)) _) | (with_reducible refine Kept.at_ ?_ (Kept.of_below (Below.alloc (Below.refl _ _) (Nat.le_refl _) _) [pr])))
        exact HK5.out
set_option maxRecDepth 100000 in
set_option maxHeartbeats 2000000 in
theorem aget_5 (N pr : Nat) (b : List UInt8) (w : World) (h : Rd w N pr (b, 0)) (_hbl : b.length ≤ 1000000000000) (x1 : Nat) (r1 : List UInt8) (e1 : Int) (hT1 : rbyte (b, 0) = (x1, r1, e1)) (hk : x1 = 5) (he : e1 = 0) (x2 : Nat) (r2 : List UInt8) (e2 : Int) (hT2 : rbyte (r1, 0) = (x2, r2, e2)) :
    Calls Try.prog 120 #[.pointer (some ⟨pr, 0, none⟩)] w fun r w' => GotA w w' r N pr (ag b) := by
  have hpr : pr < w.heap.size := Nat.lt_of_lt_of_le h.lt h.size
  have hN := h.size
  have HF := hide (fun W h => rbyte_any N pr (b, 0) W h)
  have hx1 := rbyte_lt (b, 0)
  subst hk he
  have HP := hide ((ag_n hT1 (by omega) hT2).trans (agFin_if _ _ _ _))
  rw [show ((5 : Nat) : Int) = 5 from rfl] at HP
  have HG := hide (fun A c W h hn => agood_any ⟨5, (x2 : Int), 0, zF⟩ A [] c W h hn)
  have hE := hide (fun W h => err_any N pr (r1, 0) W h)
  have hEe := hide (fun W h => err_any N pr (r2, e2) W h)
  have HRx2 := hide (fun W h => rbyte_any N pr (r1, 0) W h)
  have hlx2 := rbyte_lt (r1, 0)
  rw [hT2] at HRx2 hlx2
  clear hT2
  rw [hT1] at HF hx1
  generalize actB _ _ = g at *
  generalize ag b = Q at *
  clear hT1
  dsimp only at *
  go_enter Try.func120, Try.ntmps120
  go_wp2_with fail
  refine (HF.out _ (h.grow ((Grow.refl w).alloc _))).mono ?_
  rintro r w1 ⟨rfl, hr1, hb1⟩
  obtain ⟨p0, hg1⟩ := peelK1 hb1 (by simp; omega)
  have p0_ := hide p0
  clear p0
  have p0 := p0_
  clear p0_
  have HK1 := hide (show Kept w.heap.size [pr] w w1 from hg1)
  have hsz1 : w.heap.size ≤ w1.heap.size := HK1.out.size
  have hq1 : w.heap.size ≤ w1.heap.size := hg1.size
  have HS1 := hide hg1
  clear hb1 hg1
  obtain ⟨cp0, fp0, lp0⟩ := (show Box w1 _ _ from p0.out).rules
  have hw01 := lp0
  go_wp2_with fail
  generalize hW2 : World.alloc w1 _ = w2
  have hb2 := Grow.of_eq hW2
  clear hW2
  have hr2 := hr1.grow (Grow.trans ((Grow.refl _).alloc _) hb2)
  clear hr1
  clear cp0 fp0 lp0
  obtain ⟨q0, hg2'⟩ := peel1 hb2
  have hg2 := Kept.of_below hg2' [pr]
  clear hg2'
  have p0_ := hide ((show Box w1 _ _ from p0.out).kept hg2 (by simp; omega))
  clear p0
  have p0 := p0_
  clear p0_
  have q0_ := hide q0
  clear q0
  have q0 := q0_
  clear q0_
  have HK2 := hide (Kept.at_ (show Kept w.heap.size [pr] w w1 from HK1.out) hg2)
  clear HK1
  have hsz2 : w.heap.size ≤ w2.heap.size := HK2.out.size
  have hq2 : w1.heap.size ≤ w2.heap.size := hg2.size
  have HS2 := hide hg2
  clear hb2 hg2
  obtain ⟨cp0, fp0, lp0⟩ := (show Box w2 _ _ from p0.out).rules
  obtain ⟨cq0, fq0, lq0⟩ := (show Box w2 _ _ from q0.out).rules
  have hw12 := lq0
  refine (hE.out _ hr2).mono ?_
  rintro r w' ⟨rfl, rfl⟩
  go_wp2_with fail
  refine (HRx2.out _ hr2).mono ?_
  rintro r w3 ⟨rfl, hr3, hb3⟩
  clear hr2
  clear cp0 fp0 lp0 cq0 fq0 lq0
  have hg3 := hb3
  have p0_ := hide ((show Box w2 _ _ from p0.out).kept hg3 (by simp; omega))
  clear p0
  have p0 := p0_
  clear p0_
  have q0_ := hide ((show Box w2 _ _ from q0.out).kept hg3 (by simp; omega))
  clear q0
  have q0 := q0_
  clear q0_
  have HK3 := hide (Kept.at_ (show Kept w.heap.size [pr] w w2 from HK2.out) hg3)
  clear HK2
  have hsz3 : w.heap.size ≤ w3.heap.size := HK3.out.size
  have hq3 : w2.heap.size ≤ w3.heap.size := hg3.size
  have HS3 := hide hg3
  clear hb3 hg3
  obtain ⟨cp0, fp0, lp0⟩ := (show Box w3 _ _ from p0.out).rules
  obtain ⟨cq0, fq0, lq0⟩ := (show Box w3 _ _ from q0.out).rules
  go_wp2_with fail
  clear cp0 fp0 lp0 cq0 fq0 lq0
  generalize hW4 : World.setCell w3 _ _ = w4
  have n4 := Box.store1 (show Box w3 _ _ from q0.out) hW4
  simp only [List.setIfInBounds_toArray, List.set_cons_zero, List.set_cons_succ] at n4
  have p0_ := hide (Box.keep_ne (show Box w3 _ _ from p0.out) hW4 (by simp <;> omega))
  clear p0
  have p0 := p0_
  clear p0_
  have hr3 := Rd.store1 hr3 hW4 (by simp <;> omega)
  have HK4 := hide (Kept.store1 (show Kept w.heap.size [pr] w w3 from HK3.out) hW4 (by simp <;> omega))
  clear HK3
  have hsz4 : w.heap.size ≤ w4.heap.size := HK4.out.size
  have hq4 : w3.heap.size ≤ w4.heap.size := by rw [← hW4]; simp [World.setCell]
  clear hW4
  have q0_ := hide n4
  clear n4 q0
  have q0 := q0_
  clear q0_
  obtain ⟨cp0, fp0, lp0⟩ := (show Box w4 _ _ from p0.out).rules
  obtain ⟨cq0, fq0, lq0⟩ := (show Box w4 _ _ from q0.out).rules
  refine (hEe.out _ hr3).mono ?_
  rintro r w' ⟨rfl, rfl⟩
  by_cases he : e2 = 0
  rotate_left
  · have hne := hide he
    have he' : (e2 != 0) = true := by simpa using he
    have HP := hide (HP.out.trans (if_pos he))
    clear he
    go_wp2
    refine bodyPost_ret (v := .tuple #[av ⟨5, (x2 : Int), 0, zF⟩ none 0 0, .int .i64 e2]) (by simp [results, Try.results120, go_sem, cp0]) rfl ?_
    rw [HP.out]
    refine ⟨⟨_, _, _, _, rfl, fun h => absurd h hne.out⟩, ?_⟩
    repeat (first | (with_reducible refine Kept.setCell ?_ (.inl (by simp; try omega)) _) | (with_reducible refine Kept.at_ ?_ (Kept.of_below (Below.alloc (Below.refl _ _) (Nat.le_refl _) _) [pr])))
    exact HK4.out
  subst he
  have HP := hide (HP.out.trans (if_neg (by simp)))
  go_wp2_with fail
  refine (HG.out _ _ _ (Bytes.nil _ _) (by decide)).mono ?_
  rintro r w5 ⟨rfl, hb5⟩
  have hr5 := hr3.grow hb5
  clear hr3
  clear cp0 fp0 lp0 cq0 fq0 lq0
  have hg5 := Kept.of_below hb5 [pr]
  have p0_ := hide ((show Box w4 _ _ from p0.out).kept hg5 (by simp; omega))
  clear p0
  have p0 := p0_
  clear p0_
  have q0_ := hide ((show Box w4 _ _ from q0.out).kept hg5 (by simp; omega))
  clear q0
  have q0 := q0_
  clear q0_
  have HK5 := hide (Kept.at_ (show Kept w.heap.size [pr] w w4 from HK4.out) hg5)
  clear HK4
  have hsz5 : w.heap.size ≤ w5.heap.size := HK5.out.size
  have hq5 : w4.heap.size ≤ w5.heap.size := hg5.size
  have HS5 := hide hg5
  clear hb5 hg5
  obtain ⟨cp0, fp0, lp0⟩ := (show Box w5 _ _ from p0.out).rules
  obtain ⟨cq0, fq0, lq0⟩ := (show Box w5 _ _ from q0.out).rules
  cases g with
  | false =>
      have HP := hide (HP.out.trans (if_pos rfl))
      go_wp2
      refine bodyPost_ret (v := .tuple #[av ⟨5, (x2 : Int), 0, zF⟩ none 0 0, .int .i64 2]) (by simp [results, Try.results120, go_sem, cp0]) rfl ?_
      rw [HP.out]
      refine ⟨⟨_, _, _, _, rfl, fun h => absurd h (by simp)⟩, ?_⟩
      repeat (first | (with_reducible refine Kept.setCell ?_ (.inl (by simp; try omega)) _) | (with_reducible refine Kept.at_ ?_ (Kept.of_below (Below.alloc (Below.refl _ _) (Nat.le_refl _) _) [pr])))
      exact HK5.out
  | true =>
      have HP := hide (HP.out.trans (if_neg (by decide)))
      go_wp2
      refine bodyPost_ret (v := .tuple #[av ⟨5, (x2 : Int), 0, zF⟩ none 0 0, .int .i64 0]) (by simp [results, Try.results120, go_sem, cp0]) rfl ?_
      rw [HP.out]
      refine ⟨⟨_, _, _, _, rfl, fun _ => ⟨rfl, rfl, Nat.le_refl _, Bytes.nil _ _, fun h => absurd rfl h, ?_⟩⟩, ?_⟩
      · repeat (first | (with_reducible refine Rd.setOther ?_ (by simp; omega) _) | (with_reducible refine Rd.grow ?_ ((Grow.refl _).alloc _)))
        exact hr5
      · repeat (first | (with_reducible refine Kept.setCell ?_ (.inl (by simp; try omega)) _) | (with_reducible refine Kept.at_ ?_ (Kept.of_below (Below.alloc (Below.refl _ _) (Nat.le_refl _) _) [pr])))
        exact HK5.out
set_option maxRecDepth 100000 in
set_option maxHeartbeats 2000000 in
theorem aget_7 (N pr : Nat) (b : List UInt8) (w : World) (h : Rd w N pr (b, 0)) (_hbl : b.length ≤ 1000000000000) (x1 : Nat) (r1 : List UInt8) (e1 : Int) (hT1 : rbyte (b, 0) = (x1, r1, e1)) (hk : x1 = 7) (he : e1 = 0) (x2 : Nat) (r2 : List UInt8) (e2 : Int) (hT2 : rbyte (r1, 0) = (x2, r2, e2)) :
    Calls Try.prog 120 #[.pointer (some ⟨pr, 0, none⟩)] w fun r w' => GotA w w' r N pr (ag b) := by
  have hpr : pr < w.heap.size := Nat.lt_of_lt_of_le h.lt h.size
  have hN := h.size
  have HF := hide (fun W h => rbyte_any N pr (b, 0) W h)
  have hx1 := rbyte_lt (b, 0)
  subst hk he
  have HP := hide ((ag_n hT1 (by omega) hT2).trans (agFin_if _ _ _ _))
  rw [show ((7 : Nat) : Int) = 7 from rfl] at HP
  have HG := hide (fun A c W h hn => agood_any ⟨7, (x2 : Int), 0, zF⟩ A [] c W h hn)
  have hE := hide (fun W h => err_any N pr (r1, 0) W h)
  have hEe := hide (fun W h => err_any N pr (r2, e2) W h)
  have HRx2 := hide (fun W h => rbyte_any N pr (r1, 0) W h)
  have hlx2 := rbyte_lt (r1, 0)
  rw [hT2] at HRx2 hlx2
  clear hT2
  rw [hT1] at HF hx1
  generalize actB _ _ = g at *
  generalize ag b = Q at *
  clear hT1
  dsimp only at *
  go_enter Try.func120, Try.ntmps120
  go_wp2_with fail
  refine (HF.out _ (h.grow ((Grow.refl w).alloc _))).mono ?_
  rintro r w1 ⟨rfl, hr1, hb1⟩
  obtain ⟨p0, hg1⟩ := peelK1 hb1 (by simp; omega)
  have p0_ := hide p0
  clear p0
  have p0 := p0_
  clear p0_
  have HK1 := hide (show Kept w.heap.size [pr] w w1 from hg1)
  have hsz1 : w.heap.size ≤ w1.heap.size := HK1.out.size
  have hq1 : w.heap.size ≤ w1.heap.size := hg1.size
  have HS1 := hide hg1
  clear hb1 hg1
  obtain ⟨cp0, fp0, lp0⟩ := (show Box w1 _ _ from p0.out).rules
  have hw01 := lp0
  go_wp2_with fail
  generalize hW2 : World.alloc w1 _ = w2
  have hb2 := Grow.of_eq hW2
  clear hW2
  have hr2 := hr1.grow (Grow.trans ((Grow.refl _).alloc _) hb2)
  clear hr1
  clear cp0 fp0 lp0
  obtain ⟨q0, hg2'⟩ := peel1 hb2
  have hg2 := Kept.of_below hg2' [pr]
  clear hg2'
  have p0_ := hide ((show Box w1 _ _ from p0.out).kept hg2 (by simp; omega))
  clear p0
  have p0 := p0_
  clear p0_
  have q0_ := hide q0
  clear q0
  have q0 := q0_
  clear q0_
  have HK2 := hide (Kept.at_ (show Kept w.heap.size [pr] w w1 from HK1.out) hg2)
  clear HK1
  have hsz2 : w.heap.size ≤ w2.heap.size := HK2.out.size
  have hq2 : w1.heap.size ≤ w2.heap.size := hg2.size
  have HS2 := hide hg2
  clear hb2 hg2
  obtain ⟨cp0, fp0, lp0⟩ := (show Box w2 _ _ from p0.out).rules
  obtain ⟨cq0, fq0, lq0⟩ := (show Box w2 _ _ from q0.out).rules
  have hw12 := lq0
  refine (hE.out _ hr2).mono ?_
  rintro r w' ⟨rfl, rfl⟩
  go_wp2_with fail
  refine (HRx2.out _ hr2).mono ?_
  rintro r w3 ⟨rfl, hr3, hb3⟩
  clear hr2
  clear cp0 fp0 lp0 cq0 fq0 lq0
  have hg3 := hb3
  have p0_ := hide ((show Box w2 _ _ from p0.out).kept hg3 (by simp; omega))
  clear p0
  have p0 := p0_
  clear p0_
  have q0_ := hide ((show Box w2 _ _ from q0.out).kept hg3 (by simp; omega))
  clear q0
  have q0 := q0_
  clear q0_
  have HK3 := hide (Kept.at_ (show Kept w.heap.size [pr] w w2 from HK2.out) hg3)
  clear HK2
  have hsz3 : w.heap.size ≤ w3.heap.size := HK3.out.size
  have hq3 : w2.heap.size ≤ w3.heap.size := hg3.size
  have HS3 := hide hg3
  clear hb3 hg3
  obtain ⟨cp0, fp0, lp0⟩ := (show Box w3 _ _ from p0.out).rules
  obtain ⟨cq0, fq0, lq0⟩ := (show Box w3 _ _ from q0.out).rules
  go_wp2_with fail
  clear cp0 fp0 lp0 cq0 fq0 lq0
  generalize hW4 : World.setCell w3 _ _ = w4
  have n4 := Box.store1 (show Box w3 _ _ from q0.out) hW4
  simp only [List.setIfInBounds_toArray, List.set_cons_zero, List.set_cons_succ] at n4
  have p0_ := hide (Box.keep_ne (show Box w3 _ _ from p0.out) hW4 (by simp <;> omega))
  clear p0
  have p0 := p0_
  clear p0_
  have hr3 := Rd.store1 hr3 hW4 (by simp <;> omega)
  have HK4 := hide (Kept.store1 (show Kept w.heap.size [pr] w w3 from HK3.out) hW4 (by simp <;> omega))
  clear HK3
  have hsz4 : w.heap.size ≤ w4.heap.size := HK4.out.size
  have hq4 : w3.heap.size ≤ w4.heap.size := by rw [← hW4]; simp [World.setCell]
  clear hW4
  have q0_ := hide n4
  clear n4 q0
  have q0 := q0_
  clear q0_
  obtain ⟨cp0, fp0, lp0⟩ := (show Box w4 _ _ from p0.out).rules
  obtain ⟨cq0, fq0, lq0⟩ := (show Box w4 _ _ from q0.out).rules
  refine (hEe.out _ hr3).mono ?_
  rintro r w' ⟨rfl, rfl⟩
  by_cases he : e2 = 0
  rotate_left
  · have hne := hide he
    have he' : (e2 != 0) = true := by simpa using he
    have HP := hide (HP.out.trans (if_pos he))
    clear he
    go_wp2
    refine bodyPost_ret (v := .tuple #[av ⟨7, (x2 : Int), 0, zF⟩ none 0 0, .int .i64 e2]) (by simp [results, Try.results120, go_sem, cp0]) rfl ?_
    rw [HP.out]
    refine ⟨⟨_, _, _, _, rfl, fun h => absurd h hne.out⟩, ?_⟩
    repeat (first | (with_reducible refine Kept.setCell ?_ (.inl (by simp; try omega)) _) | (with_reducible refine Kept.at_ ?_ (Kept.of_below (Below.alloc (Below.refl _ _) (Nat.le_refl _) _) [pr])))
    exact HK4.out
  subst he
  have HP := hide (HP.out.trans (if_neg (by simp)))
  go_wp2_with fail
  refine (HG.out _ _ _ (Bytes.nil _ _) (by decide)).mono ?_
  rintro r w5 ⟨rfl, hb5⟩
  have hr5 := hr3.grow hb5
  clear hr3
  clear cp0 fp0 lp0 cq0 fq0 lq0
  have hg5 := Kept.of_below hb5 [pr]
  have p0_ := hide ((show Box w4 _ _ from p0.out).kept hg5 (by simp; omega))
  clear p0
  have p0 := p0_
  clear p0_
  have q0_ := hide ((show Box w4 _ _ from q0.out).kept hg5 (by simp; omega))
  clear q0
  have q0 := q0_
  clear q0_
  have HK5 := hide (Kept.at_ (show Kept w.heap.size [pr] w w4 from HK4.out) hg5)
  clear HK4
  have hsz5 : w.heap.size ≤ w5.heap.size := HK5.out.size
  have hq5 : w4.heap.size ≤ w5.heap.size := hg5.size
  have HS5 := hide hg5
  clear hb5 hg5
  obtain ⟨cp0, fp0, lp0⟩ := (show Box w5 _ _ from p0.out).rules
  obtain ⟨cq0, fq0, lq0⟩ := (show Box w5 _ _ from q0.out).rules
  cases g with
  | false =>
      have HP := hide (HP.out.trans (if_pos rfl))
      go_wp2
      refine bodyPost_ret (v := .tuple #[av ⟨7, (x2 : Int), 0, zF⟩ none 0 0, .int .i64 2]) (by simp [results, Try.results120, go_sem, cp0]) rfl ?_
      rw [HP.out]
      refine ⟨⟨_, _, _, _, rfl, fun h => absurd h (by simp)⟩, ?_⟩
      repeat (first | (with_reducible refine Kept.setCell ?_ (.inl (by simp; try omega)) _) | (with_reducible refine Kept.at_ ?_ (Kept.of_below (Below.alloc (Below.refl _ _) (Nat.le_refl _) _) [pr])))
      exact HK5.out
  | true =>
      have HP := hide (HP.out.trans (if_neg (by decide)))
      go_wp2
      refine bodyPost_ret (v := .tuple #[av ⟨7, (x2 : Int), 0, zF⟩ none 0 0, .int .i64 0]) (by simp [results, Try.results120, go_sem, cp0]) rfl ?_
      rw [HP.out]
      refine ⟨⟨_, _, _, _, rfl, fun _ => ⟨rfl, rfl, Nat.le_refl _, Bytes.nil _ _, fun h => absurd rfl h, ?_⟩⟩, ?_⟩
      · repeat (first | (with_reducible refine Rd.setOther ?_ (by simp; omega) _) | (with_reducible refine Rd.grow ?_ ((Grow.refl _).alloc _)))
        exact hr5
      · repeat (first | (with_reducible refine Kept.setCell ?_ (.inl (by simp; try omega)) _) | (with_reducible refine Kept.at_ ?_ (Kept.of_below (Below.alloc (Below.refl _ _) (Nat.le_refl _) _) [pr])))
        exact HK5.out
set_option maxRecDepth 100000 in
set_option maxHeartbeats 2000000 in
theorem aget_8 (N pr : Nat) (b : List UInt8) (w : World) (h : Rd w N pr (b, 0)) (_hbl : b.length ≤ 1000000000000) (x1 : Nat) (r1 : List UInt8) (e1 : Int) (hT1 : rbyte (b, 0) = (x1, r1, e1)) (hk : x1 = 8) (he : e1 = 0) (x2 : Nat) (r2 : List UInt8) (e2 : Int) (hT2 : rbyte (r1, 0) = (x2, r2, e2)) :
    Calls Try.prog 120 #[.pointer (some ⟨pr, 0, none⟩)] w fun r w' => GotA w w' r N pr (ag b) := by
  have hpr : pr < w.heap.size := Nat.lt_of_lt_of_le h.lt h.size
  have hN := h.size
  have HF := hide (fun W h => rbyte_any N pr (b, 0) W h)
  have hx1 := rbyte_lt (b, 0)
  subst hk he
  have HP := hide ((ag_n hT1 (by omega) hT2).trans (agFin_if _ _ _ _))
  rw [show ((8 : Nat) : Int) = 8 from rfl] at HP
  have HG := hide (fun A c W h hn => agood_any ⟨8, (x2 : Int), 0, zF⟩ A [] c W h hn)
  have hE := hide (fun W h => err_any N pr (r1, 0) W h)
  have hEe := hide (fun W h => err_any N pr (r2, e2) W h)
  have HRx2 := hide (fun W h => rbyte_any N pr (r1, 0) W h)
  have hlx2 := rbyte_lt (r1, 0)
  rw [hT2] at HRx2 hlx2
  clear hT2
  rw [hT1] at HF hx1
  generalize actB _ _ = g at *
  generalize ag b = Q at *
  clear hT1
  dsimp only at *
  go_enter Try.func120, Try.ntmps120
  go_wp2_with fail
  refine (HF.out _ (h.grow ((Grow.refl w).alloc _))).mono ?_
  rintro r w1 ⟨rfl, hr1, hb1⟩
  obtain ⟨p0, hg1⟩ := peelK1 hb1 (by simp; omega)
  have p0_ := hide p0
  clear p0
  have p0 := p0_
  clear p0_
  have HK1 := hide (show Kept w.heap.size [pr] w w1 from hg1)
  have hsz1 : w.heap.size ≤ w1.heap.size := HK1.out.size
  have hq1 : w.heap.size ≤ w1.heap.size := hg1.size
  have HS1 := hide hg1
  clear hb1 hg1
  obtain ⟨cp0, fp0, lp0⟩ := (show Box w1 _ _ from p0.out).rules
  have hw01 := lp0
  go_wp2_with fail
  generalize hW2 : World.alloc w1 _ = w2
  have hb2 := Grow.of_eq hW2
  clear hW2
  have hr2 := hr1.grow (Grow.trans ((Grow.refl _).alloc _) hb2)
  clear hr1
  clear cp0 fp0 lp0
  obtain ⟨q0, hg2'⟩ := peel1 hb2
  have hg2 := Kept.of_below hg2' [pr]
  clear hg2'
  have p0_ := hide ((show Box w1 _ _ from p0.out).kept hg2 (by simp; omega))
  clear p0
  have p0 := p0_
  clear p0_
  have q0_ := hide q0
  clear q0
  have q0 := q0_
  clear q0_
  have HK2 := hide (Kept.at_ (show Kept w.heap.size [pr] w w1 from HK1.out) hg2)
  clear HK1
  have hsz2 : w.heap.size ≤ w2.heap.size := HK2.out.size
  have hq2 : w1.heap.size ≤ w2.heap.size := hg2.size
  have HS2 := hide hg2
  clear hb2 hg2
  obtain ⟨cp0, fp0, lp0⟩ := (show Box w2 _ _ from p0.out).rules
  obtain ⟨cq0, fq0, lq0⟩ := (show Box w2 _ _ from q0.out).rules
  have hw12 := lq0
  refine (hE.out _ hr2).mono ?_
  rintro r w' ⟨rfl, rfl⟩
  go_wp2_with fail
  refine (HRx2.out _ hr2).mono ?_
  rintro r w3 ⟨rfl, hr3, hb3⟩
  clear hr2
  clear cp0 fp0 lp0 cq0 fq0 lq0
  have hg3 := hb3
  have p0_ := hide ((show Box w2 _ _ from p0.out).kept hg3 (by simp; omega))
  clear p0
  have p0 := p0_
  clear p0_
  have q0_ := hide ((show Box w2 _ _ from q0.out).kept hg3 (by simp; omega))
  clear q0
  have q0 := q0_
  clear q0_
  have HK3 := hide (Kept.at_ (show Kept w.heap.size [pr] w w2 from HK2.out) hg3)
  clear HK2
  have hsz3 : w.heap.size ≤ w3.heap.size := HK3.out.size
  have hq3 : w2.heap.size ≤ w3.heap.size := hg3.size
  have HS3 := hide hg3
  clear hb3 hg3
  obtain ⟨cp0, fp0, lp0⟩ := (show Box w3 _ _ from p0.out).rules
  obtain ⟨cq0, fq0, lq0⟩ := (show Box w3 _ _ from q0.out).rules
  go_wp2_with fail
  clear cp0 fp0 lp0 cq0 fq0 lq0
  generalize hW4 : World.setCell w3 _ _ = w4
  have n4 := Box.store1 (show Box w3 _ _ from q0.out) hW4
  simp only [List.setIfInBounds_toArray, List.set_cons_zero, List.set_cons_succ] at n4
  have p0_ := hide (Box.keep_ne (show Box w3 _ _ from p0.out) hW4 (by simp <;> omega))
  clear p0
  have p0 := p0_
  clear p0_
  have hr3 := Rd.store1 hr3 hW4 (by simp <;> omega)
  have HK4 := hide (Kept.store1 (show Kept w.heap.size [pr] w w3 from HK3.out) hW4 (by simp <;> omega))
  clear HK3
  have hsz4 : w.heap.size ≤ w4.heap.size := HK4.out.size
  have hq4 : w3.heap.size ≤ w4.heap.size := by rw [← hW4]; simp [World.setCell]
  clear hW4
  have q0_ := hide n4
  clear n4 q0
  have q0 := q0_
  clear q0_
  obtain ⟨cp0, fp0, lp0⟩ := (show Box w4 _ _ from p0.out).rules
  obtain ⟨cq0, fq0, lq0⟩ := (show Box w4 _ _ from q0.out).rules
  refine (hEe.out _ hr3).mono ?_
  rintro r w' ⟨rfl, rfl⟩
  by_cases he : e2 = 0
  rotate_left
  · have hne := hide he
    have he' : (e2 != 0) = true := by simpa using he
    have HP := hide (HP.out.trans (if_pos he))
    clear he
    go_wp2
    refine bodyPost_ret (v := .tuple #[av ⟨8, (x2 : Int), 0, zF⟩ none 0 0, .int .i64 e2]) (by simp [results, Try.results120, go_sem, cp0]) rfl ?_
    rw [HP.out]
    refine ⟨⟨_, _, _, _, rfl, fun h => absurd h hne.out⟩, ?_⟩
    repeat (first | (with_reducible refine Kept.setCell ?_ (.inl (by simp; try omega)) _) | (with_reducible refine Kept.at_ ?_ (Kept.of_below (Below.alloc (Below.refl _ _) (Nat.le_refl _) _) [pr])))
    exact HK4.out
  subst he
  have HP := hide (HP.out.trans (if_neg (by simp)))
  go_wp2_with fail
  refine (HG.out _ _ _ (Bytes.nil _ _) (by decide)).mono ?_
  rintro r w5 ⟨rfl, hb5⟩
  have hr5 := hr3.grow hb5
  clear hr3
  clear cp0 fp0 lp0 cq0 fq0 lq0
  have hg5 := Kept.of_below hb5 [pr]
  have p0_ := hide ((show Box w4 _ _ from p0.out).kept hg5 (by simp; omega))
  clear p0
  have p0 := p0_
  clear p0_
  have q0_ := hide ((show Box w4 _ _ from q0.out).kept hg5 (by simp; omega))
  clear q0
  have q0 := q0_
  clear q0_
  have HK5 := hide (Kept.at_ (show Kept w.heap.size [pr] w w4 from HK4.out) hg5)
  clear HK4
  have hsz5 : w.heap.size ≤ w5.heap.size := HK5.out.size
  have hq5 : w4.heap.size ≤ w5.heap.size := hg5.size
  have HS5 := hide hg5
  clear hb5 hg5
  obtain ⟨cp0, fp0, lp0⟩ := (show Box w5 _ _ from p0.out).rules
  obtain ⟨cq0, fq0, lq0⟩ := (show Box w5 _ _ from q0.out).rules
  cases g with
  | false =>
      have HP := hide (HP.out.trans (if_pos rfl))
      go_wp2
      refine bodyPost_ret (v := .tuple #[av ⟨8, (x2 : Int), 0, zF⟩ none 0 0, .int .i64 2]) (by simp [results, Try.results120, go_sem, cp0]) rfl ?_
      rw [HP.out]
      refine ⟨⟨_, _, _, _, rfl, fun h => absurd h (by simp)⟩, ?_⟩
      repeat (first | (with_reducible refine Kept.setCell ?_ (.inl (by simp; try omega)) _) | (with_reducible refine Kept.at_ ?_ (Kept.of_below (Below.alloc (Below.refl _ _) (Nat.le_refl _) _) [pr])))
      exact HK5.out
  | true =>
      have HP := hide (HP.out.trans (if_neg (by decide)))
      go_wp2
      refine bodyPost_ret (v := .tuple #[av ⟨8, (x2 : Int), 0, zF⟩ none 0 0, .int .i64 0]) (by simp [results, Try.results120, go_sem, cp0]) rfl ?_
      rw [HP.out]
      refine ⟨⟨_, _, _, _, rfl, fun _ => ⟨rfl, rfl, Nat.le_refl _, Bytes.nil _ _, fun h => absurd rfl h, ?_⟩⟩, ?_⟩
      · repeat (first | (with_reducible refine Rd.setOther ?_ (by simp; omega) _) | (with_reducible refine Rd.grow ?_ ((Grow.refl _).alloc _)))
        exact hr5
      · repeat (first | (with_reducible refine Kept.setCell ?_ (.inl (by simp; try omega)) _) | (with_reducible refine Kept.at_ ?_ (Kept.of_below (Below.alloc (Below.refl _ _) (Nat.le_refl _) _) [pr])))
        exact HK5.out
theorem aget_any (N pr : Nat) (b : List UInt8) (w : World) (h : Rd w N pr (b, 0)) (hbl : b.length ≤ 1000000000000) :
    Calls Try.prog 120 #[.pointer (some ⟨pr, 0, none⟩)] w fun r w' => GotA w w' r N pr (ag b) := by
  obtain ⟨x1, r1, e1, h1⟩ : ∃ x1 r1 e1, rbyte (b, 0) = (x1, r1, e1) := ⟨_, _, _, rfl⟩
  by_cases he : e1 = 0
  rotate_left
  · exact aget_err N pr b w h hbl x1 r1 e1 h1 he
  by_cases hk : x1 < 1 ∨ 8 < x1
  · exact aget_kind N pr b w h hbl x1 r1 e1 h1 he hk
  obtain ⟨x2, r2, e2, h2⟩ : ∃ x1 r1' e1, rbyte (r1, 0) = (x1, r1', e1) := ⟨_, _, _, rfl⟩
  have hc : x1 = 1 ∨ x1 = 2 ∨ x1 = 3 ∨ x1 = 4 ∨ x1 = 5 ∨ x1 = 6 ∨ x1 = 7 ∨ x1 = 8 := by omega
  rcases hc with k | k | k | k | k | k | k | k
  · exact aget_1 N pr b w h hbl x1 r1 e1 h1 k he x2 r2 e2 h2
  · exact aget_2 N pr b w h hbl x1 r1 e1 h1 k he x2 r2 e2 h2 _ _ _ rfl
  · exact aget_3 N pr b w h hbl x1 r1 e1 h1 k he
  · exact aget_4 N pr b w h hbl x1 r1 e1 h1 k he x2 r2 e2 h2
  · exact aget_5 N pr b w h hbl x1 r1 e1 h1 k he x2 r2 e2 h2
  · exact aget_6 N pr b w h hbl x1 r1 e1 h1 k he x2 r2 e2 h2 _ _ _ rfl
  · exact aget_7 N pr b w h hbl x1 r1 e1 h1 k he x2 r2 e2 h2
  · exact aget_8 N pr b w h hbl x1 r1 e1 h1 k he x2 r2 e2 h2
end Go.Proofs.Ytcghgahohmabnaa
