/- Fates that are read: the plain law, the walk of fate.Get. -/
import Derived.Test.YtcghgahohmabnaaFtP
import Derived.Test.YtcghgahohmabnaaRdr
namespace Go.Proofs.Ytcghgahohmabnaa
open Go.RowKit
abbrev noF : Fate := { kind := 0, delay := 0, again := 0, pos := 0, bits := 0 }
theorem frbyte_bad (l : List UInt8) (e : Int) (h : e ≠ 0) : rbyte (l, e) = (0, l, e) := by unfold rbyte rfix; exact rget_bad _ _ (l, e) h
theorem frfix4_lt (s : List UInt8 × Int) : (rfix 4 s).1 < 4294967296 := by
  obtain ⟨b, e⟩ := s
  by_cases he : e = 0
  · subst he
    show (Buf.getFixed b 4).1 < _
    unfold Buf.getFixed
    rw [if_neg (by omega)]
    split
    · decide
    · have h := Buf.num_lt (b.take (4 : Int).toNat)
      have h2 : (b.take (4 : Int).toNat).length ≤ 4 := by rw [List.length_take]; exact Nat.min_le_left _ _
      have h3 := Nat.pow_le_pow_right (show 0 < 256 by decide) h2
      dsimp only
      omega
  · rw [show rfix 4 (b, e) = (0, b, e) from rget_bad _ _ (b, e) he]; exact (by decide : (0 : Nat) < 4294967296)
def f1 (b : List UInt8) := rbyte (b, 0)
def f2 (b : List UInt8) := rbyte (f1 b).2
def f3 (b : List UInt8) := rbyte (f2 b).2
def x3 (b : List UInt8) := rfix 4 (f2 b).2
def x4 (b : List UInt8) := rfix 4 (x3 b).2
/-- the fate that the bytes hold, whether or not it may be -/
def fgQ (b : List UInt8) : Fate :=
  if (f1 b).1 = 1 then { kind := 1, delay := 0, again := 0, pos := 0, bits := 0 }
  else if (f1 b).1 = 2 then { kind := 2, delay := ((f2 b).1 : Int), again := ((f3 b).1 : Int), pos := 0, bits := 0 }
  else if (f1 b).1 = 3 then { kind := 3, delay := ((f2 b).1 : Int), again := 0, pos := ((x3 b).1 : Int), bits := ((x4 b).1 : Int) }
  else { kind := 0, delay := ((f2 b).1 : Int), again := 0, pos := 0, bits := 0 }
def fgS (b : List UInt8) : List UInt8 × Int :=
  if (f1 b).1 = 1 then (f1 b).2 else if (f1 b).1 = 2 then (f3 b).2 else if (f1 b).1 = 3 then (x4 b).2 else (f2 b).2
/-- a fate, as a reader reads it: the fate, the rest, what is wrong -/
def fg (b : List UInt8) : Fate × List UInt8 × Int :=
  if 4 ≤ (f1 b).1 then (noF, [], 7) else if (f1 b).2.2 ≠ 0 then (noF, [], (f1 b).2.2) else if (fgS b).2 ≠ 0 then (noF, [], (fgS b).2)
  else if fateB (fgQ b) = false then (noF, [], 2) else (fgQ b, (fgS b).1, 0)
section
variable {b r1 r2 r3 r4 : List UInt8} {x1 x2 y z : Nat} {e1 e2 e3 e4 : Int}
theorem fg_big (h : rbyte (b, 0) = (x1, r1, e1)) (hx : 4 ≤ x1) : fg b = (noF, [], 7) := by
  have e : f1 b = (x1, r1, e1) := h
  unfold fg
  rw [e, if_pos hx]
theorem fg_err (h : rbyte (b, 0) = (x1, r1, e1)) (he : e1 ≠ 0) : fg b = (noF, [], e1) := by
  have e : f1 b = (x1, r1, e1) := h
  have h0 : x1 = 0 := by
    match b, h with
    | [], h => have h := congrArg Prod.fst h; exact h.symm
    | a :: r, h =>
      exfalso
      have h2 : (rbyte (a :: r, 0)).2.2 = 0 := by
        show (Buf.getFixed (a :: r) 1).2.2 = 0
        unfold Buf.getFixed
        rw [if_neg (by omega), if_neg (by simp)]
      rw [h] at h2
      exact he h2
  unfold fg
  rw [e, if_neg (by dsimp only; omega), if_pos he]
theorem fg_1 (h : rbyte (b, 0) = (1, r1, 0)) : fg b = ({ kind := 1, delay := 0, again := 0, pos := 0, bits := 0 }, r1, 0) := by
  have e : f1 b = (1, r1, 0) := h
  unfold fg fgQ fgS
  rw [e]
  rfl
theorem fg_0 (h : rbyte (b, 0) = (0, r1, 0)) (h2 : rbyte (r1, 0) = (x2, r2, e2)) : fg b = if e2 ≠ 0 then (noF, [], e2) else if fateB { kind := 0, delay := (x2 : Int), again := 0, pos := 0, bits := 0 } = false then (noF, [], 2) else ({ kind := 0, delay := (x2 : Int), again := 0, pos := 0, bits := 0 }, r2, 0) := by
  have e : f1 b = (0, r1, 0) := h
  have e2 : f2 b = (x2, r2, e2) := by unfold f2; rw [e]; exact h2
  unfold fg fgQ fgS
  rw [e, e2]
  rfl
theorem fg_2 (h : rbyte (b, 0) = (2, r1, 0)) (h2 : rbyte (r1, 0) = (x2, r2, e2)) (h3 : rbyte (r2, e2) = (y, r3, e3)) : fg b = if e3 ≠ 0 then (noF, [], e3) else if fateB { kind := 2, delay := (x2 : Int), again := (y : Int), pos := 0, bits := 0 } = false then (noF, [], 2) else ({ kind := 2, delay := (x2 : Int), again := (y : Int), pos := 0, bits := 0 }, r3, 0) := by
  have e : f1 b = (2, r1, 0) := h
  have e2 : f2 b = (x2, r2, e2) := by unfold f2; rw [e]; exact h2
  have e3 : f3 b = (y, r3, e3) := by unfold f3; rw [e2]; exact h3
  unfold fg fgQ fgS
  rw [e, e2, e3]
  rfl
theorem fg_3 (h : rbyte (b, 0) = (3, r1, 0)) (h2 : rbyte (r1, 0) = (x2, r2, e2)) (h3 : rfix 4 (r2, e2) = (y, r3, e3)) (h4 : rfix 4 (r3, e3) = (z, r4, e4)) : fg b = if e4 ≠ 0 then (noF, [], e4) else if fateB { kind := 3, delay := (x2 : Int), again := 0, pos := (y : Int), bits := (z : Int) } = false then (noF, [], 2) else ({ kind := 3, delay := (x2 : Int), again := 0, pos := (y : Int), bits := (z : Int) }, r4, 0) := by
  have e : f1 b = (3, r1, 0) := h
  have e2 : f2 b = (x2, r2, e2) := by unfold f2; rw [e]; exact h2
  have e3 : x3 b = (y, r3, e3) := by unfold x3; rw [e2]; exact h3
  have e4 : x4 b = (z, r4, e4) := by unfold x4; rw [e3]; exact h4
  unfold fg fgQ fgS
  rw [e, e2, e3, e4]
  rfl
end
def GotF (w w' : World) (r : Ending) (N pr : Nat) (q : Fate) (rest : List UInt8) (e : Int) : Prop := r = .returned (.tuple #[fv q, .int .i64 e]) ∧ (e = 0 → Rd w' N pr (rest, 0)) ∧ Kept w.heap.size [pr] w w'
theorem gotf_bad {w w' : World} {N pr : Nat} {rest : List UInt8} {e : Int} (he : e ≠ 0) (hk : Kept w.heap.size [pr] w w') : GotF w w' (.returned (.tuple #[fv noF, .int .i64 e])) N pr noF rest e := ⟨rfl, fun h => absurd h he, hk⟩
set_option maxRecDepth 100000 in
set_option maxHeartbeats 2000000 in
theorem fget_big (N pr : Nat) (b : List UInt8) (w : World) (h : Rd w N pr (b, 0)) (x1 : Nat) (r1 : List UInt8) (e1 : Int) (hT1 : rbyte (b, 0) = (x1, r1, e1)) (hk : 4 ≤ x1) :
    Calls Try.prog 58 #[.pointer (some ⟨pr, 0, none⟩)] w fun r w' => GotF w w' r N pr (fg b).1 (fg b).2.1 (fg b).2.2 := by
  have hpr : pr < w.heap.size := Nat.lt_of_lt_of_le h.lt h.size
  have hN := h.size
  have HF := hide (fun W h => rbyte_any N pr (b, 0) W h)
  have hx1 := rbyte_lt (b, 0)
  have HP := hide (fg_big hT1 hk)
  rw [hT1] at HF hx1
  generalize fg b = Q at *
  clear hT1
  dsimp only at *
  go_enter Try.func58, Try.ntmps58
  go_wp2_with fail
  refine (HF.out _ (h.grow ((Grow.refl w).alloc _))).mono ?_
  rintro r w1 ⟨rfl, hr1, hb1⟩
  obtain ⟨p0, hg1⟩ := peelK1 hb1 (by simp; omega)
  have p0_ := hide p0
  clear p0
  have p0 := p0_
  clear p0_
  have HK1 := hide (show Kept w.heap.size [pr] w w1 from hg1)
  have hsz1 : w.heap.size ≤ w1.heap.size := HK1.out.size
  have hq1 : w.heap.size ≤ w1.heap.size := hg1.size
  have HS1 := hide hg1
  clear hb1 hg1
  obtain ⟨cp0, fp0, lp0⟩ := (show Box w1 _ _ from p0.out).rules
  have hw01 := lp0
  have hk4 : (4 : Int) ≤ (x1 : Int) := by omega
  go_wp2
  refine bodyPost_ret (v := .tuple #[fv noF, .int .i64 7]) (by simp [results, Try.results58, go_sem, cp0, lp0]) rfl ?_
  rw [HP.out]
  refine gotf_bad (by first | exact absurd | decide) ?_
  repeat (first | (with_reducible refine Kept.setCell ?_ (.inl (by simp; try omega)) _) | (with_reducible refine Kept.at_ ?_ (Kept.of_below (Below.alloc (Below.refl _ _) (Nat.le_refl _) _) [pr])))
  exact HK1.out
set_option maxRecDepth 100000 in
set_option maxHeartbeats 2000000 in
theorem fget_err (N pr : Nat) (b : List UInt8) (w : World) (h : Rd w N pr (b, 0)) (x1 : Nat) (r1 : List UInt8) (e1 : Int) (hT1 : rbyte (b, 0) = (x1, r1, e1)) (hk : x1 < 4) (he : e1 ≠ 0) :
    Calls Try.prog 58 #[.pointer (some ⟨pr, 0, none⟩)] w fun r w' => GotF w w' r N pr (fg b).1 (fg b).2.1 (fg b).2.2 := by
  have hpr : pr < w.heap.size := Nat.lt_of_lt_of_le h.lt h.size
  have hN := h.size
  have HF := hide (fun W h => rbyte_any N pr (b, 0) W h)
  have hx1 := rbyte_lt (b, 0)
  have HP := hide (fg_err hT1 he)
  have hE := hide (fun W h => err_any N pr (r1, e1) W h)
  rw [hT1] at HF hx1
  generalize fg b = Q at *
  clear hT1
  dsimp only at *
  have hne := hide he
  have he' : (e1 != 0) = true := by simpa using he
  clear he
  go_enter Try.func58, Try.ntmps58
  go_wp2_with fail
  refine (HF.out _ (h.grow ((Grow.refl w).alloc _))).mono ?_
  rintro r w1 ⟨rfl, hr1, hb1⟩
  obtain ⟨p0, hg1⟩ := peelK1 hb1 (by simp; omega)
  have p0_ := hide p0
  clear p0
  have p0 := p0_
  clear p0_
  have HK1 := hide (show Kept w.heap.size [pr] w w1 from hg1)
  have hsz1 : w.heap.size ≤ w1.heap.size := HK1.out.size
  have hq1 : w.heap.size ≤ w1.heap.size := hg1.size
  have HS1 := hide hg1
  clear hb1 hg1
  obtain ⟨cp0, fp0, lp0⟩ := (show Box w1 _ _ from p0.out).rules
  have hw01 := lp0
  have hk4 : (x1 : Int) < 4 := by omega
  go_wp2_with fail
  generalize hW2 : World.alloc w1 _ = w2
  have hb2 := Grow.of_eq hW2
  clear hW2
  have hr2 := hr1.grow (Grow.trans ((Grow.refl _).alloc _) hb2)
  clear hr1
  clear cp0 fp0 lp0
  obtain ⟨q0, hg2'⟩ := peel1 hb2
  have hg2 := Kept.of_below hg2' [pr]
  clear hg2'
  have p0_ := hide ((show Box w1 _ _ from p0.out).kept hg2 (by simp; omega))
  clear p0
  have p0 := p0_
  clear p0_
  have q0_ := hide q0
  clear q0
  have q0 := q0_
  clear q0_
  have HK2 := hide (Kept.at_ (show Kept w.heap.size [pr] w w1 from HK1.out) hg2)
  clear HK1
  have hsz2 : w.heap.size ≤ w2.heap.size := HK2.out.size
  have hq2 : w1.heap.size ≤ w2.heap.size := hg2.size
  have HS2 := hide hg2
  clear hb2 hg2
  obtain ⟨cp0, fp0, lp0⟩ := (show Box w2 _ _ from p0.out).rules
  obtain ⟨cq0, fq0, lq0⟩ := (show Box w2 _ _ from q0.out).rules
  refine (hE.out _ hr2).mono ?_
  rintro r w' ⟨rfl, rfl⟩
  go_wp2
  refine bodyPost_ret (v := .tuple #[fv noF, .int .i64 e1]) (by simp [results, Try.results58, go_sem, cp0, lp0, cq0, lq0]) rfl ?_
  rw [HP.out]
  refine gotf_bad (by first | exact hne.out | decide) ?_
  repeat (first | (with_reducible refine Kept.setCell ?_ (.inl (by simp; try omega)) _) | (with_reducible refine Kept.at_ ?_ (Kept.of_below (Below.alloc (Below.refl _ _) (Nat.le_refl _) _) [pr])))
  exact HK2.out
set_option maxRecDepth 100000 in
set_option maxHeartbeats 2000000 in
theorem fget_1 (N pr : Nat) (b : List UInt8) (w : World) (h : Rd w N pr (b, 0)) (x1 : Nat) (r1 : List UInt8) (e1 : Int) (hT1 : rbyte (b, 0) = (x1, r1, e1)) (hk : x1 = 1) (he : e1 = 0) :
    Calls Try.prog 58 #[.pointer (some ⟨pr, 0, none⟩)] w fun r w' => GotF w w' r N pr (fg b).1 (fg b).2.1 (fg b).2.2 := by
  have hpr : pr < w.heap.size := Nat.lt_of_lt_of_le h.lt h.size
  have hN := h.size
  have HF := hide (fun W h => rbyte_any N pr (b, 0) W h)
  have hx1 := rbyte_lt (b, 0)
  subst hk he
  have HP0 := hide (fg_1 hT1)
  have HP : Hid (fg b = if fateB { kind := 1, delay := 0, again := 0, pos := 0, bits := 0 } = false then (noF, [], 2) else ({ kind := 1, delay := 0, again := 0, pos := 0, bits := 0 }, r1, 0)) := hide HP0.out
  clear HP0
  have HG := hide (fun W => fgood_any { kind := 1, delay := 0, again := 0, pos := 0, bits := 0 } W)
  have hE := hide (fun W h => err_any N pr (r1, 0) W h)
  rw [hT1] at HF hx1
  generalize fateB _ = g at *
  generalize fg b = Q at *
  clear hT1
  dsimp only at *
  go_enter Try.func58, Try.ntmps58
  go_wp2_with fail
  refine (HF.out _ (h.grow ((Grow.refl w).alloc _))).mono ?_
  rintro r w1 ⟨rfl, hr1, hb1⟩
  obtain ⟨p0, hg1⟩ := peelK1 hb1 (by simp; omega)
  have p0_ := hide p0
  clear p0
  have p0 := p0_
  clear p0_
  have HK1 := hide (show Kept w.heap.size [pr] w w1 from hg1)
  have hsz1 : w.heap.size ≤ w1.heap.size := HK1.out.size
  have hq1 : w.heap.size ≤ w1.heap.size := hg1.size
  have HS1 := hide hg1
  clear hb1 hg1
  obtain ⟨cp0, fp0, lp0⟩ := (show Box w1 _ _ from p0.out).rules
  have hw01 := lp0
  go_wp2_with fail
  generalize hW2 : World.alloc w1 _ = w2
  have hb2 := Grow.of_eq hW2
  clear hW2
  have hr2 := hr1.grow (Grow.trans ((Grow.refl _).alloc _) hb2)
  clear hr1
  clear cp0 fp0 lp0
  obtain ⟨q0, hg2'⟩ := peel1 hb2
  have hg2 := Kept.of_below hg2' [pr]
  clear hg2'
  have p0_ := hide ((show Box w1 _ _ from p0.out).kept hg2 (by simp; omega))
  clear p0
  have p0 := p0_
  clear p0_
  have q0_ := hide q0
  clear q0
  have q0 := q0_
  clear q0_
  have HK2 := hide (Kept.at_ (show Kept w.heap.size [pr] w w1 from HK1.out) hg2)
  clear HK1
  have hsz2 : w.heap.size ≤ w2.heap.size := HK2.out.size
  have hq2 : w1.heap.size ≤ w2.heap.size := hg2.size
  have HS2 := hide hg2
  clear hb2 hg2
  obtain ⟨cp0, fp0, lp0⟩ := (show Box w2 _ _ from p0.out).rules
  obtain ⟨cq0, fq0, lq0⟩ := (show Box w2 _ _ from q0.out).rules
  refine (hE.out _ hr2).mono ?_
  rintro r w' ⟨rfl, rfl⟩
  go_wp2_with fail
  refine (hE.out _ hr2).mono ?_
  rintro r w' ⟨rfl, rfl⟩
  go_wp2_with fail
  refine (HG.out _).mono ?_
  rintro r w3 ⟨rfl, hb3⟩
  have hr3 := hr2.grow hb3
  clear hr2
  clear cp0 fp0 lp0 cq0 fq0 lq0
  have hg3 := Kept.of_below hb3 [pr]
  have p0_ := hide ((show Box w2 _ _ from p0.out).kept hg3 (by simp; omega))
  clear p0
  have p0 := p0_
  clear p0_
  have q0_ := hide ((show Box w2 _ _ from q0.out).kept hg3 (by simp; omega))
  clear q0
  have q0 := q0_
  clear q0_
  have HK3 := hide (Kept.at_ (show Kept w.heap.size [pr] w w2 from HK2.out) hg3)
  clear HK2
  have hsz3 : w.heap.size ≤ w3.heap.size := HK3.out.size
  have hq3 : w2.heap.size ≤ w3.heap.size := hg3.size
  have HS3 := hide hg3
  clear hb3 hg3
  obtain ⟨cp0, fp0, lp0⟩ := (show Box w3 _ _ from p0.out).rules
  obtain ⟨cq0, fq0, lq0⟩ := (show Box w3 _ _ from q0.out).rules
  cases g with
  | false =>
      have HP := hide (HP.out.trans (if_pos rfl))
      go_wp2
      refine bodyPost_ret (v := .tuple #[fv noF, .int .i64 2]) (by simp [results, Try.results58, go_sem, cp0, lp0, cq0, lq0]) rfl ?_
      rw [HP.out]
      refine gotf_bad (by first | exact absurd | decide) ?_
      repeat (first | (with_reducible refine Kept.setCell ?_ (.inl (by simp; try omega)) _) | (with_reducible refine Kept.at_ ?_ (Kept.of_below (Below.alloc (Below.refl _ _) (Nat.le_refl _) _) [pr])))
      exact HK3.out
  | true =>
      have HP := hide (HP.out.trans (if_neg (by decide)))
      go_wp2
      refine bodyPost_ret (v := .tuple #[fv { kind := 1, delay := 0, again := 0, pos := 0, bits := 0 }, .int .i64 0]) (by simp [results, Try.results58, go_sem, cp0, cq0, lp0, lq0]) rfl ?_
      rw [HP.out]
      refine ⟨rfl, fun _ => ?_, ?_⟩
      · repeat (with_reducible refine Rd.setOther ?_ (by simp; omega) _)
        exact hr3
      · repeat (first | (with_reducible refine Kept.setCell ?_ (.inl (by simp; try omega)) _) | (with_reducible refine Kept.at_ ?_ (Kept.of_below (Below.alloc (Below.refl _ _) (Nat.le_refl _) _) [pr])))
        exact HK3.out
theorem Box.store2 {w w' : World} {g : Nat} {a0 a1 a2 a3 a4 b3 b4 : Value} (h : Box w g #[a0, a1, a2, a3, a4]) (hW : World.setCell (World.setCell w ⟨g, 3, none⟩ b3) ⟨g, 4, none⟩ b4 = w') : Box w' g #[a0, a1, a2, b3, b4] := by
  subst hW
  exact (Box.set h 3 b3).set 4 b4
theorem Box.keep2 {w w' : World} {g : Nat} {cs : Array Value} {p q : Addr} {v u : Value} (h : Box w g cs) (hW : World.setCell (World.setCell w p v) q u = w') (h1 : p.block ≠ g) (h2 : q.block ≠ g) : Box w' g cs :=
  Box.keep_ne (Box.keep_ne h rfl h1) hW h2
theorem Rd.store2 {w w' : World} {N pr : Nat} {s : List UInt8 × Int} {p q : Addr} {v u : Value} (h : Rd w N pr s) (hW : World.setCell (World.setCell w p v) q u = w') (h1 : N ≤ p.block) (h2 : N ≤ q.block) : Rd w' N pr s :=
  Rd.store1 (Rd.store1 h rfl h1) hW h2
set_option maxRecDepth 100000 in
set_option maxHeartbeats 2000000 in
theorem fget_0 (N pr : Nat) (b : List UInt8) (w : World) (h : Rd w N pr (b, 0)) (x1 : Nat) (r1 : List UInt8) (e1 : Int) (hT1 : rbyte (b, 0) = (x1, r1, e1)) (hk : x1 = 0) (he : e1 = 0) (x2 : Nat) (r2 : List UInt8) (e2 : Int) (hT2 : rbyte (r1, 0) = (x2, r2, e2)) :
    Calls Try.prog 58 #[.pointer (some ⟨pr, 0, none⟩)] w fun r w' => GotF w w' r N pr (fg b).1 (fg b).2.1 (fg b).2.2 := by
  have hpr : pr < w.heap.size := Nat.lt_of_lt_of_le h.lt h.size
  have hN := h.size
  have HF := hide (fun W h => rbyte_any N pr (b, 0) W h)
  have hx1 := rbyte_lt (b, 0)
  subst hk he
  have HP := hide (fg_0 hT1 hT2)
  have HG := hide (fun W => fgood_any { kind := 0, delay := (x2 : Int), again := 0, pos := 0, bits := 0 } W)
  have hE := hide (fun W h => err_any N pr (r1, 0) W h)
  have hEe := hide (fun W h => err_any N pr (r2, e2) W h)
  have HRx2 := hide (fun W h => rbyte_any N pr (r1, 0) W h)
  have hlx2 := rbyte_lt (r1, 0)
  rw [hT2] at HRx2 hlx2
  clear hT2
  rw [hT1] at HF hx1
  generalize fateB _ = g at *
  generalize fg b = Q at *
  clear hT1
  dsimp only at *
  go_enter Try.func58, Try.ntmps58
  go_wp2_with fail
  refine (HF.out _ (h.grow ((Grow.refl w).alloc _))).mono ?_
  rintro r w1 ⟨rfl, hr1, hb1⟩
  obtain ⟨p0, hg1⟩ := peelK1 hb1 (by simp; omega)
  have p0_ := hide p0
  clear p0
  have p0 := p0_
  clear p0_
  have HK1 := hide (show Kept w.heap.size [pr] w w1 from hg1)
  have hsz1 : w.heap.size ≤ w1.heap.size := HK1.out.size
  have hq1 : w.heap.size ≤ w1.heap.size := hg1.size
  have HS1 := hide hg1
  clear hb1 hg1
  obtain ⟨cp0, fp0, lp0⟩ := (show Box w1 _ _ from p0.out).rules
  have hw01 := lp0
  go_wp2_with fail
  generalize hW2 : World.alloc w1 _ = w2
  have hb2 := Grow.of_eq hW2
  clear hW2
  have hr2 := hr1.grow (Grow.trans ((Grow.refl _).alloc _) hb2)
  clear hr1
  clear cp0 fp0 lp0
  obtain ⟨q0, hg2'⟩ := peel1 hb2
  have hg2 := Kept.of_below hg2' [pr]
  clear hg2'
  have p0_ := hide ((show Box w1 _ _ from p0.out).kept hg2 (by simp; omega))
  clear p0
  have p0 := p0_
  clear p0_
  have q0_ := hide q0
  clear q0
  have q0 := q0_
  clear q0_
  have HK2 := hide (Kept.at_ (show Kept w.heap.size [pr] w w1 from HK1.out) hg2)
  clear HK1
  have hsz2 : w.heap.size ≤ w2.heap.size := HK2.out.size
  have hq2 : w1.heap.size ≤ w2.heap.size := hg2.size
  have HS2 := hide hg2
  clear hb2 hg2
  obtain ⟨cp0, fp0, lp0⟩ := (show Box w2 _ _ from p0.out).rules
  obtain ⟨cq0, fq0, lq0⟩ := (show Box w2 _ _ from q0.out).rules
  refine (hE.out _ hr2).mono ?_
  rintro r w' ⟨rfl, rfl⟩
  go_wp2_with fail
  refine (HRx2.out _ hr2).mono ?_
  rintro r w3 ⟨rfl, hr3, hb3⟩
  clear hr2
  clear cp0 fp0 lp0 cq0 fq0 lq0
  have hg3 := hb3
  have p0_ := hide ((show Box w2 _ _ from p0.out).kept hg3 (by simp; omega))
  clear p0
  have p0 := p0_
  clear p0_
  have q0_ := hide ((show Box w2 _ _ from q0.out).kept hg3 (by simp; omega))
  clear q0
  have q0 := q0_
  clear q0_
  have HK3 := hide (Kept.at_ (show Kept w.heap.size [pr] w w2 from HK2.out) hg3)
  clear HK2
  have hsz3 : w.heap.size ≤ w3.heap.size := HK3.out.size
  have hq3 : w2.heap.size ≤ w3.heap.size := hg3.size
  have HS3 := hide hg3
  clear hb3 hg3
  obtain ⟨cp0, fp0, lp0⟩ := (show Box w3 _ _ from p0.out).rules
  obtain ⟨cq0, fq0, lq0⟩ := (show Box w3 _ _ from q0.out).rules
  go_wp2_with fail
  clear cp0 fp0 lp0 cq0 fq0 lq0
  generalize hW4 : World.setCell w3 _ _ = w4
  have n4 := Box.store1 (show Box w3 _ _ from q0.out) hW4
  simp only [List.setIfInBounds_toArray, List.set_cons_zero, List.set_cons_succ] at n4
  have p0_ := hide (Box.keep_ne (show Box w3 _ _ from p0.out) hW4 (by simp <;> omega))
  clear p0
  have p0 := p0_
  clear p0_
  have hr3 := Rd.store1 hr3 hW4 (by simp <;> omega)
  have HK4 := hide (Kept.store1 (show Kept w.heap.size [pr] w w3 from HK3.out) hW4 (by simp <;> omega))
  clear HK3
  have hsz4 : w.heap.size ≤ w4.heap.size := HK4.out.size
  have hq4 : w3.heap.size ≤ w4.heap.size := by rw [← hW4]; simp [World.setCell]
  clear hW4
  have q0_ := hide n4
  clear n4 q0
  have q0 := q0_
  clear q0_
  obtain ⟨cp0, fp0, lp0⟩ := (show Box w4 _ _ from p0.out).rules
  obtain ⟨cq0, fq0, lq0⟩ := (show Box w4 _ _ from q0.out).rules
  have hr4 := hr3
  refine (hEe.out _ hr3).mono ?_
  rintro r w' ⟨rfl, rfl⟩
  by_cases he : e2 = 0
  rotate_left
  · have hne := hide he
    have he' : (e2 != 0) = true := by simpa using he
    have HP := hide (HP.out.trans (if_pos he))
    clear he
    go_wp2
    refine bodyPost_ret (v := .tuple #[fv noF, .int .i64 e2]) (by simp [results, Try.results58, go_sem, cp0, lp0, cq0, lq0]) rfl ?_
    rw [HP.out]
    refine gotf_bad (by first | exact hne.out | decide) ?_
    repeat (first | (with_reducible refine Kept.setCell ?_ (.inl (by simp; try omega)) _) | (with_reducible refine Kept.at_ ?_ (Kept.of_below (Below.alloc (Below.refl _ _) (Nat.le_refl _) _) [pr])))
    exact HK4.out
  subst he
  have HP := hide (HP.out.trans (if_neg (by simp)))
  go_wp2_with fail
  refine (HG.out _).mono ?_
  rintro r w5 ⟨rfl, hb5⟩
  have hr5 := hr3.grow hb5
  clear hr3
  clear cp0 fp0 lp0 cq0 fq0 lq0
  have hg5 := Kept.of_below hb5 [pr]
  have p0_ := hide ((show Box w4 _ _ from p0.out).kept hg5 (by simp; omega))
  clear p0
  have p0 := p0_
  clear p0_
  have q0_ := hide ((show Box w4 _ _ from q0.out).kept hg5 (by simp; omega))
  clear q0
  have q0 := q0_
  clear q0_
  have HK5 := hide (Kept.at_ (show Kept w.heap.size [pr] w w4 from HK4.out) hg5)
  clear HK4
  have hsz5 : w.heap.size ≤ w5.heap.size := HK5.out.size
  have hq5 : w4.heap.size ≤ w5.heap.size := hg5.size
  have HS5 := hide hg5
  clear hb5 hg5
  obtain ⟨cp0, fp0, lp0⟩ := (show Box w5 _ _ from p0.out).rules
  obtain ⟨cq0, fq0, lq0⟩ := (show Box w5 _ _ from q0.out).rules
  cases g with
  | false =>
      have HP := hide (HP.out.trans (if_pos rfl))
      go_wp2
      refine bodyPost_ret (v := .tuple #[fv noF, .int .i64 2]) (by simp [results, Try.results58, go_sem, cp0, lp0, cq0, lq0]) rfl ?_
      rw [HP.out]
      refine gotf_bad (by first | exact absurd | decide) ?_
      repeat (first | (with_reducible refine Kept.setCell ?_ (.inl (by simp; try omega)) _) | (with_reducible refine Kept.at_ ?_ (Kept.of_below (Below.alloc (Below.refl _ _) (Nat.le_refl _) _) [pr])))
      exact HK5.out
  | true =>
      have HP := hide (HP.out.trans (if_neg (by decide)))
      go_wp2
      refine bodyPost_ret (v := .tuple #[fv { kind := 0, delay := (x2 : Int), again := 0, pos := 0, bits := 0 }, .int .i64 0]) (by simp [results, Try.results58, go_sem, cp0, cq0, lp0, lq0]) rfl ?_
      rw [HP.out]
      refine ⟨rfl, fun _ => ?_, ?_⟩
      · repeat (with_reducible refine Rd.setOther ?_ (by simp; omega) _)
        exact hr5
      · repeat (first | (with_reducible refine Kept.setCell ?_ (.inl (by simp; try omega)) _) | (with_reducible refine Kept.at_ ?_ (Kept.of_below (Below.alloc (Below.refl _ _) (Nat.le_refl _) _) [pr])))
        exact HK5.out
set_option maxRecDepth 100000 in
set_option maxHeartbeats 2000000 in
theorem fget_2 (N pr : Nat) (b : List UInt8) (w : World) (h : Rd w N pr (b, 0)) (x1 : Nat) (r1 : List UInt8) (e1 : Int) (hT1 : rbyte (b, 0) = (x1, r1, e1)) (hk : x1 = 2) (he : e1 = 0) (x2 : Nat) (r2 : List UInt8) (e2 : Int) (hT2 : rbyte (r1, 0) = (x2, r2, e2)) (y : Nat) (r3 : List UInt8) (e3 : Int) (hT3 : rbyte (r2, e2) = (y, r3, e3)) :
    Calls Try.prog 58 #[.pointer (some ⟨pr, 0, none⟩)] w fun r w' => GotF w w' r N pr (fg b).1 (fg b).2.1 (fg b).2.2 := by
  have hpr : pr < w.heap.size := Nat.lt_of_lt_of_le h.lt h.size
  have hN := h.size
  have HF := hide (fun W h => rbyte_any N pr (b, 0) W h)
  have hx1 := rbyte_lt (b, 0)
  subst hk he
  have HP := hide (fg_2 hT1 hT2 hT3)
  have HG := hide (fun W => fgood_any { kind := 2, delay := (x2 : Int), again := (y : Int), pos := 0, bits := 0 } W)
  have hE := hide (fun W h => err_any N pr (r1, 0) W h)
  have hEe := hide (fun W h => err_any N pr (r3, e3) W h)
  have HRx2 := hide (fun W h => rbyte_any N pr (r1, 0) W h)
  have hlx2 := rbyte_lt (r1, 0)
  rw [hT2] at HRx2 hlx2
  clear hT2
  have HRy := hide (fun W h => rbyte_any N pr (r2, e2) W h)
  have hly := rbyte_lt (r2, e2)
  rw [hT3] at HRy hly
  clear hT3
  rw [hT1] at HF hx1
  generalize fateB _ = g at *
  generalize fg b = Q at *
  clear hT1
  dsimp only at *
  go_enter Try.func58, Try.ntmps58
  go_wp2_with fail
  refine (HF.out _ (h.grow ((Grow.refl w).alloc _))).mono ?_
  rintro r w1 ⟨rfl, hr1, hb1⟩
  obtain ⟨p0, hg1⟩ := peelK1 hb1 (by simp; omega)
  have p0_ := hide p0
  clear p0
  have p0 := p0_
  clear p0_
  have HK1 := hide (show Kept w.heap.size [pr] w w1 from hg1)
  have hsz1 : w.heap.size ≤ w1.heap.size := HK1.out.size
  have hq1 : w.heap.size ≤ w1.heap.size := hg1.size
  have HS1 := hide hg1
  clear hb1 hg1
  obtain ⟨cp0, fp0, lp0⟩ := (show Box w1 _ _ from p0.out).rules
  have hw01 := lp0
  go_wp2_with fail
  generalize hW2 : World.alloc w1 _ = w2
  have hb2 := Grow.of_eq hW2
  clear hW2
  have hr2 := hr1.grow (Grow.trans ((Grow.refl _).alloc _) hb2)
  clear hr1
  clear cp0 fp0 lp0
  obtain ⟨q0, hg2'⟩ := peel1 hb2
  have hg2 := Kept.of_below hg2' [pr]
  clear hg2'
  have p0_ := hide ((show Box w1 _ _ from p0.out).kept hg2 (by simp; omega))
  clear p0
  have p0 := p0_
  clear p0_
  have q0_ := hide q0
  clear q0
  have q0 := q0_
  clear q0_
  have HK2 := hide (Kept.at_ (show Kept w.heap.size [pr] w w1 from HK1.out) hg2)
  clear HK1
  have hsz2 : w.heap.size ≤ w2.heap.size := HK2.out.size
  have hq2 : w1.heap.size ≤ w2.heap.size := hg2.size
  have HS2 := hide hg2
  clear hb2 hg2
  obtain ⟨cp0, fp0, lp0⟩ := (show Box w2 _ _ from p0.out).rules
  obtain ⟨cq0, fq0, lq0⟩ := (show Box w2 _ _ from q0.out).rules
  refine (hE.out _ hr2).mono ?_
  rintro r w' ⟨rfl, rfl⟩
  go_wp2_with fail
  refine (HRx2.out _ hr2).mono ?_
  rintro r w3 ⟨rfl, hr3, hb3⟩
  clear hr2
  clear cp0 fp0 lp0 cq0 fq0 lq0
  have hg3 := hb3
  have p0_ := hide ((show Box w2 _ _ from p0.out).kept hg3 (by simp; omega))
  clear p0
  have p0 := p0_
  clear p0_
  have q0_ := hide ((show Box w2 _ _ from q0.out).kept hg3 (by simp; omega))
  clear q0
  have q0 := q0_
  clear q0_
  have HK3 := hide (Kept.at_ (show Kept w.heap.size [pr] w w2 from HK2.out) hg3)
  clear HK2
  have hsz3 : w.heap.size ≤ w3.heap.size := HK3.out.size
  have hq3 : w2.heap.size ≤ w3.heap.size := hg3.size
  have HS3 := hide hg3
  clear hb3 hg3
  obtain ⟨cp0, fp0, lp0⟩ := (show Box w3 _ _ from p0.out).rules
  obtain ⟨cq0, fq0, lq0⟩ := (show Box w3 _ _ from q0.out).rules
  go_wp2_with fail
  clear cp0 fp0 lp0 cq0 fq0 lq0
  generalize hW4 : World.setCell w3 _ _ = w4
  have n4 := Box.store1 (show Box w3 _ _ from q0.out) hW4
  simp only [List.setIfInBounds_toArray, List.set_cons_zero, List.set_cons_succ] at n4
  have p0_ := hide (Box.keep_ne (show Box w3 _ _ from p0.out) hW4 (by simp <;> omega))
  clear p0
  have p0 := p0_
  clear p0_
  have hr3 := Rd.store1 hr3 hW4 (by simp <;> omega)
  have HK4 := hide (Kept.store1 (show Kept w.heap.size [pr] w w3 from HK3.out) hW4 (by simp <;> omega))
  clear HK3
  have hsz4 : w.heap.size ≤ w4.heap.size := HK4.out.size
  have hq4 : w3.heap.size ≤ w4.heap.size := by rw [← hW4]; simp [World.setCell]
  clear hW4
  have q0_ := hide n4
  clear n4 q0
  have q0 := q0_
  clear q0_
  obtain ⟨cp0, fp0, lp0⟩ := (show Box w4 _ _ from p0.out).rules
  obtain ⟨cq0, fq0, lq0⟩ := (show Box w4 _ _ from q0.out).rules
  have hr4 := hr3
  go_wp2_with fail
  refine (HRy.out _ hr3).mono ?_
  rintro r w5 ⟨rfl, hr5, hb5⟩
  clear hr3
  clear cp0 fp0 lp0 cq0 fq0 lq0
  have hg5 := hb5
  have p0_ := hide ((show Box w4 _ _ from p0.out).kept hg5 (by simp; omega))
  clear p0
  have p0 := p0_
  clear p0_
  have q0_ := hide ((show Box w4 _ _ from q0.out).kept hg5 (by simp; omega))
  clear q0
  have q0 := q0_
  clear q0_
  have HK5 := hide (Kept.at_ (show Kept w.heap.size [pr] w w4 from HK4.out) hg5)
  clear HK4
  have hsz5 : w.heap.size ≤ w5.heap.size := HK5.out.size
  have hq5 : w4.heap.size ≤ w5.heap.size := hg5.size
  have HS5 := hide hg5
  clear hb5 hg5
  obtain ⟨cp0, fp0, lp0⟩ := (show Box w5 _ _ from p0.out).rules
  obtain ⟨cq0, fq0, lq0⟩ := (show Box w5 _ _ from q0.out).rules
  go_wp2_with fail
  clear cp0 fp0 lp0 cq0 fq0 lq0
  generalize hW6 : World.setCell w5 _ _ = w6
  have n6 := Box.store1 (show Box w5 _ _ from q0.out) hW6
  simp only [List.setIfInBounds_toArray, List.set_cons_zero, List.set_cons_succ] at n6
  have p0_ := hide (Box.keep_ne (show Box w5 _ _ from p0.out) hW6 (by simp <;> omega))
  clear p0
  have p0 := p0_
  clear p0_
  have hr5 := Rd.store1 hr5 hW6 (by simp <;> omega)
  have HK6 := hide (Kept.store1 (show Kept w.heap.size [pr] w w5 from HK5.out) hW6 (by simp <;> omega))
  clear HK5
  have hsz6 : w.heap.size ≤ w6.heap.size := HK6.out.size
  have hq6 : w5.heap.size ≤ w6.heap.size := by rw [← hW6]; simp [World.setCell]
  clear hW6
  have q0_ := hide n6
  clear n6 q0
  have q0 := q0_
  clear q0_
  obtain ⟨cp0, fp0, lp0⟩ := (show Box w6 _ _ from p0.out).rules
  obtain ⟨cq0, fq0, lq0⟩ := (show Box w6 _ _ from q0.out).rules
  have hr6 := hr5
  refine (hEe.out _ hr5).mono ?_
  rintro r w' ⟨rfl, rfl⟩
  by_cases he : e3 = 0
  rotate_left
  · have hne := hide he
    have he' : (e3 != 0) = true := by simpa using he
    have HP := hide (HP.out.trans (if_pos he))
    clear he
    go_wp2
    refine bodyPost_ret (v := .tuple #[fv noF, .int .i64 e3]) (by simp [results, Try.results58, go_sem, cp0, lp0, cq0, lq0]) rfl ?_
    rw [HP.out]
    refine gotf_bad (by first | exact hne.out | decide) ?_
    repeat (first | (with_reducible refine Kept.setCell ?_ (.inl (by simp; try omega)) _) | (with_reducible refine Kept.at_ ?_ (Kept.of_below (Below.alloc (Below.refl _ _) (Nat.le_refl _) _) [pr])))
    exact HK6.out
  subst he
  have HP := hide (HP.out.trans (if_neg (by simp)))
  go_wp2_with fail
  refine (HG.out _).mono ?_
  rintro r w7 ⟨rfl, hb7⟩
  have hr7 := hr5.grow hb7
  clear hr5
  clear cp0 fp0 lp0 cq0 fq0 lq0
  have hg7 := Kept.of_below hb7 [pr]
  have p0_ := hide ((show Box w6 _ _ from p0.out).kept hg7 (by simp; omega))
  clear p0
  have p0 := p0_
  clear p0_
  have q0_ := hide ((show Box w6 _ _ from q0.out).kept hg7 (by simp; omega))
  clear q0
  have q0 := q0_
  clear q0_
  have HK7 := hide (Kept.at_ (show Kept w.heap.size [pr] w w6 from HK6.out) hg7)
  clear HK6
  have hsz7 : w.heap.size ≤ w7.heap.size := HK7.out.size
  have hq7 : w6.heap.size ≤ w7.heap.size := hg7.size
  have HS7 := hide hg7
  clear hb7 hg7
  obtain ⟨cp0, fp0, lp0⟩ := (show Box w7 _ _ from p0.out).rules
  obtain ⟨cq0, fq0, lq0⟩ := (show Box w7 _ _ from q0.out).rules
  cases g with
  | false =>
      have HP := hide (HP.out.trans (if_pos rfl))
      go_wp2
      refine bodyPost_ret (v := .tuple #[fv noF, .int .i64 2]) (by simp [results, Try.results58, go_sem, cp0, lp0, cq0, lq0]) rfl ?_
      rw [HP.out]
      refine gotf_bad (by first | exact absurd | decide) ?_
      repeat (first | (with_reducible refine Kept.setCell ?_ (.inl (by simp; try omega)) _) | (with_reducible refine Kept.at_ ?_ (Kept.of_below (Below.alloc (Below.refl _ _) (Nat.le_refl _) _) [pr])))
      exact HK7.out
  | true =>
      have HP := hide (HP.out.trans (if_neg (by decide)))
      go_wp2
      refine bodyPost_ret (v := .tuple #[fv { kind := 2, delay := (x2 : Int), again := (y : Int), pos := 0, bits := 0 }, .int .i64 0]) (by simp [results, Try.results58, go_sem, cp0, cq0, lp0, lq0]) rfl ?_
      rw [HP.out]
      refine ⟨rfl, fun _ => ?_, ?_⟩
      · repeat (with_reducible refine Rd.setOther ?_ (by simp; omega) _)
        exact hr7
      · repeat (first | (with_reducible refine Kept.setCell ?_ (.inl (by simp; try omega)) _) | (with_reducible refine Kept.at_ ?_ (Kept.of_below (Below.alloc (Below.refl _ _) (Nat.le_refl _) _) [pr])))
        exact HK7.out
set_option maxRecDepth 100000 in
set_option maxHeartbeats 2000000 in
theorem fget_3 (N pr : Nat) (b : List UInt8) (w : World) (h : Rd w N pr (b, 0)) (x1 : Nat) (r1 : List UInt8) (e1 : Int) (hT1 : rbyte (b, 0) = (x1, r1, e1)) (hk : x1 = 3) (he : e1 = 0) (x2 : Nat) (r2 : List UInt8) (e2 : Int) (hT2 : rbyte (r1, 0) = (x2, r2, e2)) (y : Nat) (r3 : List UInt8) (e3 : Int) (hT3 : rfix 4 (r2, e2) = (y, r3, e3)) (z : Nat) (r4 : List UInt8) (e4 : Int) (hT4 : rfix 4 (r3, e3) = (z, r4, e4)) :
    Calls Try.prog 58 #[.pointer (some ⟨pr, 0, none⟩)] w fun r w' => GotF w w' r N pr (fg b).1 (fg b).2.1 (fg b).2.2 := by
  have hpr : pr < w.heap.size := Nat.lt_of_lt_of_le h.lt h.size
  have hN := h.size
  have HF := hide (fun W h => rbyte_any N pr (b, 0) W h)
  have hx1 := rbyte_lt (b, 0)
  subst hk he
  have HP := hide (fg_3 hT1 hT2 hT3 hT4)
  have HG := hide (fun W => fgood_any { kind := 3, delay := (x2 : Int), again := 0, pos := (y : Int), bits := (z : Int) } W)
  have hE := hide (fun W h => err_any N pr (r1, 0) W h)
  have hEe := hide (fun W h => err_any N pr (r4, e4) W h)
  have HRx2 := hide (fun W h => rbyte_any N pr (r1, 0) W h)
  have hlx2 := rbyte_lt (r1, 0)
  rw [hT2] at HRx2 hlx2
  clear hT2
  have HRy := hide (fun W h => rfix_any N pr (r2, e2) 4 W h)
  have hly := frfix4_lt (r2, e2)
  rw [hT3] at HRy hly
  clear hT3
  have HRz := hide (fun W h => rfix_any N pr (r3, e3) 4 W h)
  have hlz := frfix4_lt (r3, e3)
  rw [hT4] at HRz hlz
  clear hT4
  rw [hT1] at HF hx1
  generalize fateB _ = g at *
  generalize fg b = Q at *
  clear hT1
  dsimp only at *
  go_enter Try.func58, Try.ntmps58
  go_wp2_with fail
  refine (HF.out _ (h.grow ((Grow.refl w).alloc _))).mono ?_
  rintro r w1 ⟨rfl, hr1, hb1⟩
  obtain ⟨p0, hg1⟩ := peelK1 hb1 (by simp; omega)
  have p0_ := hide p0
  clear p0
  have p0 := p0_
  clear p0_
  have HK1 := hide (show Kept w.heap.size [pr] w w1 from hg1)
  have hsz1 : w.heap.size ≤ w1.heap.size := HK1.out.size
  have hq1 : w.heap.size ≤ w1.heap.size := hg1.size
  have HS1 := hide hg1
  clear hb1 hg1
  obtain ⟨cp0, fp0, lp0⟩ := (show Box w1 _ _ from p0.out).rules
  have hw01 := lp0
  go_wp2_with fail
  generalize hW2 : World.alloc w1 _ = w2
  have hb2 := Grow.of_eq hW2
  clear hW2
  have hr2 := hr1.grow (Grow.trans ((Grow.refl _).alloc _) hb2)
  clear hr1
  clear cp0 fp0 lp0
  obtain ⟨q0, hg2'⟩ := peel1 hb2
  have hg2 := Kept.of_below hg2' [pr]
  clear hg2'
  have p0_ := hide ((show Box w1 _ _ from p0.out).kept hg2 (by simp; omega))
  clear p0
  have p0 := p0_
  clear p0_
  have q0_ := hide q0
  clear q0
  have q0 := q0_
  clear q0_
  have HK2 := hide (Kept.at_ (show Kept w.heap.size [pr] w w1 from HK1.out) hg2)
  clear HK1
  have hsz2 : w.heap.size ≤ w2.heap.size := HK2.out.size
  have hq2 : w1.heap.size ≤ w2.heap.size := hg2.size
  have HS2 := hide hg2
  clear hb2 hg2
  obtain ⟨cp0, fp0, lp0⟩ := (show Box w2 _ _ from p0.out).rules
  obtain ⟨cq0, fq0, lq0⟩ := (show Box w2 _ _ from q0.out).rules
  refine (hE.out _ hr2).mono ?_
  rintro r w' ⟨rfl, rfl⟩
  go_wp2_with fail
  refine (HRx2.out _ hr2).mono ?_
  rintro r w3 ⟨rfl, hr3, hb3⟩
  clear hr2
  clear cp0 fp0 lp0 cq0 fq0 lq0
  have hg3 := hb3
  have p0_ := hide ((show Box w2 _ _ from p0.out).kept hg3 (by simp; omega))
  clear p0
  have p0 := p0_
  clear p0_
  have q0_ := hide ((show Box w2 _ _ from q0.out).kept hg3 (by simp; omega))
  clear q0
  have q0 := q0_
  clear q0_
  have HK3 := hide (Kept.at_ (show Kept w.heap.size [pr] w w2 from HK2.out) hg3)
  clear HK2
  have hsz3 : w.heap.size ≤ w3.heap.size := HK3.out.size
  have hq3 : w2.heap.size ≤ w3.heap.size := hg3.size
  have HS3 := hide hg3
  clear hb3 hg3
  obtain ⟨cp0, fp0, lp0⟩ := (show Box w3 _ _ from p0.out).rules
  obtain ⟨cq0, fq0, lq0⟩ := (show Box w3 _ _ from q0.out).rules
  go_wp2_with fail
  clear cp0 fp0 lp0 cq0 fq0 lq0
  generalize hW4 : World.setCell w3 _ _ = w4
  have n4 := Box.store1 (show Box w3 _ _ from q0.out) hW4
  simp only [List.setIfInBounds_toArray, List.set_cons_zero, List.set_cons_succ] at n4
  have p0_ := hide (Box.keep_ne (show Box w3 _ _ from p0.out) hW4 (by simp <;> omega))
  clear p0
  have p0 := p0_
  clear p0_
  have hr3 := Rd.store1 hr3 hW4 (by simp <;> omega)
  have HK4 := hide (Kept.store1 (show Kept w.heap.size [pr] w w3 from HK3.out) hW4 (by simp <;> omega))
  clear HK3
  have hsz4 : w.heap.size ≤ w4.heap.size := HK4.out.size
  have hq4 : w3.heap.size ≤ w4.heap.size := by rw [← hW4]; simp [World.setCell]
  clear hW4
  have q0_ := hide n4
  clear n4 q0
  have q0 := q0_
  clear q0_
  obtain ⟨cp0, fp0, lp0⟩ := (show Box w4 _ _ from p0.out).rules
  obtain ⟨cq0, fq0, lq0⟩ := (show Box w4 _ _ from q0.out).rules
  have hr4 := hr3
  go_wp2_with fail
  refine (HRy.out _ hr3).mono ?_
  rintro r w5 ⟨rfl, hr5, hb5⟩
  clear hr3
  clear cp0 fp0 lp0 cq0 fq0 lq0
  have hg5 := hb5
  have p0_ := hide ((show Box w4 _ _ from p0.out).kept hg5 (by simp; omega))
  clear p0
  have p0 := p0_
  clear p0_
  have q0_ := hide ((show Box w4 _ _ from q0.out).kept hg5 (by simp; omega))
  clear q0
  have q0 := q0_
  clear q0_
  have HK5 := hide (Kept.at_ (show Kept w.heap.size [pr] w w4 from HK4.out) hg5)
  clear HK4
  have hsz5 : w.heap.size ≤ w5.heap.size := HK5.out.size
  have hq5 : w4.heap.size ≤ w5.heap.size := hg5.size
  have HS5 := hide hg5
  clear hb5 hg5
  obtain ⟨cp0, fp0, lp0⟩ := (show Box w5 _ _ from p0.out).rules
  obtain ⟨cq0, fq0, lq0⟩ := (show Box w5 _ _ from q0.out).rules
  go_wp2_with fail
  refine (HRz.out _ hr5).mono ?_
  rintro r w6 ⟨rfl, hr6, hb6⟩
  clear hr5
  clear cp0 fp0 lp0 cq0 fq0 lq0
  have hg6 := hb6
  have p0_ := hide ((show Box w5 _ _ from p0.out).kept hg6 (by simp; omega))
  clear p0
  have p0 := p0_
  clear p0_
  have q0_ := hide ((show Box w5 _ _ from q0.out).kept hg6 (by simp; omega))
  clear q0
  have q0 := q0_
  clear q0_
  have HK6 := hide (Kept.at_ (show Kept w.heap.size [pr] w w5 from HK5.out) hg6)
  clear HK5
  have hsz6 : w.heap.size ≤ w6.heap.size := HK6.out.size
  have hq6 : w5.heap.size ≤ w6.heap.size := hg6.size
  have HS6 := hide hg6
  clear hb6 hg6
  obtain ⟨cp0, fp0, lp0⟩ := (show Box w6 _ _ from p0.out).rules
  obtain ⟨cq0, fq0, lq0⟩ := (show Box w6 _ _ from q0.out).rules
  go_wp2_with fail
  clear cp0 fp0 lp0 cq0 fq0 lq0
  generalize hW7 : World.setCell (World.setCell w6 _ _) _ _ = w7
  have n7 := Box.store2 (show Box w6 _ _ from q0.out) hW7
  have p0_ := hide (Box.keep2 (show Box w6 _ _ from p0.out) hW7 (by simp <;> omega) (by simp <;> omega))
  clear p0
  have p0 := p0_
  clear p0_
  have hr6 := Rd.store2 hr6 hW7 (by simp <;> omega) (by simp <;> omega)
  have HK7 := hide (by rw [← hW7]; exact Kept.setCell (Kept.setCell (show Kept w.heap.size [pr] w w6 from HK6.out) (.inl (by simp <;> omega)) _) (.inl (by simp <;> omega)) _ : Kept w.heap.size [pr] w w7)
  clear HK6
  have hsz7 : w.heap.size ≤ w7.heap.size := HK7.out.size
  have hq7 : w6.heap.size ≤ w7.heap.size := by rw [← hW7]; simp [World.setCell]
  clear hW7
  have q0_ := hide n7
  clear n7 q0
  have q0 := q0_
  clear q0_
  obtain ⟨cp0, fp0, lp0⟩ := (show Box w7 _ _ from p0.out).rules
  obtain ⟨cq0, fq0, lq0⟩ := (show Box w7 _ _ from q0.out).rules
  refine (hEe.out _ hr6).mono ?_
  rintro r w' ⟨rfl, rfl⟩
  by_cases he : e4 = 0
  rotate_left
  · have hne := hide he
    have he' : (e4 != 0) = true := by simpa using he
    have HP := hide (HP.out.trans (if_pos he))
    clear he
    go_wp2
    refine bodyPost_ret (v := .tuple #[fv noF, .int .i64 e4]) (by simp [results, Try.results58, go_sem, cp0, lp0, cq0, lq0]) rfl ?_
    rw [HP.out]
    refine gotf_bad (by first | exact hne.out | decide) ?_
    repeat (first | (with_reducible refine Kept.setCell ?_ (.inl (by simp; try omega)) _) | (with_reducible refine Kept.at_ ?_ (Kept.of_below (Below.alloc (Below.refl _ _) (Nat.le_refl _) _) [pr])))
    exact HK7.out
  subst he
  have HP := hide (HP.out.trans (if_neg (by simp)))
  go_wp2_with fail
  refine (HG.out _).mono ?_
  rintro r w8 ⟨rfl, hb8⟩
  have hr8 := hr6.grow hb8
  clear hr6
  clear cp0 fp0 lp0 cq0 fq0 lq0
  have hg8 := Kept.of_below hb8 [pr]
  have p0_ := hide ((show Box w7 _ _ from p0.out).kept hg8 (by simp; omega))
  clear p0
  have p0 := p0_
  clear p0_
  have q0_ := hide ((show Box w7 _ _ from q0.out).kept hg8 (by simp; omega))
  clear q0
  have q0 := q0_
  clear q0_
  have HK8 := hide (Kept.at_ (show Kept w.heap.size [pr] w w7 from HK7.out) hg8)
  clear HK7
  have hsz8 : w.heap.size ≤ w8.heap.size := HK8.out.size
  have hq8 : w7.heap.size ≤ w8.heap.size := hg8.size
  have HS8 := hide hg8
  clear hb8 hg8
  obtain ⟨cp0, fp0, lp0⟩ := (show Box w8 _ _ from p0.out).rules
  obtain ⟨cq0, fq0, lq0⟩ := (show Box w8 _ _ from q0.out).rules
  cases g with
  | false =>
      have HP := hide (HP.out.trans (if_pos rfl))
      go_wp2
      refine bodyPost_ret (v := .tuple #[fv noF, .int .i64 2]) (by simp [results, Try.results58, go_sem, cp0, lp0, cq0, lq0]) rfl ?_
      rw [HP.out]
      refine gotf_bad (by first | exact absurd | decide) ?_
      repeat (first | (with_reducible refine Kept.setCell ?_ (.inl (by simp; try omega)) _) | (with_reducible refine Kept.at_ ?_ (Kept.of_below (Below.alloc (Below.refl _ _) (Nat.le_refl _) _) [pr])))
      exact HK8.out
  | true =>
      have HP := hide (HP.out.trans (if_neg (by decide)))
      go_wp2
      refine bodyPost_ret (v := .tuple #[fv { kind := 3, delay := (x2 : Int), again := 0, pos := (y : Int), bits := (z : Int) }, .int .i64 0]) (by simp [results, Try.results58, go_sem, cp0, cq0, lp0, lq0]) rfl ?_
      rw [HP.out]
      refine ⟨rfl, fun _ => ?_, ?_⟩
      · repeat (with_reducible refine Rd.setOther ?_ (by simp; omega) _)
        exact hr8
      · repeat (first | (with_reducible refine Kept.setCell ?_ (.inl (by simp; try omega)) _) | (with_reducible refine Kept.at_ ?_ (Kept.of_below (Below.alloc (Below.refl _ _) (Nat.le_refl _) _) [pr])))
        exact HK8.out
theorem fget_any (N pr : Nat) (b : List UInt8) (w : World) (h : Rd w N pr (b, 0)) :
    Calls Try.prog 58 #[.pointer (some ⟨pr, 0, none⟩)] w fun r w' => GotF w w' r N pr (fg b).1 (fg b).2.1 (fg b).2.2 := by
  obtain ⟨x1, r1, e1, h1⟩ : ∃ x1 r1 e1, rbyte (b, 0) = (x1, r1, e1) := ⟨_, _, _, rfl⟩
  by_cases hk : 4 ≤ x1
  · exact fget_big N pr b w h x1 r1 e1 h1 hk
  by_cases he : e1 = 0
  rotate_left
  · exact fget_err N pr b w h x1 r1 e1 h1 (by omega) he
  obtain ⟨x2, r2, e2, h2⟩ : ∃ x1 r1' e1, rbyte (r1, 0) = (x1, r1', e1) := ⟨_, _, _, rfl⟩
  have hc : x1 = 0 ∨ x1 = 1 ∨ x1 = 2 ∨ x1 = 3 := by omega
  rcases hc with k | k | k | k
  · exact fget_0 N pr b w h x1 r1 e1 h1 k he x2 r2 e2 h2
  · exact fget_1 N pr b w h x1 r1 e1 h1 k he
  · exact fget_2 N pr b w h x1 r1 e1 h1 k he x2 r2 e2 h2 _ _ _ rfl
  · exact fget_3 N pr b w h x1 r1 e1 h1 k he x2 r2 e2 h2 _ _ _ rfl _ _ _ rfl
end Go.Proofs.Ytcghgahohmabnaa
