/- Walks and plain lemmas that several statements share. -/
import Derived.Test.YtpobjcdcimcdnaaFewS
import Derived.Test.YtpobjcdcimcdnaaDatS
import Derived.Test.YtpobjcdcimcdnaaPulS
namespace Go.Proofs.Ytpobjcdcimcdnaa
open Go.RowKit
theorem Bytes.keptN {w w' : World} {A : Option Addr} {l : List UInt8} {pr : Nat} (h : Bytes w A l) (hk : Kept w.heap.size [pr] w w') (hA : l ≠ [] → ∀ q, blk A = some q → q ≠ pr) : Bytes w' A l := by
  by_cases hl : l = []
  · subst hl; exact Bytes.nil _ _
  · exact h.keep fun b o hA' hlt => hk.block b hlt (by simp; exact hA hl b (by rw [hA']; rfl))
/-- what a Get leaves -/
def GotRd (w w' : World) (r : Ending) (N pr : Nat) (q : Pkt) (l rest : List UInt8) (e : Int) : Prop := GotPk w' r q l e ∧ (e = 0 → Rd w' N pr (rest, 0)) ∧ Kept w.heap.size [pr] w w'
theorem gotrd_ok {w w' : World} {N pr : Nat} {q : Pkt} {A : Option Addr} {l rest : List UInt8} {c : Nat} (hl : Bytes w A l) (hA : l ≠ [] → ∀ q, blk A = some q → q ≠ pr) (h1 : l.length ≤ c) (h2 : c ≤ 9223372036854775807) (hk : Kept w.heap.size [pr] w w') (hr : Rd w' N pr (rest, 0)) :
    GotRd w w' (.returned (.tuple #[pv q A l.length c, .int .i64 0])) N pr q l rest 0 := ⟨⟨A, c, rfl, h1, h2, hl.keptN hk hA⟩, fun _ => hr, hk⟩
theorem gotrd_bad {w w' : World} {N pr : Nat} {rest : List UInt8} {e : Int} (he : e ≠ 0) (hk : Kept w.heap.size [pr] w w') :
    GotRd w w' (.returned (.tuple #[pv noP none 0 0, .int .i64 e])) N pr noP [] rest e := ⟨⟨none, 0, rfl, Nat.le_refl _, by decide, Bytes.nil _ _⟩, fun h => absurd h he, hk⟩
/-- a number as one with its sign -/
abbrev i64of (x : Nat) : Int := wrap64 (x : Int)
def bodyOf (e : Int) (l : List UInt8) : List UInt8 := if e = 0 then l else []
def pg1 (b : List UInt8) (p : Pkt) : Pkt × List UInt8 × Int :=
  if (rfix 8 (b, 0)).2.2 = 0 then ({ p with stamp := i64of (rfix 8 (b, 0)).1 }, (rfix 8 (b, 0)).2.1, 0) else (noP, [], (rfix 8 (b, 0)).2.2)
def pg2 (b : List UInt8) (p : Pkt) : Pkt × List UInt8 × Int :=
  if (rfix 8 (rfix 8 (b, 0)).2).2.2 = 0 then ({ p with stamp := i64of (rfix 8 (b, 0)).1, value := i64of (rfix 8 (rfix 8 (b, 0)).2).1 }, (rfix 8 (rfix 8 (b, 0)).2).2.1, 0) else (noP, [], (rfix 8 (rfix 8 (b, 0)).2).2.2)
def noG (s : Nat × List UInt8 × Int) : Int := if s.2.2 = 0 ∧ 1152921504606846976 < s.1 then 2 else s.2.2
def pg3 (b : List UInt8) (p : Pkt) : Pkt × List UInt8 × Int :=
  if noG (rnum (b, 0)) = 0 then ({ p with no := ((rnum (b, 0)).1 : Int) }, (rnum (b, 0)).2.1, 0) else (noP, [], noG (rnum (b, 0)))
/-- what stands behind the head -/
def pg (b : List UInt8) (p : Pkt) : Pkt × List UInt8 × Int :=
  if p.kind = 1 then pg1 b p else if p.kind = 2 then pg2 b p else if p.kind = 3 then pg3 b p else (noP, [], 7)
set_option maxRecDepth 100000 in
set_option maxHeartbeats 2000000 in
theorem pulseget_1 (N pr : Nat) (b : List UInt8) (p : Pkt) (A : Option Addr) (l : List UInt8) (c : Nat) (w : World) (h : Rd w N pr (b, 0)) (hl : Bytes w A l) (hA : l ≠ [] → ∀ q, blk A = some q → q ≠ pr) (hl1 : l.length ≤ c) (hl2 : c ≤ 9223372036854775807) (k : p.kind = 1) :
    Calls Try.prog 151 #[.pointer (some ⟨pr, 0, none⟩), pv p A l.length c] w fun r w' => GotRd w w' r N pr (pg1 b p).1 (bodyOf (pg1 b p).2.2 l) (pg1 b p).2.1 (pg1 b p).2.2 := by
  have hpr : pr < w.heap.size := Nat.lt_of_lt_of_le h.lt h.size
  have hN := h.size
  have k1 : (p.kind == 1) = true := by simpa using k
  have k2 : (p.kind == 2) = false := by simp; omega
  clear k
  have hF := hide (fun W h => rfix_any N pr (b, 0) 8 W h)
  have HQ := hide (show pg1 b p = if (rfix 8 (b, 0)).2.2 = 0 then ({ p with stamp := i64of (rfix 8 (b, 0)).1 }, (rfix 8 (b, 0)).2.1, 0) else (noP, [], (rfix 8 (b, 0)).2.2) from rfl)
  generalize pg1 b p = Q at *
  generalize rfix 8 (b, 0) = T at *
  obtain ⟨x, rest, e1⟩ := T
  dsimp only at *
  go_enter Try.func151, Try.ntmps151
  go_wp2_with fail
  refine (hF.out _ (h.grow (((Grow.refl w).alloc _).alloc _))).mono ?_
  rintro r w1 ⟨rfl, hr1, hb1⟩
  obtain ⟨p0, q0, hg1⟩ := peelK2 hb1 (by simp; omega) (by simp; omega)
  have p0_ := hide p0
  clear p0
  have p0 := p0_
  clear p0_
  have q0_ := hide q0
  clear q0
  have q0 := q0_
  clear q0_
  have HK1 := hide (show Kept w.heap.size [pr] w w1 from hg1)
  have hsz1 : w.heap.size ≤ w1.heap.size := HK1.out.size
  have hq1 : w.heap.size ≤ w1.heap.size := hg1.size
  have HS1 := hide hg1
  clear hb1 hg1
  obtain ⟨cp0, fp0, lp0⟩ := (show Box w1 _ _ from p0.out).rules
  obtain ⟨cq0, fq0, lq0⟩ := (show Box w1 _ _ from q0.out).rules
  go_wp2_with fail
  clear cp0 fp0 lp0 cq0 fq0 lq0
  generalize hW2 : World.setCell w1 _ _ = w2
  have n2 := Box.store1 (show Box w1 _ _ from p0.out) hW2
  simp only [List.setIfInBounds_toArray, List.set_cons_zero, List.set_cons_succ] at n2
  have q0_ := hide (Box.keep_ne (show Box w1 _ _ from q0.out) hW2 (by simp <;> omega))
  clear q0
  have q0 := q0_
  clear q0_
  have hr1 := Rd.store1 hr1 hW2 (by simp <;> omega)
  have HK2 := hide (Kept.store1 (show Kept w.heap.size [pr] w w1 from HK1.out) hW2 (by simp <;> omega))
  clear HK1
  have hsz2 : w.heap.size ≤ w2.heap.size := HK2.out.size
  have hq2 : w1.heap.size ≤ w2.heap.size := by rw [← hW2]; simp [World.setCell]
  clear hW2
  have p0_ := hide n2
  clear n2 p0
  have p0 := p0_
  clear p0_
  obtain ⟨cp0, fp0, lp0⟩ := (show Box w2 _ _ from p0.out).rules
  obtain ⟨cq0, fq0, lq0⟩ := (show Box w2 _ _ from q0.out).rules
  have hE := hide (fun (W : World) h => err_any N pr (rest, e1) W h)
  dsimp only at hE
  refine (hE.out _ hr1).mono ?_
  rintro r w' ⟨rfl, rfl⟩
  by_cases he : e1 = 0
  · subst he
    have HP := hide (HQ.out.trans (if_pos rfl))
    go_wp2
    refine bodyPost_ret (v := .tuple #[pv { p with stamp := i64of x } A l.length c, .int .i64 0]) (by simp [results, Try.results151, go_sem, cq0]) rfl ?_
    rw [HP.out]
    refine gotrd_ok hl hA hl1 hl2 ?_ ?_
    · repeat (with_reducible refine Kept.setCell ?_ (.inl (by simp)) _)
      exact HK2.out
    · repeat (with_reducible refine Rd.setOther ?_ (by simp; omega) _)
      exact hr1
  · have hne := hide he
    have HP := hide (HQ.out.trans (if_neg he))
    have he' : (e1 != 0) = true := by simpa using he
    have hbo := hide (show bodyOf e1 l = [] from if_neg he)
    clear he
    go_wp2
    refine bodyPost_ret (v := .tuple #[pv noP none 0 0, .int .i64 e1]) (by simp [results, Try.results151, go_sem, cq0, noP]) rfl ?_
    rw [HP.out]
    rw [hbo.out]
    refine gotrd_bad hne.out ?_
    · repeat (with_reducible refine Kept.setCell ?_ (.inl (by simp)) _)
      exact HK2.out
set_option maxRecDepth 100000 in
set_option maxHeartbeats 2000000 in
theorem pulseget_2 (N pr : Nat) (b : List UInt8) (p : Pkt) (A : Option Addr) (l : List UInt8) (c : Nat) (w : World) (h : Rd w N pr (b, 0)) (hl : Bytes w A l) (hA : l ≠ [] → ∀ q, blk A = some q → q ≠ pr) (hl1 : l.length ≤ c) (hl2 : c ≤ 9223372036854775807) (k : p.kind = 2) :
    Calls Try.prog 151 #[.pointer (some ⟨pr, 0, none⟩), pv p A l.length c] w fun r w' => GotRd w w' r N pr (pg2 b p).1 (bodyOf (pg2 b p).2.2 l) (pg2 b p).2.1 (pg2 b p).2.2 := by
  have hpr : pr < w.heap.size := Nat.lt_of_lt_of_le h.lt h.size
  have hN := h.size
  have k1 : (p.kind == 1) = false := by simp; omega
  have k2 : (p.kind == 2) = true := by simpa using k
  clear k
  have hF := hide (fun W h => rfix_any N pr (b, 0) 8 W h)
  have hF2 := hide (fun W h => rfix_any N pr (rfix 8 (b, 0)).2 8 W h)
  have HQ := hide (show pg2 b p = if (rfix 8 (rfix 8 (b, 0)).2).2.2 = 0 then ({ p with stamp := i64of (rfix 8 (b, 0)).1, value := i64of (rfix 8 (rfix 8 (b, 0)).2).1 }, (rfix 8 (rfix 8 (b, 0)).2).2.1, 0) else (noP, [], (rfix 8 (rfix 8 (b, 0)).2).2.2) from rfl)
  generalize pg2 b p = Q at *
  generalize rfix 8 (rfix 8 (b, 0)).2 = U at *
  generalize rfix 8 (b, 0) = T at *
  obtain ⟨x, s1⟩ := T
  obtain ⟨y, rest, e1⟩ := U
  dsimp only at *
  go_enter Try.func151, Try.ntmps151
  go_wp2_with fail
  refine (hF.out _ (h.grow (((Grow.refl w).alloc _).alloc _))).mono ?_
  rintro r w1 ⟨rfl, hr1, hb1⟩
  obtain ⟨p0, q0, hg1⟩ := peelK2 hb1 (by simp; omega) (by simp; omega)
  have p0_ := hide p0
  clear p0
  have p0 := p0_
  clear p0_
  have q0_ := hide q0
  clear q0
  have q0 := q0_
  clear q0_
  have HK1 := hide (show Kept w.heap.size [pr] w w1 from hg1)
  have hsz1 : w.heap.size ≤ w1.heap.size := HK1.out.size
  have hq1 : w.heap.size ≤ w1.heap.size := hg1.size
  have HS1 := hide hg1
  clear hb1 hg1
  obtain ⟨cp0, fp0, lp0⟩ := (show Box w1 _ _ from p0.out).rules
  obtain ⟨cq0, fq0, lq0⟩ := (show Box w1 _ _ from q0.out).rules
  go_wp2_with fail
  clear cp0 fp0 lp0 cq0 fq0 lq0
  generalize hW2 : World.setCell w1 _ _ = w2
  have n2 := Box.store1 (show Box w1 _ _ from p0.out) hW2
  simp only [List.setIfInBounds_toArray, List.set_cons_zero, List.set_cons_succ] at n2
  have q0_ := hide (Box.keep_ne (show Box w1 _ _ from q0.out) hW2 (by simp <;> omega))
  clear q0
  have q0 := q0_
  clear q0_
  have hr1 := Rd.store1 hr1 hW2 (by simp <;> omega)
  have HK2 := hide (Kept.store1 (show Kept w.heap.size [pr] w w1 from HK1.out) hW2 (by simp <;> omega))
  clear HK1
  have hsz2 : w.heap.size ≤ w2.heap.size := HK2.out.size
  have hq2 : w1.heap.size ≤ w2.heap.size := by rw [← hW2]; simp [World.setCell]
  clear hW2
  have p0_ := hide n2
  clear n2 p0
  have p0 := p0_
  clear p0_
  obtain ⟨cp0, fp0, lp0⟩ := (show Box w2 _ _ from p0.out).rules
  obtain ⟨cq0, fq0, lq0⟩ := (show Box w2 _ _ from q0.out).rules
  refine (hF2.out _ hr1).mono ?_
  rintro r w3 ⟨rfl, hr3, hb3⟩
  clear cp0 fp0 lp0 cq0 fq0 lq0
  have hg3 := hb3
  have p0_ := hide ((show Box w2 _ _ from p0.out).kept hg3 (by simp; omega))
  clear p0
  have p0 := p0_
  clear p0_
  have q0_ := hide ((show Box w2 _ _ from q0.out).kept hg3 (by simp; omega))
  clear q0
  have q0 := q0_
  clear q0_
  have HK3 := hide (Kept.at_ (show Kept w.heap.size [pr] w w2 from HK2.out) hg3)
  clear HK2
  have hsz3 : w.heap.size ≤ w3.heap.size := HK3.out.size
  have hq3 : w2.heap.size ≤ w3.heap.size := hg3.size
  have HS3 := hide hg3
  clear hb3 hg3
  obtain ⟨cp0, fp0, lp0⟩ := (show Box w3 _ _ from p0.out).rules
  obtain ⟨cq0, fq0, lq0⟩ := (show Box w3 _ _ from q0.out).rules
  go_wp2_with fail
  clear cp0 fp0 lp0 cq0 fq0 lq0
  generalize hW4 : World.setCell w3 _ _ = w4
  have n4 := Box.store1 (show Box w3 _ _ from p0.out) hW4
  simp only [List.setIfInBounds_toArray, List.set_cons_zero, List.set_cons_succ] at n4
  have q0_ := hide (Box.keep_ne (show Box w3 _ _ from q0.out) hW4 (by simp <;> omega))
  clear q0
  have q0 := q0_
  clear q0_
  have hr3 := Rd.store1 hr3 hW4 (by simp <;> omega)
  have HK4 := hide (Kept.store1 (show Kept w.heap.size [pr] w w3 from HK3.out) hW4 (by simp <;> omega))
  clear HK3
  have hsz4 : w.heap.size ≤ w4.heap.size := HK4.out.size
  have hq4 : w3.heap.size ≤ w4.heap.size := by rw [← hW4]; simp [World.setCell]
  clear hW4
  have p0_ := hide n4
  clear n4 p0
  have p0 := p0_
  clear p0_
  obtain ⟨cp0, fp0, lp0⟩ := (show Box w4 _ _ from p0.out).rules
  obtain ⟨cq0, fq0, lq0⟩ := (show Box w4 _ _ from q0.out).rules
  have hE := hide (fun (W : World) h => err_any N pr (rest, e1) W h)
  dsimp only at hE
  refine (hE.out _ hr3).mono ?_
  rintro r w' ⟨rfl, rfl⟩
  by_cases he : e1 = 0
  · subst he
    have HP := hide (HQ.out.trans (if_pos rfl))
    go_wp2
    refine bodyPost_ret (v := .tuple #[pv { p with stamp := i64of x, value := i64of y } A l.length c, .int .i64 0]) (by simp [results, Try.results151, go_sem, cq0]) rfl ?_
    rw [HP.out]
    refine gotrd_ok hl hA hl1 hl2 ?_ ?_
    · repeat (with_reducible refine Kept.setCell ?_ (.inl (by simp)) _)
      exact HK4.out
    · repeat (with_reducible refine Rd.setOther ?_ (by simp; omega) _)
      exact hr3
  · have hne := hide he
    have HP := hide (HQ.out.trans (if_neg he))
    have he' : (e1 != 0) = true := by simpa using he
    have hbo := hide (show bodyOf e1 l = [] from if_neg he)
    clear he
    go_wp2
    refine bodyPost_ret (v := .tuple #[pv noP none 0 0, .int .i64 e1]) (by simp [results, Try.results151, go_sem, cq0, noP]) rfl ?_
    rw [HP.out]
    rw [hbo.out]
    refine gotrd_bad hne.out ?_
    · repeat (with_reducible refine Kept.setCell ?_ (.inl (by simp)) _)
      exact HK4.out
set_option maxRecDepth 100000 in
set_option maxHeartbeats 2000000 in
theorem pulseget_3 (N pr : Nat) (b : List UInt8) (p : Pkt) (A : Option Addr) (l : List UInt8) (c : Nat) (w : World) (h : Rd w N pr (b, 0)) (hl : Bytes w A l) (hA : l ≠ [] → ∀ q, blk A = some q → q ≠ pr) (hl1 : l.length ≤ c) (hl2 : c ≤ 9223372036854775807) (k : p.kind = 3) :
    Calls Try.prog 151 #[.pointer (some ⟨pr, 0, none⟩), pv p A l.length c] w fun r w' => GotRd w w' r N pr (pg3 b p).1 (bodyOf (pg3 b p).2.2 l) (pg3 b p).2.1 (pg3 b p).2.2 := by
  have hpr : pr < w.heap.size := Nat.lt_of_lt_of_le h.lt h.size
  have hN := h.size
  have k1 : (p.kind == 1) = false := by simp; omega
  have k2 : (p.kind == 2) = false := by simp; omega
  have k3 : (p.kind == 3) = true := by simpa using k
  clear k
  have hF := hide (fun W h => rnum_any N pr (b, 0) W h)
  have HQ := hide (show pg3 b p = if noG (rnum (b, 0)) = 0 then ({ p with no := ((rnum (b, 0)).1 : Int) }, (rnum (b, 0)).2.1, 0) else (noP, [], noG (rnum (b, 0))) from rfl)
  have hb0 := hide (rnum_bad0 (b, 0))
  generalize pg3 b p = Q at *
  generalize rnum (b, 0) = T at *
  obtain ⟨x, rest, e1⟩ := T
  dsimp only at *
  by_cases hx : 1152921504606846976 < x
  · have hne0 : e1 = 0 := by
      by_cases he : e1 = 0
      · exact he
      · have := hb0.out he; omega
    subst hne0
    have en := hide (show noG (x, rest, 0) = 2 from if_pos ⟨rfl, hx⟩)
    have HP := hide (HQ.out.trans (if_neg (by rw [en.out]; decide)))
    have hne := hide (show (2 : Int) ≠ 0 by decide)
    have hbo := hide (show bodyOf 2 l = [] from if_neg (by decide))
    rw [en.out] at HP
    go_enter Try.func151, Try.ntmps151
    go_wp2_with fail
    refine (hF.out _ (h.grow (((Grow.refl w).alloc _).alloc _))).mono ?_
    rintro r w1 ⟨rfl, hr1, hb1⟩
    obtain ⟨p0, q0, hg1⟩ := peelK2 hb1 (by simp; omega) (by simp; omega)
    have p0_ := hide p0
    clear p0
    have p0 := p0_
    clear p0_
    have q0_ := hide q0
    clear q0
    have q0 := q0_
    clear q0_
    have HK1 := hide (show Kept w.heap.size [pr] w w1 from hg1)
    have hsz1 : w.heap.size ≤ w1.heap.size := HK1.out.size
    have hq1 : w.heap.size ≤ w1.heap.size := hg1.size
    have HS1 := hide hg1
    clear hb1 hg1
    obtain ⟨cp0, fp0, lp0⟩ := (show Box w1 _ _ from p0.out).rules
    obtain ⟨cq0, fq0, lq0⟩ := (show Box w1 _ _ from q0.out).rules
    go_wp2
    refine bodyPost_ret (v := .tuple #[pv noP none 0 0, .int .i64 2]) (by simp [results, Try.results151, go_sem, cq0, noP]) rfl ?_
    rw [HP.out]
    rw [hbo.out]
    refine gotrd_bad hne.out ?_
    · repeat (with_reducible refine Kept.setCell ?_ (.inl (by simp)) _)
      exact HK1.out
  · have en := hide (show noG (x, rest, e1) = e1 from if_neg (fun h => hx h.2))
    rw [en.out] at HQ
    have hx2 : x ≤ 1152921504606846976 := by omega
    clear hx
    go_enter Try.func151, Try.ntmps151
    go_wp2_with fail
    refine (hF.out _ (h.grow (((Grow.refl w).alloc _).alloc _))).mono ?_
    rintro r w1 ⟨rfl, hr1, hb1⟩
    obtain ⟨p0, q0, hg1⟩ := peelK2 hb1 (by simp; omega) (by simp; omega)
    have p0_ := hide p0
    clear p0
    have p0 := p0_
    clear p0_
    have q0_ := hide q0
    clear q0
    have q0 := q0_
    clear q0_
    have HK1 := hide (show Kept w.heap.size [pr] w w1 from hg1)
    have hsz1 : w.heap.size ≤ w1.heap.size := HK1.out.size
    have hq1 : w.heap.size ≤ w1.heap.size := hg1.size
    have HS1 := hide hg1
    clear hb1 hg1
    obtain ⟨cp0, fp0, lp0⟩ := (show Box w1 _ _ from p0.out).rules
    obtain ⟨cq0, fq0, lq0⟩ := (show Box w1 _ _ from q0.out).rules
    go_wp2_with fail
    clear cp0 fp0 lp0 cq0 fq0 lq0
    generalize hW2 : World.setCell w1 _ _ = w2
    have n2 := Box.store1 (show Box w1 _ _ from p0.out) hW2
    simp only [List.setIfInBounds_toArray, List.set_cons_zero, List.set_cons_succ] at n2
    have q0_ := hide (Box.keep_ne (show Box w1 _ _ from q0.out) hW2 (by simp <;> omega))
    clear q0
    have q0 := q0_
    clear q0_
    have hr1 := Rd.store1 hr1 hW2 (by simp <;> omega)
    have HK2 := hide (Kept.store1 (show Kept w.heap.size [pr] w w1 from HK1.out) hW2 (by simp <;> omega))
    clear HK1
    have hsz2 : w.heap.size ≤ w2.heap.size := HK2.out.size
    have hq2 : w1.heap.size ≤ w2.heap.size := by rw [← hW2]; simp [World.setCell]
    clear hW2
    have p0_ := hide n2
    clear n2 p0
    have p0 := p0_
    clear p0_
    obtain ⟨cp0, fp0, lp0⟩ := (show Box w2 _ _ from p0.out).rules
    obtain ⟨cq0, fq0, lq0⟩ := (show Box w2 _ _ from q0.out).rules
    have hE := hide (fun (W : World) h => err_any N pr (rest, e1) W h)
    dsimp only at hE
    refine (hE.out _ hr1).mono ?_
    rintro r w' ⟨rfl, rfl⟩
    by_cases he : e1 = 0
    · subst he
      have HP := hide (HQ.out.trans (if_pos rfl))
      go_wp2
      refine bodyPost_ret (v := .tuple #[pv { p with no := (x : Int) } A l.length c, .int .i64 0]) (by simp [results, Try.results151, go_sem, cq0]) rfl ?_
      rw [HP.out]
      refine gotrd_ok hl hA hl1 hl2 ?_ ?_
      · repeat (with_reducible refine Kept.setCell ?_ (.inl (by simp)) _)
        exact HK2.out
      · repeat (with_reducible refine Rd.setOther ?_ (by simp; omega) _)
        exact hr1
    · have hne := hide he
      have HP := hide (HQ.out.trans (if_neg he))
      have he' : (e1 != 0) = true := by simpa using he
      have hbo := hide (show bodyOf e1 l = [] from if_neg he)
      clear he
      go_wp2
      refine bodyPost_ret (v := .tuple #[pv noP none 0 0, .int .i64 e1]) (by simp [results, Try.results151, go_sem, cq0, noP]) rfl ?_
      rw [HP.out]
      rw [hbo.out]
      refine gotrd_bad hne.out ?_
      · repeat (with_reducible refine Kept.setCell ?_ (.inl (by simp)) _)
        exact HK2.out
set_option maxRecDepth 100000 in
set_option maxHeartbeats 2000000 in
theorem pulseget_0 (N pr : Nat) (b : List UInt8) (p : Pkt) (A : Option Addr) (l : List UInt8) (c : Nat) (w : World) (h : Rd w N pr (b, 0)) (hl : Bytes w A l) (hA : l ≠ [] → ∀ q, blk A = some q → q ≠ pr) (hl1 : l.length ≤ c) (hl2 : c ≤ 9223372036854775807) (n1 : p.kind ≠ 1) (n2 : p.kind ≠ 2) (n3 : p.kind ≠ 3) :
    Calls Try.prog 151 #[.pointer (some ⟨pr, 0, none⟩), pv p A l.length c] w fun r w' => GotRd w w' r N pr (((noP, [], 7) : Pkt × List UInt8 × Int)).1 (bodyOf (((noP, [], 7) : Pkt × List UInt8 × Int)).2.2 l) (((noP, [], 7) : Pkt × List UInt8 × Int)).2.1 (((noP, [], 7) : Pkt × List UInt8 × Int)).2.2 := by
  have hpr : pr < w.heap.size := Nat.lt_of_lt_of_le h.lt h.size
  have hN := h.size
  have k1 : (p.kind == 1) = false := by simpa using n1
  have k2 : (p.kind == 2) = false := by simpa using n2
  have k3 : (p.kind == 3) = false := by simpa using n3
  clear n1 n2 n3
  go_enter Try.func151, Try.ntmps151
  go_wp2
  refine bodyPost_ret (v := .tuple #[pv noP none 0 0, .int .i64 7]) (by simp [results, Try.results151, go_sem, noP]) rfl ?_
  refine gotrd_bad (by decide) ?_
  repeat (with_reducible refine Kept.setCell ?_ (.inl (by simp)) _)
  exact Kept.of_below (((Grow.refl w).alloc _).alloc _) _
theorem pulseget_any (N pr : Nat) (b : List UInt8) (p : Pkt) (A : Option Addr) (l : List UInt8) (c : Nat) (w : World) (h : Rd w N pr (b, 0)) (hl : Bytes w A l) (hA : l ≠ [] → ∀ q, blk A = some q → q ≠ pr) (hl1 : l.length ≤ c) (hl2 : c ≤ 9223372036854775807) :
    Calls Try.prog 151 #[.pointer (some ⟨pr, 0, none⟩), pv p A l.length c] w fun r w' => GotRd w w' r N pr (pg b p).1 (bodyOf (pg b p).2.2 l) (pg b p).2.1 (pg b p).2.2 := by
  unfold pg
  by_cases k1 : p.kind = 1
  · rw [if_pos k1]; exact pulseget_1 N pr b p A l c w h hl hA hl1 hl2 k1
  · rw [if_neg k1]
    by_cases k2 : p.kind = 2
    · rw [if_pos k2]; exact pulseget_2 N pr b p A l c w h hl hA hl1 hl2 k2
    · rw [if_neg k2]
      by_cases k3 : p.kind = 3
      · rw [if_pos k3]; exact pulseget_3 N pr b p A l c w h hl hA hl1 hl2 k3
      · rw [if_neg k3]; exact pulseget_0 N pr b p A l c w h hl hA hl1 hl2 k1 k2 k3
end Go.Proofs.Ytpobjcdcimcdnaa
namespace Go.Proofs.Ytpobjcdcimcdnaa
open Go.RowKit
/-- a result of the document: a packet with the body l of old, or none; what is left, a part of b; what is wrong -/
def GotR3 (B : Option Addr) (b : List UInt8) (A : Option Addr) (l : List UInt8) (r : Ending) (q : Pkt) (l' rest : List UInt8) (e : Int) : Prop := ∃ A1 c1 A2 c2, r = .returned (.tuple #[pv q A1 l'.length c1, .slice A2 rest.length c2, .int .i64 e]) ∧ l'.length ≤ c1 ∧ c1 ≤ 9223372036854775807 ∧ (∀ W, Bytes W A l → Bytes W A1 l') ∧
  rest.length ≤ c2 ∧ c2 ≤ 9223372036854775807 ∧ ∀ W, Bytes W B b → Bytes W A2 rest
theorem gotr3_bad {B : Option Addr} {b : List UInt8} {A : Option Addr} {l : List UInt8} {e : Int} : GotR3 B b A l (.returned (.tuple #[pv noP none 0 0, .slice none 0 0, .int .i64 e])) noP [] [] e :=
  ⟨none, 0, none, 0, rfl, Nat.le_refl _, by decide, fun _ _ => Bytes.nil _ _, Nat.le_refl _, by decide, fun _ _ => Bytes.nil _ _⟩
theorem gotr3_ok {B : Option Addr} {b : List UInt8} {A : Option Addr} {l : List UInt8} {q : Pkt} {c c2 : Nat} {A2 : Option Addr} {rest : List UInt8} (h1 : l.length ≤ c) (h2 : c ≤ 9223372036854775807) (h3 : rest.length ≤ c2) (h4 : c2 ≤ 9223372036854775807) (h5 : ∀ W, Bytes W B b → Bytes W A2 rest) :
    GotR3 B b A l (.returned (.tuple #[pv q A l.length c, .slice A2 rest.length c2, .int .i64 0])) q l rest 0 := ⟨A, c, A2, c2, rfl, h1, h2, fun _ h => h, h3, h4, h5⟩
set_option maxRecDepth 100000 in
set_option maxHeartbeats 2000000 in
theorem refpulseget_1 (B : Option Addr) (b : List UInt8) (cb : Nat) (p : Pkt) (A : Option Addr) (l : List UInt8) (c : Nat) (w : World) (hb : Bytes w B b) (hc : b.length ≤ cb) (hcm : cb ≤ 9223372036854775807) (hl1 : l.length ≤ c) (hl2 : c ≤ 9223372036854775807) (k : p.kind = 1) :
    Calls Try.prog 134 #[.slice B b.length cb, pv p A l.length c] w fun r w' => GotR3 B b A l r (pg1 b p).1 (bodyOf (pg1 b p).2.2 l) (pg1 b p).2.1 (pg1 b p).2.2 ∧ Grow w w' := by
  have g1 : 1 ≤ p.kind := by omega
  have g2 : p.kind ≤ 1 := by omega
  have k2 : (p.kind == 2) = false := by simp; omega
  have k3 : (p.kind == 3) = false := by simp; omega
  clear k
  have hF := hide (fun W h => refgetfixed_any B b cb 8 W h hc hcm)
  have HQ := hide (show pg1 b p = if (Buf.getFixed b 8).2.2 = 0 then ({ p with stamp := i64of (Buf.getFixed b 8).1 }, (Buf.getFixed b 8).2.1, 0) else (noP, [], (Buf.getFixed b 8).2.2) from rfl)
  generalize pg1 b p = Q at *
  generalize Buf.getFixed b 8 = T at *
  obtain ⟨x, rest, e1⟩ := T
  dsimp only at *
  go_enter Try.func134, Try.ntmps134
  go_wp2_with fail
  refine (hF.out _ ((hb.alloc _).alloc _)).mono ?_
  rintro r w1 ⟨⟨A1, c1, rfl, hc1, hcm1, hr⟩, hb1⟩
  obtain ⟨p0, q0, hg1⟩ := peel2 hb1
  have p0_ := hide p0
  clear p0
  have p0 := p0_
  clear p0_
  have q0_ := hide q0
  clear q0
  have q0 := q0_
  clear q0_
  have HG1 := hide (show Grow w w1 from hg1)
  have hsz1 : w.heap.size ≤ w1.heap.size := HG1.out.size
  have hq1 : w.heap.size ≤ w1.heap.size := hg1.size
  have HS1 := hide hg1
  clear hb1 hg1
  obtain ⟨cp0, fp0, lp0⟩ := (show Box w1 _ _ from p0.out).rules
  obtain ⟨cq0, fq0, lq0⟩ := (show Box w1 _ _ from q0.out).rules
  by_cases he : e1 = 0
  · subst he
    have HP := hide (HQ.out.trans (if_pos rfl))
    go_wp2
    refine bodyPost_ret (v := .tuple #[pv { p with stamp := i64of x } A l.length c, .slice A1 rest.length c1, .int .i64 0]) (by simp [results, Try.results134, go_sem, cq0]) rfl ?_
    rw [HP.out]
    refine ⟨gotr3_ok hl1 hl2 hc1 hcm1 hr, ?_⟩
    show Below w.heap.size w _
    repeat (with_reducible refine Below.setCell ?_ (by simp) _)
    exact HG1.out
  · have hne := hide he
    have HP := hide (HQ.out.trans (if_neg he))
    have he' : (e1 != 0) = true := by simpa using he
    have he2 : (e1 == 0) = false := by simpa using he
    have hbo := hide (show bodyOf e1 l = [] from if_neg he)
    clear he
    go_wp2
    refine bodyPost_ret (v := .tuple #[pv noP none 0 0, .slice none 0 0, .int .i64 e1]) (by simp [results, Try.results134, go_sem, cq0, noP]) rfl ?_
    rw [HP.out]
    rw [hbo.out]
    refine ⟨gotr3_bad, ?_⟩
    show Below w.heap.size w _
    repeat (with_reducible refine Below.setCell ?_ (by simp) _)
    exact HG1.out
set_option maxRecDepth 100000 in
set_option maxHeartbeats 2000000 in
theorem refpulseget_2 (B : Option Addr) (b : List UInt8) (cb : Nat) (p : Pkt) (A : Option Addr) (l : List UInt8) (c : Nat) (w : World) (hb : Bytes w B b) (hc : b.length ≤ cb) (hcm : cb ≤ 9223372036854775807) (hl1 : l.length ≤ c) (hl2 : c ≤ 9223372036854775807) (k : p.kind = 2) :
    Calls Try.prog 134 #[.slice B b.length cb, pv p A l.length c] w fun r w' => GotR3 B b A l r (pg2 b p).1 (bodyOf (pg2 b p).2.2 l) (pg2 b p).2.1 (pg2 b p).2.2 ∧ Grow w w' := by
  have g1 : 1 ≤ p.kind := by omega
  have g2 : p.kind ≤ 2 := by omega
  have k2 : (p.kind == 2) = true := by simpa using k
  have k3 : (p.kind == 3) = false := by simp; omega
  clear k
  have hF := hide (fun W h => refgetfixed_any B b cb 8 W h hc hcm)
  have HQ := hide (show pg2 b p = if (rfix 8 (Buf.getFixed b 8).2).2.2 = 0 then ({ p with stamp := i64of (Buf.getFixed b 8).1, value := i64of (rfix 8 (Buf.getFixed b 8).2).1 }, (rfix 8 (Buf.getFixed b 8).2).2.1, 0) else (noP, [], (rfix 8 (Buf.getFixed b 8).2).2.2) from rfl)
  generalize pg2 b p = Q at *
  generalize Buf.getFixed b 8 = T at *
  obtain ⟨x, rest, e1⟩ := T
  dsimp only at *
  go_enter Try.func134, Try.ntmps134
  go_wp2_with fail
  refine (hF.out _ ((hb.alloc _).alloc _)).mono ?_
  rintro r w1 ⟨⟨A1, c1, rfl, hc1, hcm1, hr⟩, hb1⟩
  obtain ⟨p0, q0, hg1⟩ := peel2 hb1
  have p0_ := hide p0
  clear p0
  have p0 := p0_
  clear p0_
  have q0_ := hide q0
  clear q0
  have q0 := q0_
  clear q0_
  have HG1 := hide (show Grow w w1 from hg1)
  have hsz1 : w.heap.size ≤ w1.heap.size := HG1.out.size
  have hq1 : w.heap.size ≤ w1.heap.size := hg1.size
  have HS1 := hide hg1
  clear hb1 hg1
  obtain ⟨cp0, fp0, lp0⟩ := (show Box w1 _ _ from p0.out).rules
  obtain ⟨cq0, fq0, lq0⟩ := (show Box w1 _ _ from q0.out).rules
  by_cases he : e1 = 0
  · subst he
    have eB := hide (show rfix 8 (rest, 0) = Buf.getFixed rest 8 from rfl)
    rw [eB.out] at HQ
    have hR := hr _ (hb.grow (show Grow w w1 from HG1.out))
    have hF2 := hide (fun W h => refgetfixed_any A1 rest c1 8 W h hc1 hcm1)
    generalize Buf.getFixed rest 8 = U at *
    obtain ⟨y, rest2, e2⟩ := U
    dsimp only at *
    go_wp2_with fail
    clear cp0 fp0 lp0 cq0 fq0 lq0
    generalize hW2 : World.setCell w1 _ _ = w2
    have n2 := Box.store1 (show Box w1 _ _ from p0.out) hW2
    simp only [List.setIfInBounds_toArray, List.set_cons_zero, List.set_cons_succ] at n2
    have q0_ := hide (Box.keep_ne (show Box w1 _ _ from q0.out) hW2 (by simp <;> omega))
    clear q0
    have q0 := q0_
    clear q0_
    have HG2 := hide (Grow.store1 (show Grow w w1 from HG1.out) hW2 (by simp <;> omega))
    clear HG1
    have hsz2 : w.heap.size ≤ w2.heap.size := HG2.out.size
    have hq2 : w1.heap.size ≤ w2.heap.size := by rw [← hW2]; simp [World.setCell]
    clear hW2
    have p0_ := hide n2
    clear n2 p0
    have p0 := p0_
    clear p0_
    obtain ⟨cp0, fp0, lp0⟩ := (show Box w2 _ _ from p0.out).rules
    obtain ⟨cq0, fq0, lq0⟩ := (show Box w2 _ _ from q0.out).rules
    have hR := hr _ (hb.grow (show Grow w w2 from HG2.out))
    refine (hF2.out _ hR).mono ?_
    rintro r w3 ⟨⟨A3, c3, rfl, hc3, hcm3, hr3⟩, hb3⟩
    clear cp0 fp0 lp0 cq0 fq0 lq0
    have hg3 := hb3
    have p0_ := hide ((show Box w2 _ _ from p0.out).grow hg3)
    clear p0
    have p0 := p0_
    clear p0_
    have q0_ := hide ((show Box w2 _ _ from q0.out).grow hg3)
    clear q0
    have q0 := q0_
    clear q0_
    have HG3 := hide (Grow.trans (show Grow w w2 from HG2.out) hg3)
    clear HG2
    have hsz3 : w.heap.size ≤ w3.heap.size := HG3.out.size
    have hq3 : w2.heap.size ≤ w3.heap.size := hg3.size
    have HS3 := hide hg3
    clear hb3 hg3
    obtain ⟨cp0, fp0, lp0⟩ := (show Box w3 _ _ from p0.out).rules
    obtain ⟨cq0, fq0, lq0⟩ := (show Box w3 _ _ from q0.out).rules
    by_cases he : e2 = 0
    · subst he
      have HP := hide (HQ.out.trans (if_pos rfl))
      go_wp2
      refine bodyPost_ret (v := .tuple #[pv { p with stamp := i64of x, value := i64of y } A l.length c, .slice A3 rest2.length c3, .int .i64 0]) (by simp [results, Try.results134, go_sem, cq0]) rfl ?_
      rw [HP.out]
      refine ⟨gotr3_ok hl1 hl2 hc3 hcm3 (fun W h => hr3 W (hr W h)), ?_⟩
      show Below w.heap.size w _
      repeat (with_reducible refine Below.setCell ?_ (by simp) _)
      exact HG3.out
    · have hne := hide he
      have HP := hide (HQ.out.trans (if_neg he))
      have he' : (e2 != 0) = true := by simpa using he
      have he2 : (e2 == 0) = false := by simpa using he
      have hbo := hide (show bodyOf e2 l = [] from if_neg he)
      clear he
      go_wp2
      refine bodyPost_ret (v := .tuple #[pv noP none 0 0, .slice none 0 0, .int .i64 e2]) (by simp [results, Try.results134, go_sem, cq0, noP]) rfl ?_
      rw [HP.out]
      rw [hbo.out]
      refine ⟨gotr3_bad, ?_⟩
      show Below w.heap.size w _
      repeat (with_reducible refine Below.setCell ?_ (by simp) _)
      exact HG3.out
  · have hne := hide he
    have eB := hide (show rfix 8 (rest, e1) = (0, rest, e1) from rget_bad _ _ _ he)
    rw [eB.out] at HQ
    have HP := hide (HQ.out.trans (if_neg he))
    have he' : (e1 != 0) = true := by simpa using he
    have hbo := hide (show bodyOf e1 l = [] from if_neg he)
    clear he
    go_wp2
    refine bodyPost_ret (v := .tuple #[pv noP none 0 0, .slice none 0 0, .int .i64 e1]) (by simp [results, Try.results134, go_sem, cq0, noP]) rfl ?_
    rw [HP.out]
    rw [hbo.out]
    refine ⟨gotr3_bad, ?_⟩
    show Below w.heap.size w _
    repeat (with_reducible refine Below.setCell ?_ (by simp) _)
    exact HG1.out
set_option maxRecDepth 100000 in
set_option maxHeartbeats 2000000 in
theorem refpulseget_3 (B : Option Addr) (b : List UInt8) (cb : Nat) (p : Pkt) (A : Option Addr) (l : List UInt8) (c : Nat) (w : World) (hb : Bytes w B b) (hc : b.length ≤ cb) (hcm : cb ≤ 9223372036854775807) (hl1 : l.length ≤ c) (hl2 : c ≤ 9223372036854775807) (k : p.kind = 3) :
    Calls Try.prog 134 #[.slice B b.length cb, pv p A l.length c] w fun r w' => GotR3 B b A l r (pg3 b p).1 (bodyOf (pg3 b p).2.2 l) (pg3 b p).2.1 (pg3 b p).2.2 ∧ Grow w w' := by
  have g1 : 1 ≤ p.kind := by omega
  have g2 : p.kind ≤ 3 := by omega
  have k3 : (p.kind == 3) = true := by simpa using k
  clear k
  have hF := hide (fun W h => refgetnum_any B b cb W h hc hcm)
  have HQ := hide (show pg3 b p = if noG (Buf.getNum b) = 0 then ({ p with no := ((Buf.getNum b).1 : Int) }, (Buf.getNum b).2.1, 0) else (noP, [], noG (Buf.getNum b)) from rfl)
  generalize pg3 b p = Q at *
  generalize Buf.getNum b = T at *
  obtain ⟨x, rest, e1⟩ := T
  dsimp only at *
  by_cases he : e1 = 0
  · subst he
    by_cases hx : 1152921504606846976 < x
    · have en := hide (show noG (x, rest, 0) = 2 from if_pos ⟨rfl, hx⟩)
      rw [en.out] at HQ
      have HP := hide (HQ.out.trans (if_neg (by decide)))
      have hbo := hide (show bodyOf 2 l = [] from if_neg (by decide))
      go_enter Try.func134, Try.ntmps134
      go_wp2_with fail
      refine (hF.out _ ((hb.alloc _).alloc _)).mono ?_
      rintro r w1 ⟨⟨A1, c1, rfl, hc1, hcm1, hr⟩, hb1⟩
      obtain ⟨p0, q0, hg1⟩ := peel2 hb1
      have p0_ := hide p0
      clear p0
      have p0 := p0_
      clear p0_
      have q0_ := hide q0
      clear q0
      have q0 := q0_
      clear q0_
      have HG1 := hide (show Grow w w1 from hg1)
      have hsz1 : w.heap.size ≤ w1.heap.size := HG1.out.size
      have hq1 : w.heap.size ≤ w1.heap.size := hg1.size
      have HS1 := hide hg1
      clear hb1 hg1
      obtain ⟨cp0, fp0, lp0⟩ := (show Box w1 _ _ from p0.out).rules
      obtain ⟨cq0, fq0, lq0⟩ := (show Box w1 _ _ from q0.out).rules
      go_wp2
      refine bodyPost_ret (v := .tuple #[pv noP none 0 0, .slice none 0 0, .int .i64 2]) (by simp [results, Try.results134, go_sem, cq0, noP]) rfl ?_
      rw [HP.out]
      rw [hbo.out]
      refine ⟨gotr3_bad, ?_⟩
      show Below w.heap.size w _
      repeat (with_reducible refine Below.setCell ?_ (by simp) _)
      exact HG1.out
    · have en := hide (show noG (x, rest, 0) = 0 from if_neg (fun h => hx h.2))
      rw [en.out] at HQ
      have HP := hide (HQ.out.trans (if_pos rfl))
      have hx2 : x ≤ 1152921504606846976 := by omega
      clear hx
      go_enter Try.func134, Try.ntmps134
      go_wp2_with fail
      refine (hF.out _ ((hb.alloc _).alloc _)).mono ?_
      rintro r w1 ⟨⟨A1, c1, rfl, hc1, hcm1, hr⟩, hb1⟩
      obtain ⟨p0, q0, hg1⟩ := peel2 hb1
      have p0_ := hide p0
      clear p0
      have p0 := p0_
      clear p0_
      have q0_ := hide q0
      clear q0
      have q0 := q0_
      clear q0_
      have HG1 := hide (show Grow w w1 from hg1)
      have hsz1 : w.heap.size ≤ w1.heap.size := HG1.out.size
      have hq1 : w.heap.size ≤ w1.heap.size := hg1.size
      have HS1 := hide hg1
      clear hb1 hg1
      obtain ⟨cp0, fp0, lp0⟩ := (show Box w1 _ _ from p0.out).rules
      obtain ⟨cq0, fq0, lq0⟩ := (show Box w1 _ _ from q0.out).rules
      go_wp2
      refine bodyPost_ret (v := .tuple #[pv { p with no := (x : Int) } A l.length c, .slice A1 rest.length c1, .int .i64 0]) (by simp [results, Try.results134, go_sem, cq0]) rfl ?_
      rw [HP.out]
      refine ⟨gotr3_ok hl1 hl2 hc1 hcm1 hr, ?_⟩
      show Below w.heap.size w _
      repeat (with_reducible refine Below.setCell ?_ (by simp) _)
      exact HG1.out
  · have en := hide (show noG (x, rest, e1) = e1 from if_neg (fun h => he h.1))
    rw [en.out] at HQ
    have HP := hide (HQ.out.trans (if_neg he))
    have hbo := hide (show bodyOf e1 l = [] from if_neg he)
    have he' : (e1 != 0) = true := by simpa using he
    have he2 : (e1 == 0) = false := by simpa using he
    clear he
    go_enter Try.func134, Try.ntmps134
    go_wp2_with fail
    refine (hF.out _ ((hb.alloc _).alloc _)).mono ?_
    rintro r w1 ⟨⟨A1, c1, rfl, hc1, hcm1, hr⟩, hb1⟩
    obtain ⟨p0, q0, hg1⟩ := peel2 hb1
    have p0_ := hide p0
    clear p0
    have p0 := p0_
    clear p0_
    have q0_ := hide q0
    clear q0
    have q0 := q0_
    clear q0_
    have HG1 := hide (show Grow w w1 from hg1)
    have hsz1 : w.heap.size ≤ w1.heap.size := HG1.out.size
    have hq1 : w.heap.size ≤ w1.heap.size := hg1.size
    have HS1 := hide hg1
    clear hb1 hg1
    obtain ⟨cp0, fp0, lp0⟩ := (show Box w1 _ _ from p0.out).rules
    obtain ⟨cq0, fq0, lq0⟩ := (show Box w1 _ _ from q0.out).rules
    go_wp2
    refine bodyPost_ret (v := .tuple #[pv noP none 0 0, .slice none 0 0, .int .i64 e1]) (by simp [results, Try.results134, go_sem, cq0, noP]) rfl ?_
    rw [HP.out]
    rw [hbo.out]
    refine ⟨gotr3_bad, ?_⟩
    show Below w.heap.size w _
    repeat (with_reducible refine Below.setCell ?_ (by simp) _)
    exact HG1.out
set_option maxRecDepth 100000 in
set_option maxHeartbeats 2000000 in
theorem refpulseget_0 (B : Option Addr) (b : List UInt8) (cb : Nat) (p : Pkt) (A : Option Addr) (l : List UInt8) (c : Nat) (w : World) (n1 : p.kind ≠ 1) (n2 : p.kind ≠ 2) (n3 : p.kind ≠ 3) :
    Calls Try.prog 134 #[.slice B b.length cb, pv p A l.length c] w fun r w' => GotR3 B b A l r (((noP, [], 7) : Pkt × List UInt8 × Int)).1 (bodyOf (((noP, [], 7) : Pkt × List UInt8 × Int)).2.2 l) (((noP, [], 7) : Pkt × List UInt8 × Int)).2.1 (((noP, [], 7) : Pkt × List UInt8 × Int)).2.2 ∧ Grow w w' := by
  have hk : p.kind < 1 ∨ (1 ≤ p.kind ∧ 3 < p.kind) := by omega
  clear n1 n2 n3
  rcases hk with hk | ⟨hk0, hk⟩
  all_goals
    go_enter Try.func134, Try.ntmps134
    go_wp2
    refine bodyPost_ret (v := .tuple #[pv noP none 0 0, .slice none 0 0, .int .i64 7]) (by simp [results, Try.results134, go_sem, noP]) rfl ?_
    refine ⟨gotr3_bad, ?_⟩
    show Below w.heap.size w _
    repeat (with_reducible refine Below.setCell ?_ (by simp) _)
    exact ((Grow.refl w).alloc _).alloc _
theorem refpulseget_any (B : Option Addr) (b : List UInt8) (cb : Nat) (p : Pkt) (A : Option Addr) (l : List UInt8) (c : Nat) (w : World) (hb : Bytes w B b) (hc : b.length ≤ cb) (hcm : cb ≤ 9223372036854775807) (hl1 : l.length ≤ c) (hl2 : c ≤ 9223372036854775807) :
    Calls Try.prog 134 #[.slice B b.length cb, pv p A l.length c] w fun r w' => GotR3 B b A l r (pg b p).1 (bodyOf (pg b p).2.2 l) (pg b p).2.1 (pg b p).2.2 ∧ Grow w w' := by
  unfold pg
  by_cases k1 : p.kind = 1
  · rw [if_pos k1]; exact refpulseget_1 B b cb p A l c w hb hc hcm hl1 hl2 k1
  · rw [if_neg k1]
    by_cases k2 : p.kind = 2
    · rw [if_pos k2]; exact refpulseget_2 B b cb p A l c w hb hc hcm hl1 hl2 k2
    · rw [if_neg k2]
      by_cases k3 : p.kind = 3
      · rw [if_pos k3]; exact refpulseget_3 B b cb p A l c w hb hc hcm hl1 hl2 k3
      · rw [if_neg k3]; exact refpulseget_0 B b cb p A l c w k1 k2 k3
end Go.Proofs.Ytpobjcdcimcdnaa
namespace Go.Proofs.Ytpobjcdcimcdnaa
open Go.RowKit
end Go.Proofs.Ytpobjcdcimcdnaa
