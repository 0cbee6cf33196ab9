/- The walks of chunk.Get. -/
import Derived.Test.YtpobjcdcimcdnaaChk
import Derived.Test.YtpobjcdcimcdnaaRdX
namespace Go.Proofs.Ytpobjcdcimcdnaa
open Go.RowKit
/-- the three bytes of a chunk, as a reader reads them -/
def plE (s : List UInt8 × Int) : Int :=
  if (rbyte s).2.2 ≠ 0 then (rbyte s).2.2 else if 64 ≤ (rbyte s).1 then 8 else if (rbyte (rbyte s).2).2.2 ≠ 0 then (rbyte (rbyte s).2).2.2
  else if (rbyte (rbyte (rbyte s).2).2).2.2 ≠ 0 then (rbyte (rbyte (rbyte s).2).2).2.2 else if (rbyte (rbyte s).2).1 < (rbyte (rbyte (rbyte s).2).2).1 then 0 else 5
def plQ (s : List UInt8 × Int) (p : Pkt) : Pkt := { p with to := ((rbyte s).1 : Int), index := ((rbyte (rbyte s).2).1 : Int), total := ((rbyte (rbyte (rbyte s).2).2).1 : Int) }
def plS (s : List UInt8 × Int) : List UInt8 × Int := (rbyte (rbyte (rbyte s).2).2).2
/-- what stands behind the head of a chunk: the packet, the body, the rest, what is wrong -/
def cg (b : List UInt8) (p : Pkt) : Pkt × List UInt8 × List UInt8 × Int :=
  if 1152921504606846976 < (rnum (b, 0)).1 then (noP, [], [], 2) else if plE (rnum (b, 0)).2 ≠ 0 then (noP, [], [], plE (rnum (b, 0)).2)
  else if (rbytes 64 (plS (rnum (b, 0)).2)).2.2 ≠ 0 then (noP, [], [], (rbytes 64 (plS (rnum (b, 0)).2)).2.2)
  else (plQ (rnum (b, 0)).2 { p with no := ((rnum (b, 0)).1 : Int) }, (rbytes 64 (plS (rnum (b, 0)).2)).1, (rbytes 64 (plS (rnum (b, 0)).2)).2.1, 0)
section
variable {b : List UInt8} {p : Pkt} {x : Nat}
theorem rnum_of {rest : List UInt8} {e : Int} (h : Buf.getNum b = (x, rest, e)) : rnum (b, 0) = (x, rest, e) := h
theorem cg_bad {rest : List UInt8} {e : Int} (h : Buf.getNum b = (x, rest, e)) (he : e ≠ 0) : cg b p = (noP, [], [], e) := by
  have h0 := rnum_bad0 (b, 0) (by rw [rnum_of h]; exact he)
  rw [rnum_of h] at h0
  have h0 : x = 0 := h0
  subst h0
  unfold cg
  rw [rnum_of h, if_neg (by simp)]
  have : plE (rest, e) = e := by unfold plE; rw [rbyte_bad rest e he, if_pos he]
  dsimp only
  rw [this, if_pos he]
theorem cg_big {rest : List UInt8} (h : Buf.getNum b = (x, rest, 0)) (hx : 1152921504606846976 < x) : cg b p = (noP, [], [], 2) := by
  unfold cg
  rw [rnum_of h, if_pos hx]
theorem cg_pl {rest : List UInt8} (h : Buf.getNum b = (x, rest, 0)) (hx : x ≤ 1152921504606846976) (e : Int) (hp : plE (rest, 0) = e) (he : e ≠ 0) : cg b p = (noP, [], [], e) := by
  unfold cg
  rw [rnum_of h, if_neg (by dsimp only; omega)]
  dsimp only
  rw [hp, if_pos he]
theorem plE_nil : plE ([], 0) = 3 := rfl
theorem plE_node (a : UInt8) (r : List UInt8) (ha : 63 < a.toNat) : plE (a :: r, 0) = 8 := by
  unfold plE
  rw [rbyte_cons, if_neg (by simp), if_pos (by dsimp only; omega)]
theorem plE_one (a : UInt8) (ha : a.toNat ≤ 63) : plE ([a], 0) = 3 := by
  unfold plE
  rw [rbyte_cons, if_neg (by simp), if_neg (by dsimp only; omega), rbyte_nil, if_pos (by decide)]
theorem plE_two (a i : UInt8) (ha : a.toNat ≤ 63) : plE ([a, i], 0) = 3 := by
  unfold plE
  rw [rbyte_cons, if_neg (by simp), if_neg (by dsimp only; omega)]
  dsimp only
  rw [rbyte_cons, if_neg (by simp), rbyte_nil, if_pos (by decide)]
theorem plE_three (a i t : UInt8) (r : List UInt8) (ha : a.toNat ≤ 63) : plE (a :: i :: t :: r, 0) = if i.toNat < t.toNat then 0 else 5 := by
  unfold plE
  rw [rbyte_cons, if_neg (by simp), if_neg (by dsimp only; omega)]
  dsimp only
  rw [rbyte_cons, if_neg (by simp)]
  dsimp only
  rw [rbyte_cons, if_neg (by simp)]
theorem plE_short (a : UInt8) (r : List UInt8) (ha : a.toNat ≤ 63) (h : (a :: r).length < 3) : plE (a :: r, 0) = 3 := by
  match r with
  | [] => exact plE_one a ha
  | [i] => exact plE_two a i ha
  | _ :: _ :: _ => simp at h; omega
theorem plS_three (a i t : UInt8) (r : List UInt8) : plS (a :: i :: t :: r, 0) = (r, 0) := by
  unfold plS
  rw [rbyte_cons]
  dsimp only
  rw [rbyte_cons]
  dsimp only
  rw [rbyte_cons]
theorem plQ_three (a i t : UInt8) (r : List UInt8) (q : Pkt) : plQ (a :: i :: t :: r, 0) q = { q with to := (a.toNat : Int), index := (i.toNat : Int), total := (t.toNat : Int) } := by
  unfold plQ
  rw [rbyte_cons]
  dsimp only
  rw [rbyte_cons]
  dsimp only
  rw [rbyte_cons]
theorem cg_three {a i t : UInt8} {r : List UInt8} (h : Buf.getNum b = (x, a :: i :: t :: r, 0)) (hx : x ≤ 1152921504606846976) (ha : a.toNat ≤ 63) (hi : i.toNat < t.toNat) {y left : List UInt8} {e : Int} (hb : Buf.getBytes r 64 = (y, left, e)) :
    cg b p = if e ≠ 0 then (noP, [], [], e) else ({ p with no := (x : Int), to := (a.toNat : Int), index := (i.toNat : Int), total := (t.toNat : Int) }, y, left, 0) := by
  unfold cg
  rw [rnum_of h, if_neg (by dsimp only; omega)]
  dsimp only
  rw [plE_three a i t r ha, if_pos hi, if_neg (by decide), plS_three, plQ_three, show rbytes 64 (r, 0) = (y, left, e) from hb]
end
set_option maxRecDepth 100000 in
set_option maxHeartbeats 1000000 in
theorem field_any (N pr : Nat) (s : List UInt8 × Int) (w : World) (h : Rd w N pr s) :
    Calls Try.prog 142 #[.pointer (some ⟨pr, 0, none⟩)] w fun r w' => r = .returned (.tuple #[.int .i64 ((rbyte s).1 : Nat), .int .i64 (rbyte s).2.2]) ∧ Rd w' N pr (rbyte s).2 ∧ Kept w.heap.size [pr] w w' := by
  have hF := hide (rbyte_any N pr s w h)
  have hx := rbyte_lt s
  have hE := hide (fun (W : World) h => err_any N pr (rbyte s).2 W h)
  generalize rbyte s = T at *
  go_enter Try.func142, Try.ntmps142
  go_wp2_with fail
  refine hF.out.mono ?_
  rintro r w1 ⟨rfl, h1, h2⟩
  go_wp2_with fail
  refine (hE.out _ h1).mono ?_
  rintro r w' ⟨rfl, rfl⟩
  go_wp2
  go_ret2
  exact ⟨rfl, h1, h2⟩
/-- what place leaves -/
def PlaceR (w w' : World) (r : Ending) (N pr : Nat) (s : List UInt8 × Int) (p : Pkt) (A : Option Addr) (n c : Nat) : Prop :=
  ∃ q, r = .returned (.tuple #[pv q A n c, .int .i64 (plE s)]) ∧ (plE s = 0 → q = plQ s p ∧ Rd w' N pr (plS s)) ∧ Kept w.heap.size [pr] w w'
theorem placer_bad {w w' : World} {N pr : Nat} {s : List UInt8 × Int} {p : Pkt} {A : Option Addr} {n c : Nat} {q : Pkt} {e : Int} (he : plE s = e) (hne : e ≠ 0) (hk : Kept w.heap.size [pr] w w') :
    PlaceR w w' (.returned (.tuple #[pv q A n c, .int .i64 e])) N pr s p A n c := ⟨q, by rw [he], fun h => absurd (he ▸ h) hne, hk⟩
theorem placer_ok {w w' : World} {N pr : Nat} {s : List UInt8 × Int} {p : Pkt} {A : Option Addr} {n c : Nat} {q : Pkt} (he : plE s = 0) (hq : q = plQ s p) (hr : Rd w' N pr (plS s)) (hk : Kept w.heap.size [pr] w w') :
    PlaceR w w' (.returned (.tuple #[pv q A n c, .int .i64 0])) N pr s p A n c := ⟨q, by rw [he], fun _ => ⟨hq, hr⟩, hk⟩
set_option maxRecDepth 100000 in
set_option maxHeartbeats 2000000 in
theorem place_any (N pr : Nat) (s : List UInt8 × Int) (p : Pkt) (A : Option Addr) (n c : Nat) (w : World) (h : Rd w N pr s) :
    Calls Try.prog 121 #[.pointer (some ⟨pr, 0, none⟩), pv p A n c] w fun r w' => PlaceR w w' r N pr s p A n c := by
  have hpr : pr < w.heap.size := Nat.lt_of_lt_of_le h.lt h.size
  have hN := h.size
  have hF1 := hide (fun W h => field_any N pr s W h)
  have hF2 := hide (fun W h => field_any N pr (rbyte s).2 W h)
  have hF3 := hide (fun W h => field_any N pr (rbyte (rbyte s).2).2 W h)
  have HE := hide (show plE s = if (rbyte s).2.2 ≠ 0 then (rbyte s).2.2 else if 64 ≤ (rbyte s).1 then 8 else if (rbyte (rbyte s).2).2.2 ≠ 0 then (rbyte (rbyte s).2).2.2 else if (rbyte (rbyte (rbyte s).2).2).2.2 ≠ 0 then (rbyte (rbyte (rbyte s).2).2).2.2 else if (rbyte (rbyte s).2).1 < (rbyte (rbyte (rbyte s).2).2).1 then 0 else 5 from rfl)
  have HQ := hide (show { p with to := ((rbyte s).1 : Int), index := ((rbyte (rbyte s).2).1 : Int), total := ((rbyte (rbyte (rbyte s).2).2).1 : Int) } = plQ s p from rfl)
  have HS := hide (show plS s = (rbyte (rbyte (rbyte s).2).2).2 from rfl)
  have b1 := rbyte_lt s
  have b2 := rbyte_lt (rbyte s).2
  have b3 := rbyte_lt (rbyte (rbyte s).2).2
  generalize rbyte (rbyte (rbyte s).2).2 = T3 at *
  generalize rbyte (rbyte s).2 = T2 at *
  generalize rbyte s = T1 at *
  obtain ⟨x1, r1, e1⟩ := T1
  obtain ⟨x2, r2, e2⟩ := T2
  obtain ⟨x3, r3, e3⟩ := T3
  dsimp only at *
  go_enter Try.func121, Try.ntmps121
  go_wp2_with fail
  refine (hF1.out _ (h.grow (((Grow.refl w).alloc _).alloc _))).mono ?_
  rintro r w1 ⟨rfl, hr1, hb1⟩
  obtain ⟨p0, q0, hg1⟩ := peelK2 hb1 (by simp; omega) (by simp; omega)
  have p0_ := hide p0
  clear p0
  have p0 := p0_
  clear p0_
  have q0_ := hide q0
  clear q0
  have q0 := q0_
  clear q0_
  have HK1 := hide (show Kept w.heap.size [pr] w w1 from hg1)
  have hsz1 : w.heap.size ≤ w1.heap.size := HK1.out.size
  have hq1 : w.heap.size ≤ w1.heap.size := hg1.size
  have HS1 := hide hg1
  clear hb1 hg1
  obtain ⟨cp0, fp0, lp0⟩ := (show Box w1 _ _ from p0.out).rules
  obtain ⟨cq0, fq0, lq0⟩ := (show Box w1 _ _ from q0.out).rules
  by_cases he1 : e1 = 0
  · subst he1
    rw [if_neg (by simp)] at HE
    by_cases hx1 : 64 ≤ x1
    · rw [if_pos hx1] at HE
      go_wp2
      refine bodyPost_ret (v := .tuple #[pv { p with to := (x1 : Int) } A n c, .int .i64 8]) (by simp [results, Try.results121, go_sem, cp0, cq0]) rfl ?_
      refine placer_bad HE.out (by first | exact hne.out | decide) ?_
      repeat (with_reducible refine Kept.setCell ?_ (.inl (by simp; try omega)) _)
      exact HK1.out
    · rw [if_neg hx1] at HE
      have hx1 : x1 < 64 := by omega
      go_wp2_with fail
      clear cp0 fp0 lp0 cq0 fq0 lq0
      generalize hW2 : World.setCell w1 _ _ = w2
      have n2 := Box.store1 (show Box w1 _ _ from p0.out) hW2
      simp only [List.setIfInBounds_toArray, List.set_cons_zero, List.set_cons_succ] at n2
      have q0_ := hide (Box.keep_ne (show Box w1 _ _ from q0.out) hW2 (by simp <;> omega))
      clear q0
      have q0 := q0_
      clear q0_
      have hr1 := Rd.store1 hr1 hW2 (by simp <;> omega)
      have HK2 := hide (Kept.store1 (show Kept w.heap.size [pr] w w1 from HK1.out) hW2 (by simp <;> omega))
      clear HK1
      have hsz2 : w.heap.size ≤ w2.heap.size := HK2.out.size
      have hq2 : w1.heap.size ≤ w2.heap.size := by rw [← hW2]; simp [World.setCell]
      clear hW2
      have p0_ := hide n2
      clear n2 p0
      have p0 := p0_
      clear p0_
      obtain ⟨cp0, fp0, lp0⟩ := (show Box w2 _ _ from p0.out).rules
      obtain ⟨cq0, fq0, lq0⟩ := (show Box w2 _ _ from q0.out).rules
      refine (hF2.out _ hr1).mono ?_
      rintro r w3 ⟨rfl, hr3, hb3⟩
      clear cp0 fp0 lp0 cq0 fq0 lq0
      have hg3 := hb3
      have p0_ := hide ((show Box w2 _ _ from p0.out).kept hg3 (by simp; omega))
      clear p0
      have p0 := p0_
      clear p0_
      have q0_ := hide ((show Box w2 _ _ from q0.out).kept hg3 (by simp; omega))
      clear q0
      have q0 := q0_
      clear q0_
      have HK3 := hide (Kept.at_ (show Kept w.heap.size [pr] w w2 from HK2.out) hg3)
      clear HK2
      have hsz3 : w.heap.size ≤ w3.heap.size := HK3.out.size
      have hq3 : w2.heap.size ≤ w3.heap.size := hg3.size
      have HS3 := hide hg3
      clear hb3 hg3
      obtain ⟨cp0, fp0, lp0⟩ := (show Box w3 _ _ from p0.out).rules
      obtain ⟨cq0, fq0, lq0⟩ := (show Box w3 _ _ from q0.out).rules
      by_cases he2 : e2 = 0
      · subst he2
        rw [if_neg (by simp)] at HE
        go_wp2_with fail
        clear cp0 fp0 lp0 cq0 fq0 lq0
        generalize hW4 : World.setCell w3 _ _ = w4
        have n4 := Box.store1 (show Box w3 _ _ from p0.out) hW4
        simp only [List.setIfInBounds_toArray, List.set_cons_zero, List.set_cons_succ] at n4
        have q0_ := hide (Box.keep_ne (show Box w3 _ _ from q0.out) hW4 (by simp <;> omega))
        clear q0
        have q0 := q0_
        clear q0_
        have hr3 := Rd.store1 hr3 hW4 (by simp <;> omega)
        have HK4 := hide (Kept.store1 (show Kept w.heap.size [pr] w w3 from HK3.out) hW4 (by simp <;> omega))
        clear HK3
        have hsz4 : w.heap.size ≤ w4.heap.size := HK4.out.size
        have hq4 : w3.heap.size ≤ w4.heap.size := by rw [← hW4]; simp [World.setCell]
        clear hW4
        have p0_ := hide n4
        clear n4 p0
        have p0 := p0_
        clear p0_
        obtain ⟨cp0, fp0, lp0⟩ := (show Box w4 _ _ from p0.out).rules
        obtain ⟨cq0, fq0, lq0⟩ := (show Box w4 _ _ from q0.out).rules
        refine (hF3.out _ hr3).mono ?_
        rintro r w5 ⟨rfl, hr5, hb5⟩
        clear cp0 fp0 lp0 cq0 fq0 lq0
        have hg5 := hb5
        have p0_ := hide ((show Box w4 _ _ from p0.out).kept hg5 (by simp; omega))
        clear p0
        have p0 := p0_
        clear p0_
        have q0_ := hide ((show Box w4 _ _ from q0.out).kept hg5 (by simp; omega))
        clear q0
        have q0 := q0_
        clear q0_
        have HK5 := hide (Kept.at_ (show Kept w.heap.size [pr] w w4 from HK4.out) hg5)
        clear HK4
        have hsz5 : w.heap.size ≤ w5.heap.size := HK5.out.size
        have hq5 : w4.heap.size ≤ w5.heap.size := hg5.size
        have HS5 := hide hg5
        clear hb5 hg5
        obtain ⟨cp0, fp0, lp0⟩ := (show Box w5 _ _ from p0.out).rules
        obtain ⟨cq0, fq0, lq0⟩ := (show Box w5 _ _ from q0.out).rules
        by_cases he3 : e3 = 0
        · subst he3
          rw [if_neg (by simp)] at HE
          go_wp2_with fail
          clear cp0 fp0 lp0 cq0 fq0 lq0
          generalize hW6 : World.setCell w5 _ _ = w6
          have n6 := Box.store1 (show Box w5 _ _ from p0.out) hW6
          simp only [List.setIfInBounds_toArray, List.set_cons_zero, List.set_cons_succ] at n6
          have q0_ := hide (Box.keep_ne (show Box w5 _ _ from q0.out) hW6 (by simp <;> omega))
          clear q0
          have q0 := q0_
          clear q0_
          have hr5 := Rd.store1 hr5 hW6 (by simp <;> omega)
          have HK6 := hide (Kept.store1 (show Kept w.heap.size [pr] w w5 from HK5.out) hW6 (by simp <;> omega))
          clear HK5
          have hsz6 : w.heap.size ≤ w6.heap.size := HK6.out.size
          have hq6 : w5.heap.size ≤ w6.heap.size := by rw [← hW6]; simp [World.setCell]
          clear hW6
          have p0_ := hide n6
          clear n6 p0
          have p0 := p0_
          clear p0_
          obtain ⟨cp0, fp0, lp0⟩ := (show Box w6 _ _ from p0.out).rules
          obtain ⟨cq0, fq0, lq0⟩ := (show Box w6 _ _ from q0.out).rules
          refine (counts_any _ _ _).mono ?_
          rintro r w' ⟨rfl, rfl⟩
          by_cases hlt : x2 < x3
          · rw [if_pos hlt] at HE
            have hc : countsB (x2 : Int) (x3 : Int) = true := by simp [countsB]; omega
            rw [hc]
            clear hc hlt
            go_wp2
            refine bodyPost_ret (v := .tuple #[pv { p with to := (x1 : Int), index := (x2 : Int), total := (x3 : Int) } A n c, .int .i64 0]) (by simp [results, Try.results121, go_sem, cp0, cq0]) rfl ?_
            refine placer_ok HE.out HQ.out ?_ ?_
            · rw [HS.out]
              repeat (with_reducible refine Rd.setOther ?_ (by simp; omega) _)
              exact hr5
            · repeat (with_reducible refine Kept.setCell ?_ (.inl (by simp; try omega)) _)
              exact HK6.out
          · rw [if_neg hlt] at HE
            have hc : countsB (x2 : Int) (x3 : Int) = false := by simp [countsB]; omega
            rw [hc]
            clear hc hlt
            go_wp2
            refine bodyPost_ret (v := .tuple #[pv { p with to := (x1 : Int), index := (x2 : Int), total := (x3 : Int) } A n c, .int .i64 5]) (by simp [results, Try.results121, go_sem, cp0, cq0]) rfl ?_
            refine placer_bad HE.out (by first | exact hne.out | decide) ?_
            repeat (with_reducible refine Kept.setCell ?_ (.inl (by simp; try omega)) _)
            exact HK6.out
        · have hne := hide (show e3 ≠ 0 from he3)
          have he3' : (e3 != 0) = true := by simpa using he3
          rw [if_pos he3] at HE
          clear he3
          go_wp2
          refine bodyPost_ret (v := .tuple #[pv { p with to := (x1 : Int), index := (x2 : Int), total := (x3 : Int) } A n c, .int .i64 e3]) (by simp [results, Try.results121, go_sem, cp0, cq0]) rfl ?_
          refine placer_bad HE.out (by first | exact hne.out | decide) ?_
          repeat (with_reducible refine Kept.setCell ?_ (.inl (by simp; try omega)) _)
          exact HK5.out
      · have hne := hide (show e2 ≠ 0 from he2)
        have he2' : (e2 != 0) = true := by simpa using he2
        rw [if_pos he2] at HE
        clear he2
        go_wp2
        refine bodyPost_ret (v := .tuple #[pv { p with to := (x1 : Int), index := (x2 : Int) } A n c, .int .i64 e2]) (by simp [results, Try.results121, go_sem, cp0, cq0]) rfl ?_
        refine placer_bad HE.out (by first | exact hne.out | decide) ?_
        repeat (with_reducible refine Kept.setCell ?_ (.inl (by simp; try omega)) _)
        exact HK3.out
  · have hne := hide (show e1 ≠ 0 from he1)
    have he1' : (e1 != 0) = true := by simpa using he1
    rw [if_pos he1] at HE
    clear he1
    go_wp2
    refine bodyPost_ret (v := .tuple #[pv { p with to := (x1 : Int) } A n c, .int .i64 e1]) (by simp [results, Try.results121, go_sem, cp0, cq0]) rfl ?_
    refine placer_bad HE.out (by first | exact hne.out | decide) ?_
    repeat (with_reducible refine Kept.setCell ?_ (.inl (by simp; try omega)) _)
    exact HK1.out
theorem rbyte_len (s : List UInt8 × Int) : (rbyte s).2.1.length ≤ s.1.length := by
  obtain ⟨b, e⟩ := s
  by_cases he : e = 0
  · subst he; exact Buf.getFixed_len b 1
  · rw [rbyte_bad b e he]; exact Nat.le_refl _
theorem plS_len (b : List UInt8) : (plS (rnum (b, 0)).2).1.length ≤ b.length := by
  unfold plS
  exact Nat.le_trans (rbyte_len _) (Nat.le_trans (rbyte_len _) (Nat.le_trans (rbyte_len _) (Buf.getNum_len b)))
def GotC (w w' : World) (r : Ending) (N pr : Nat) (q : Pkt) (l rest : List UInt8) (e : Int) : Prop := GotPk w' r q l e ∧ (e = 0 → Rd w' N pr (rest, 0)) ∧ Kept w.heap.size [pr] w w'
theorem gotc_bad {w w' : World} {N pr : Nat} {rest : List UInt8} {e : Int} (he : e ≠ 0) (hk : Kept w.heap.size [pr] w w') :
    GotC w w' (.returned (.tuple #[pv noP none 0 0, .int .i64 e])) N pr noP [] rest e := ⟨⟨none, 0, rfl, Nat.le_refl _, by decide, Bytes.nil _ _⟩, fun h => absurd h he, hk⟩
set_option maxRecDepth 100000 in
set_option maxHeartbeats 2000000 in
theorem chunkget_any (N pr : Nat) (b : List UInt8) (p : Pkt) (A : Option Addr) (n c : Nat) (w : World) (h : Rd w N pr (b, 0)) (hbl : b.length ≤ 1000000) :
    Calls Try.prog 73 #[.pointer (some ⟨pr, 0, none⟩), pv p A n c] w fun r w' => GotC w w' r N pr (cg b p).1 (cg b p).2.1 (cg b p).2.2.1 (cg b p).2.2.2 := by
  have hpr : pr < w.heap.size := Nat.lt_of_lt_of_le h.lt h.size
  have hN := h.size
  have hF1 := hide (fun W h => rnum_any N pr (b, 0) W h)
  have hb1 := rnum_lt (b, 0)
  have hP := hide (fun q W h => place_any N pr (rnum (b, 0)).2 q A n c W h)
  have hsl := plS_len b
  have hB := hide (fun W h => rbytes_any N pr (plS (rnum (b, 0)).2) 64 W h (by decide) (by omega))
  have hbb := hide (rbytes_bad 64 (plS (rnum (b, 0)).2))
  have HQ := hide (show cg b p = if 1152921504606846976 < (rnum (b, 0)).1 then (noP, [], [], 2) else if plE (rnum (b, 0)).2 ≠ 0 then (noP, [], [], plE (rnum (b, 0)).2)
    else if (rbytes 64 (plS (rnum (b, 0)).2)).2.2 ≠ 0 then (noP, [], [], (rbytes 64 (plS (rnum (b, 0)).2)).2.2)
    else (plQ (rnum (b, 0)).2 { p with no := ((rnum (b, 0)).1 : Int) }, (rbytes 64 (plS (rnum (b, 0)).2)).1, (rbytes 64 (plS (rnum (b, 0)).2)).2.1, 0) from rfl)
  generalize cg b p = Q at *
  generalize hgU : rbytes 64 (plS (rnum (b, 0)).2) = U at *
  clear hgU hsl
  unfold PlaceR at hP
  generalize hgS : plS (rnum (b, 0)).2 = S at *
  generalize hgE : plE (rnum (b, 0)).2 = E at *
  generalize hgQ : plQ (rnum (b, 0)).2 = PQ at *
  clear hgS hgE hgQ
  generalize rnum (b, 0) = T at *
  obtain ⟨x, r1, e1⟩ := T
  obtain ⟨t, rest, e2⟩ := U
  dsimp only at *
  by_cases hx : 1152921504606846976 < x
  · have HP := hide (HQ.out.trans (if_pos hx))
    have hne := hide (show (2 : Int) ≠ 0 by decide)
    go_enter Try.func73, Try.ntmps73
    go_wp2_with fail
    refine (hF1.out _ (h.grow (((Grow.refl w).alloc _).alloc _))).mono ?_
    rintro r w1 ⟨rfl, hr1, hb1⟩
    obtain ⟨p0, q0, hg1⟩ := peelK2 hb1 (by simp; omega) (by simp; omega)
    have p0_ := hide p0
    clear p0
    have p0 := p0_
    clear p0_
    have q0_ := hide q0
    clear q0
    have q0 := q0_
    clear q0_
    have HK1 := hide (show Kept w.heap.size [pr] w w1 from hg1)
    have hsz1 : w.heap.size ≤ w1.heap.size := HK1.out.size
    have hq1 : w.heap.size ≤ w1.heap.size := hg1.size
    have HS1 := hide hg1
    clear hb1 hg1
    obtain ⟨cp0, fp0, lp0⟩ := (show Box w1 _ _ from p0.out).rules
    obtain ⟨cq0, fq0, lq0⟩ := (show Box w1 _ _ from q0.out).rules
    go_wp2
    refine bodyPost_ret (v := .tuple #[pv noP none 0 0, .int .i64 2]) (by simp [results, Try.results73, go_sem, cq0, noP]) rfl ?_
    rw [HP.out]
    refine gotc_bad hne.out ?_
    repeat (with_reducible refine Kept.setCell ?_ (.inl (by simp; try omega)) _)
    exact HK1.out
  · rw [if_neg hx] at HQ
    have hx2 : x ≤ 1152921504606846976 := by omega
    clear hx
    go_enter Try.func73, Try.ntmps73
    go_wp2_with fail
    refine (hF1.out _ (h.grow (((Grow.refl w).alloc _).alloc _))).mono ?_
    rintro r w1 ⟨rfl, hr1, hb1⟩
    obtain ⟨p0, q0, hg1⟩ := peelK2 hb1 (by simp; omega) (by simp; omega)
    have p0_ := hide p0
    clear p0
    have p0 := p0_
    clear p0_
    have q0_ := hide q0
    clear q0
    have q0 := q0_
    clear q0_
    have HK1 := hide (show Kept w.heap.size [pr] w w1 from hg1)
    have hsz1 : w.heap.size ≤ w1.heap.size := HK1.out.size
    have hq1 : w.heap.size ≤ w1.heap.size := hg1.size
    have HS1 := hide hg1
    clear hb1 hg1
    obtain ⟨cp0, fp0, lp0⟩ := (show Box w1 _ _ from p0.out).rules
    obtain ⟨cq0, fq0, lq0⟩ := (show Box w1 _ _ from q0.out).rules
    go_wp2_with fail
    clear cp0 fp0 lp0 cq0 fq0 lq0
    generalize hW2 : World.setCell w1 _ _ = w2
    have n2 := Box.store1 (show Box w1 _ _ from p0.out) hW2
    simp only [List.setIfInBounds_toArray, List.set_cons_zero, List.set_cons_succ] at n2
    have q0_ := hide (Box.keep_ne (show Box w1 _ _ from q0.out) hW2 (by simp <;> omega))
    clear q0
    have q0 := q0_
    clear q0_
    have hr1 := Rd.store1 hr1 hW2 (by simp <;> omega)
    have HK2 := hide (Kept.store1 (show Kept w.heap.size [pr] w w1 from HK1.out) hW2 (by simp <;> omega))
    clear HK1
    have hsz2 : w.heap.size ≤ w2.heap.size := HK2.out.size
    have hq2 : w1.heap.size ≤ w2.heap.size := by rw [← hW2]; simp [World.setCell]
    clear hW2
    have p0_ := hide n2
    clear n2 p0
    have p0 := p0_
    clear p0_
    obtain ⟨cp0, fp0, lp0⟩ := (show Box w2 _ _ from p0.out).rules
    obtain ⟨cq0, fq0, lq0⟩ := (show Box w2 _ _ from q0.out).rules
    refine (hP.out { p with no := (x : Int) } _ hr1).mono ?_
    rintro r w3 ⟨q1, rfl, hq1, hb3⟩
    clear cp0 fp0 lp0 cq0 fq0 lq0
    have hg3 := hb3
    have p0_ := hide ((show Box w2 _ _ from p0.out).kept hg3 (by simp; omega))
    clear p0
    have p0 := p0_
    clear p0_
    have q0_ := hide ((show Box w2 _ _ from q0.out).kept hg3 (by simp; omega))
    clear q0
    have q0 := q0_
    clear q0_
    have HK3 := hide (Kept.at_ (show Kept w.heap.size [pr] w w2 from HK2.out) hg3)
    clear HK2
    have hsz3 : w.heap.size ≤ w3.heap.size := HK3.out.size
    have hq3 : w2.heap.size ≤ w3.heap.size := hg3.size
    have HS3 := hide hg3
    clear hb3 hg3
    obtain ⟨cp0, fp0, lp0⟩ := (show Box w3 _ _ from p0.out).rules
    obtain ⟨cq0, fq0, lq0⟩ := (show Box w3 _ _ from q0.out).rules
    by_cases he : E = 0
    · obtain ⟨HV_, hr3⟩ := hq1 he
      have HV := hide HV_
      clear HV_ hq1
      rw [if_neg (by simpa using he)] at HQ
      have he' : (E != 0) = false := by simpa using he
      clear he
      go_wp2_with fail
      clear cp0 fp0 lp0 cq0 fq0 lq0
      generalize hW4 : (World.setCell (World.setCell (World.setCell (World.setCell (World.setCell (World.setCell (World.setCell (World.setCell (World.setCell (World.setCell (World.setCell (World.setCell w3 _ _) _ _) _ _) _ _) _ _) _ _) _ _) _ _) _ _) _ _) _ _) _ _) = w4
      have np0 := Box.store12 (show Box w3 _ _ from p0.out) hW4
      have hb4 := Kept.store12 hW4
      have hr4 : Rd w4 N pr S := by
        rw [← hW4]
        repeat (with_reducible refine Rd.setOther ?_ (by simp; omega) _)
        exact hr3
      have hK4 : Kept w.heap.size [pr] w w4 := by
        rw [← hW4]
        repeat (with_reducible refine Kept.setCell ?_ (.inl (by simp; try omega)) _)
        exact HK3.out
      have hq4_ := hide (Box.kept (show Box w3 _ _ from q0.out) hb4 (by simp; try omega))
      clear q0 p0 hb4 hW4
      have q0 := hq4_
      have p0 := hide np0
      clear hq4_ np0
      have HK4 := hide hK4
      clear HK3 hK4
      have hsz4 : w.heap.size ≤ w4.heap.size := HK4.out.size
      obtain ⟨cp0, fp0, lp0⟩ := (show Box w4 _ _ from p0.out).rules
      obtain ⟨cq0, fq0, lq0⟩ := (show Box w4 _ _ from q0.out).rules
      refine (hB.out _ hr4).mono ?_
      rintro r w5 ⟨A5, c5, rfl, hc5, hcm5, hown5, hr5, hb5⟩
      have hbt := hown5.bytes
      have hd5 : ∀ q, blk A5 = some q → q ≠ w.heap.size ∧ q ≠ w.heap.size + 1 := fun q hq => by have := hown5.base hq; have := lp0; have := lq0; omega
      clear hown5 hr4
      clear cp0 fp0 lp0 cq0 fq0 lq0
      have hg5 := hb5
      have p0_ := hide ((show Box w4 _ _ from p0.out).kept hg5 (by simp; omega))
      clear p0
      have p0 := p0_
      clear p0_
      have q0_ := hide ((show Box w4 _ _ from q0.out).kept hg5 (by simp; omega))
      clear q0
      have q0 := q0_
      clear q0_
      have HK5 := hide (Kept.at_ (show Kept w.heap.size [pr] w w4 from HK4.out) hg5)
      clear HK4
      have hsz5 : w.heap.size ≤ w5.heap.size := HK5.out.size
      have hq5 : w4.heap.size ≤ w5.heap.size := hg5.size
      have HS5 := hide hg5
      clear hb5 hg5
      obtain ⟨cp0, fp0, lp0⟩ := (show Box w5 _ _ from p0.out).rules
      obtain ⟨cq0, fq0, lq0⟩ := (show Box w5 _ _ from q0.out).rules
      have hE := hide (fun (W : World) h => err_any N pr (rest, e2) W h)
      dsimp only at hE
      go_wp2_with fail
      refine (hE.out _ (by (repeat (with_reducible refine Rd.setOther ?_ (by simp; omega) _)); exact hr5)).mono ?_
      rintro r w' ⟨rfl, rfl⟩
      by_cases he2 : e2 = 0
      · subst he2
        have HP := hide (HQ.out.trans (if_neg (by simp)))
        go_wp2
        refine bodyPost_ret (v := .tuple #[pv q1 A5 t.length c5, .int .i64 0]) (by simp [results, Try.results73, go_sem, cp0, cq0]) rfl ?_
        rw [HP.out, HV.out]
        refine ⟨⟨A5, c5, rfl, hc5, hcm5, ?_⟩, fun _ => ?_, ?_⟩
        · repeat (with_reducible refine Bytes.setAt ?_ ?_ _; rotate_left; · (intro q h; have := hd5 q h; simp; omega))
          exact hbt
        · repeat (with_reducible refine Rd.setOther ?_ (by simp; omega) _)
          exact hr5
        · repeat (with_reducible refine Kept.setCell ?_ (.inl (by simp; try omega)) _)
          exact HK5.out
      · have hne := hide he2
        have HP := hide (HQ.out.trans (if_pos he2))
        have he2' : (e2 != 0) = true := by simpa using he2
        clear he2
        go_wp2
        refine bodyPost_ret (v := .tuple #[pv noP none 0 0, .int .i64 e2]) (by simp [results, Try.results73, go_sem, cq0, noP]) rfl ?_
        rw [HP.out]
        refine gotc_bad hne.out ?_
        repeat (with_reducible refine Kept.setCell ?_ (.inl (by simp; try omega)) _)
        exact HK5.out
    · have hne := hide he
      have HP := hide (HQ.out.trans (if_pos he))
      have he' : (E != 0) = true := by simpa using he
      clear he hq1
      go_wp2
      refine bodyPost_ret (v := .tuple #[pv noP none 0 0, .int .i64 E]) (by simp [results, Try.results73, go_sem, cq0, noP]) rfl ?_
      rw [HP.out]
      refine gotc_bad hne.out ?_
      repeat (with_reducible refine Kept.setCell ?_ (.inl (by simp; try omega)) _)
      exact HK3.out
end Go.Proofs.Ytpobjcdcimcdnaa
