/- Walks and plain lemmas that several statements share. -/
import Derived.Test.YtpobjcdcimcdnaaFewS
import Derived.Test.YtpobjcdcimcdnaaPlpS
import Derived.Lib.Mul64
namespace Go.Proofs.Ytpobjcdcimcdnaa
open Go.RowKit
abbrev attP (t f q h no : Int) : Pkt := { kind := 5, t := t, frm := f, seq := q, hops := h, no := no, to := 0, index := 0, total := 0, stamp := 0, value := 0 }
/-- whether a packet may be an attendance -/
def attB (p : Pkt) (l : List UInt8) : Bool := sameB p (attP p.t p.frm p.seq p.hops p.no) && l.isEmpty && headB p && numB p.no
theorem att_key (p : Pkt) (l : List UInt8) : attB p l = (keyB p.t p.frm && numB p.no && headB p && (sameB p (attP p.t p.frm p.seq p.hops p.no) && l.isEmpty)) := by
  unfold attB
  cases hs : sameB p (attP p.t p.frm p.seq p.hops p.no) with
  | false => simp
  | true =>
    have hk : p.kind = 5 := by simp [sameB, restB] at hs; exact hs.1.1.1.1.1.1
    have hh : headB p = (hopsB p.hops && keyB p.t p.frm) := by unfold headB; rw [if_pos (by simp [floodB, hk])]
    rw [hh]
    cases keyB p.t p.frm <;> cases hopsB p.hops <;> cases numB p.no <;> simp
set_option maxRecDepth 100000 in
set_option maxHeartbeats 2000000 in
theorem attnew_any (t f q no : Int) (w : World) : Calls Try.prog 57 #[kv t f q, .int .i64 no] w fun e w' => e = .returned (pv (attP t f q 1 no) none 0 0) ∧ Grow w w' := by
  go_enter Try.func57, Try.ntmps57
  go_wp2
  refine bodyPost_ret (v := pv (attP t f q 1 no) none 0 0) (by simp [results, Try.results57, go_sem]) rfl ⟨rfl, ?_⟩
  show Below w.heap.size w _
  repeat (with_reducible refine Below.setCell ?_ (by simp) _)
  exact ((Grow.refl w).alloc _).alloc _
set_option maxRecDepth 100000 in
set_option maxHeartbeats 2000000 in
theorem refattnew_any (t f q no : Int) (w : World) : Calls Try.prog 58 #[kv t f q, .int .i64 no] w fun e w' => e = .returned (pv (attP t f q 1 no) none 0 0) ∧ Grow w w' := by
  go_enter Try.func58, Try.ntmps58
  go_wp2
  refine bodyPost_ret (v := pv (attP t f q 1 no) none 0 0) (by simp [results, Try.results58, go_sem]) rfl ⟨rfl, ?_⟩
  show Below w.heap.size w _
  repeat (with_reducible refine Below.setCell ?_ (by simp) _)
  exact ((Grow.refl w).alloc _).alloc _
set_option maxHeartbeats 400000 in
theorem time_any (k : Int) (w : World) : Calls Try.prog 114 #[.int .i64 k] w fun e w' => e = .returned (.bool (numB k)) ∧ w = w' := by
  go_enter Try.func114, Try.ntmps114
  go_wp2
  all_goals
    go_ret
    exact ⟨ret_bool (by simp_all [numB] <;> (intros; omega)), rfl⟩
set_option maxRecDepth 100000 in
set_option maxHeartbeats 2000000 in
theorem attgood_any (p : Pkt) (A : Option Addr) (l : List UInt8) (c : Nat) (w : World) (hl : Bytes w A l) :
    Calls Try.prog 59 #[pv p A l.length c] w fun e w' => e = .returned (.bool (attB p l)) ∧ Below w.heap.size w w' := by
  have HD := hide (att_key p l)
  have HK := hide (fun W => keygood_any p.t p.frm p.seq W)
  have HT := hide (fun W => time_any p.no W)
  have HH := hide (fun W => headgood_any p A l.length c W)
  have HS := hide (fun W h => same_any p (attP p.t p.frm p.seq p.hops p.no) A none l [] c 0 W h (Bytes.nil _ _))
  rw [show (l == ([] : List UInt8)) = l.isEmpty by cases l <;> rfl] at HS
  generalize (sameB p (attP p.t p.frm p.seq p.hops p.no) && l.isEmpty) = b4 at *
  generalize keyB p.t p.frm = b1 at *
  generalize numB p.no = b2 at *
  generalize headB p = b3 at *
  generalize attB p l = bb at *
  go_enter Try.func59, Try.ntmps59
  go_wp2_with fail
  refine (attnew_any p.t p.frm p.seq p.no _).mono ?_
  rintro r w1 ⟨rfl, hb1⟩
  obtain ⟨p0, hg1⟩ := peel1 hb1
  have p0_ := hide p0
  clear p0
  have p0 := p0_
  clear p0_
  have hl := hl.grow hg1
  have HG1 := hide (show Grow w w1 from hg1)
  have hsz1 : w.heap.size ≤ w1.heap.size := HG1.out.size
  have hq1 : w.heap.size ≤ w1.heap.size := hg1.size
  have HS1 := hide hg1
  clear hb1 hg1
  obtain ⟨cp0, fp0, lp0⟩ := (show Box w1 _ _ from p0.out).rules
  go_wp2_with fail
  refine (HK.out _).mono ?_
  rintro r w2 ⟨rfl, hb2⟩
  clear cp0 fp0 lp0
  obtain ⟨q0, hg2⟩ := peel1 hb2
  have p0_ := hide ((show Box w1 _ _ from p0.out).grow hg2)
  clear p0
  have p0 := p0_
  clear p0_
  have q0_ := hide q0
  clear q0
  have q0 := q0_
  clear q0_
  have hl := hl.grow hg2
  have HG2 := hide (Grow.trans (show Grow w w1 from HG1.out) hg2)
  clear HG1
  have hsz2 : w.heap.size ≤ w2.heap.size := HG2.out.size
  have hq2 : w1.heap.size ≤ w2.heap.size := hg2.size
  have HS2 := hide hg2
  clear hb2 hg2
  obtain ⟨cp0, fp0, lp0⟩ := (show Box w2 _ _ from p0.out).rules
  obtain ⟨cq0, fq0, lq0⟩ := (show Box w2 _ _ from q0.out).rules
  cases b1 with
  | false =>
    go_wp2
    go_ret
    exact ⟨by rw [HD.out]; simp, HG2.out⟩
  | true =>
    go_wp2_with fail
    refine (HT.out _).mono ?_
    rintro r w' ⟨rfl, rfl⟩
    cases b2 with
    | false =>
      go_wp2
      go_ret
      exact ⟨by rw [HD.out]; simp, HG2.out⟩
    | true =>
      go_wp2_with fail
      refine (HH.out _).mono ?_
      rintro r w3 ⟨rfl, hb3⟩
      clear cp0 fp0 lp0 cq0 fq0 lq0
      have hg3 := hb3
      have p0_ := hide ((show Box w2 _ _ from p0.out).grow hg3)
      clear p0
      have p0 := p0_
      clear p0_
      have q0_ := hide ((show Box w2 _ _ from q0.out).grow hg3)
      clear q0
      have q0 := q0_
      clear q0_
      have hl := hl.grow hg3
      have HG3 := hide (Grow.trans (show Grow w w2 from HG2.out) hg3)
      clear HG2
      have hsz3 : w.heap.size ≤ w3.heap.size := HG3.out.size
      have hq3 : w2.heap.size ≤ w3.heap.size := hg3.size
      have HS3 := hide hg3
      clear hb3 hg3
      obtain ⟨cp0, fp0, lp0⟩ := (show Box w3 _ _ from p0.out).rules
      obtain ⟨cq0, fq0, lq0⟩ := (show Box w3 _ _ from q0.out).rules
      cases b3 with
      | false =>
        go_wp2
        go_ret
        exact ⟨by rw [HD.out]; simp, HG3.out⟩
      | true =>
        go_wp2_with fail
        refine (HS.out _ hl).mono ?_
        rintro r w4 ⟨rfl, hb4⟩
        clear cp0 fp0 lp0 cq0 fq0 lq0
        have hg4 := hb4
        have p0_ := hide ((show Box w3 _ _ from p0.out).grow hg4)
        clear p0
        have p0 := p0_
        clear p0_
        have q0_ := hide ((show Box w3 _ _ from q0.out).grow hg4)
        clear q0
        have q0 := q0_
        clear q0_
        have hl := hl.grow hg4
        have HG4 := hide (Grow.trans (show Grow w w3 from HG3.out) hg4)
        clear HG3
        have hsz4 : w.heap.size ≤ w4.heap.size := HG4.out.size
        have hq4 : w3.heap.size ≤ w4.heap.size := hg4.size
        have HS4 := hide hg4
        clear hb4 hg4
        obtain ⟨cp0, fp0, lp0⟩ := (show Box w4 _ _ from p0.out).rules
        obtain ⟨cq0, fq0, lq0⟩ := (show Box w4 _ _ from q0.out).rules
        go_wp2
        go_ret
        exact ⟨by rw [HD.out]; simp, HG4.out⟩
set_option maxRecDepth 100000 in
set_option maxHeartbeats 2000000 in
theorem refattgood_any (p : Pkt) (A : Option Addr) (l : List UInt8) (c : Nat) (w : World) (hl : Bytes w A l) :
    Calls Try.prog 60 #[pv p A l.length c] w fun e w' => e = .returned (.bool (attB p l)) ∧ Below w.heap.size w w' := by
  have HD := hide (show attB p l = (sameB p (attP p.t p.frm p.seq p.hops p.no) && l.isEmpty && headB p && numB p.no) from rfl)
  have HH := hide (fun W => refheadgood_any p A l.length c W)
  have HS := hide (fun W h => refsame_any p (attP p.t p.frm p.seq p.hops p.no) A none l [] c 0 W h (Bytes.nil _ _))
  rw [show (l == ([] : List UInt8)) = l.isEmpty by cases l <;> rfl] at HS
  generalize (sameB p (attP p.t p.frm p.seq p.hops p.no) && l.isEmpty) = b4 at *
  generalize headB p = b3 at *
  have hn := hide (show numB p.no = (decide (0 ≤ p.no) && decide (p.no ≤ 1152921504606846976)) from rfl)
  generalize attB p l = bb at *
  go_enter Try.func60, Try.ntmps60
  go_wp2_with fail
  refine (refattnew_any p.t p.frm p.seq p.no _).mono ?_
  rintro r w1 ⟨rfl, hb1⟩
  obtain ⟨p0, hg1⟩ := peel1 hb1
  have p0_ := hide p0
  clear p0
  have p0 := p0_
  clear p0_
  have hl := hl.grow hg1
  have HG1 := hide (show Grow w w1 from hg1)
  have hsz1 : w.heap.size ≤ w1.heap.size := HG1.out.size
  have hq1 : w.heap.size ≤ w1.heap.size := hg1.size
  have HS1 := hide hg1
  clear hb1 hg1
  obtain ⟨cp0, fp0, lp0⟩ := (show Box w1 _ _ from p0.out).rules
  go_wp2_with fail
  refine (HS.out _ (hl.alloc _)).mono ?_
  rintro r w2 ⟨rfl, hb2⟩
  clear cp0 fp0 lp0
  obtain ⟨q0, hg2⟩ := peel1 hb2
  have p0_ := hide ((show Box w1 _ _ from p0.out).grow hg2)
  clear p0
  have p0 := p0_
  clear p0_
  have q0_ := hide q0
  clear q0
  have q0 := q0_
  clear q0_
  have hl := hl.grow hg2
  have HG2 := hide (Grow.trans (show Grow w w1 from HG1.out) hg2)
  clear HG1
  have hsz2 : w.heap.size ≤ w2.heap.size := HG2.out.size
  have hq2 : w1.heap.size ≤ w2.heap.size := hg2.size
  have HS2 := hide hg2
  clear hb2 hg2
  obtain ⟨cp0, fp0, lp0⟩ := (show Box w2 _ _ from p0.out).rules
  obtain ⟨cq0, fq0, lq0⟩ := (show Box w2 _ _ from q0.out).rules
  cases b4 with
  | false =>
    go_wp2
    go_ret
    exact ⟨by rw [HD.out]; simp, HG2.out⟩
  | true =>
    go_wp2_with fail
    refine (HH.out _).mono ?_
    rintro r w3 ⟨rfl, hb3⟩
    clear cp0 fp0 lp0 cq0 fq0 lq0
    have hg3 := hb3
    have p0_ := hide ((show Box w2 _ _ from p0.out).grow hg3)
    clear p0
    have p0 := p0_
    clear p0_
    have q0_ := hide ((show Box w2 _ _ from q0.out).grow hg3)
    clear q0
    have q0 := q0_
    clear q0_
    have hl := hl.grow hg3
    have HG3 := hide (Grow.trans (show Grow w w2 from HG2.out) hg3)
    clear HG2
    have hsz3 : w.heap.size ≤ w3.heap.size := HG3.out.size
    have hq3 : w2.heap.size ≤ w3.heap.size := hg3.size
    have HS3 := hide hg3
    clear hb3 hg3
    obtain ⟨cp0, fp0, lp0⟩ := (show Box w3 _ _ from p0.out).rules
    obtain ⟨cq0, fq0, lq0⟩ := (show Box w3 _ _ from q0.out).rules
    cases b3 with
    | false =>
      go_wp2
      go_ret
      exact ⟨by rw [HD.out]; simp, HG3.out⟩
    | true =>
      by_cases n1 : 0 ≤ p.no
      · go_wp2
        go_ret
        exact ⟨by rw [HD.out, hn.out]; simp [n1], HG3.out⟩
      · go_wp2
        go_ret
        exact ⟨by rw [HD.out, hn.out]; simp [n1]; (intros; omega), HG3.out⟩
set_option maxRecDepth 100000 in
set_option maxHeartbeats 2000000 in
theorem attget_any (N pr : Nat) (b : List UInt8) (p : Pkt) (A : Option Addr) (l : List UInt8) (c : Nat) (w : World) (h : Rd w N pr (b, 0)) (hl : Bytes w A l) (hA : l ≠ [] → ∀ q, blk A = some q → q ≠ pr) (hl1 : l.length ≤ c) (hl2 : c ≤ 9223372036854775807) :
    Calls Try.prog 150 #[.pointer (some ⟨pr, 0, none⟩), pv p A l.length c] w fun r w' => GotRd w w' r N pr (pg3 b p).1 (bodyOf (pg3 b p).2.2 l) (pg3 b p).2.1 (pg3 b p).2.2 := by
  have hpr : pr < w.heap.size := Nat.lt_of_lt_of_le h.lt h.size
  have hN := h.size
  have hF := hide (fun W h => rnum_any N pr (b, 0) W h)
  have HQ := hide (show pg3 b p = if noG (rnum (b, 0)) = 0 then ({ p with no := ((rnum (b, 0)).1 : Int) }, (rnum (b, 0)).2.1, 0) else (noP, [], noG (rnum (b, 0))) from rfl)
  generalize pg3 b p = Q at *
  generalize rnum (b, 0) = T at *
  obtain ⟨x, rest, e1⟩ := T
  dsimp only at *
  have hE := hide (fun (W : World) h => err_any N pr (rest, e1) W h)
  dsimp only at hE
  by_cases he : e1 = 0
  · subst he
    by_cases hx : 1152921504606846976 < x
    · have en := hide (show noG (x, rest, 0) = 2 from if_pos ⟨rfl, hx⟩)
      have HP := hide (HQ.out.trans (if_neg (by rw [en.out]; decide)))
      have hne := hide (show (2 : Int) ≠ 0 by decide)
      have hbo := hide (show bodyOf 2 l = [] from if_neg (by decide))
      rw [en.out] at HP
      go_enter Try.func150, Try.ntmps150
      go_wp2_with fail
      refine (hF.out _ (h.grow (((Grow.refl w).alloc _).alloc _))).mono ?_
      rintro r w1 ⟨rfl, hr1, hb1⟩
      obtain ⟨p0, q0, hg1⟩ := peelK2 hb1 (by simp; omega) (by simp; omega)
      have p0_ := hide p0
      clear p0
      have p0 := p0_
      clear p0_
      have q0_ := hide q0
      clear q0
      have q0 := q0_
      clear q0_
      have HK1 := hide (show Kept w.heap.size [pr] w w1 from hg1)
      have hsz1 : w.heap.size ≤ w1.heap.size := HK1.out.size
      have hq1 : w.heap.size ≤ w1.heap.size := hg1.size
      have HS1 := hide hg1
      clear hb1 hg1
      obtain ⟨cp0, fp0, lp0⟩ := (show Box w1 _ _ from p0.out).rules
      obtain ⟨cq0, fq0, lq0⟩ := (show Box w1 _ _ from q0.out).rules
      go_wp2_with fail
      refine (hE.out _ hr1).mono ?_
      rintro r w' ⟨rfl, rfl⟩
      go_wp2
      refine bodyPost_ret (v := .tuple #[pv noP none 0 0, .int .i64 2]) (by simp [results, Try.results150, go_sem, cq0, noP]) rfl ?_
      rw [HP.out]
      rw [hbo.out]
      refine gotrd_bad hne.out ?_
      · repeat (with_reducible refine Kept.setCell ?_ (.inl (by simp)) _)
        exact HK1.out
    · have en := hide (show noG (x, rest, 0) = 0 from if_neg (fun h => hx h.2))
      rw [en.out] at HQ
      have HP := hide (HQ.out.trans (if_pos rfl))
      have hx2 : x ≤ 1152921504606846976 := by omega
      clear hx
      go_enter Try.func150, Try.ntmps150
      go_wp2_with fail
      refine (hF.out _ (h.grow (((Grow.refl w).alloc _).alloc _))).mono ?_
      rintro r w1 ⟨rfl, hr1, hb1⟩
      obtain ⟨p0, q0, hg1⟩ := peelK2 hb1 (by simp; omega) (by simp; omega)
      have p0_ := hide p0
      clear p0
      have p0 := p0_
      clear p0_
      have q0_ := hide q0
      clear q0
      have q0 := q0_
      clear q0_
      have HK1 := hide (show Kept w.heap.size [pr] w w1 from hg1)
      have hsz1 : w.heap.size ≤ w1.heap.size := HK1.out.size
      have hq1 : w.heap.size ≤ w1.heap.size := hg1.size
      have HS1 := hide hg1
      clear hb1 hg1
      obtain ⟨cp0, fp0, lp0⟩ := (show Box w1 _ _ from p0.out).rules
      obtain ⟨cq0, fq0, lq0⟩ := (show Box w1 _ _ from q0.out).rules
      go_wp2_with fail
      refine (hE.out _ hr1).mono ?_
      rintro r w' ⟨rfl, rfl⟩
      go_wp2
      refine bodyPost_ret (v := .tuple #[pv { p with no := (x : Int) } A l.length c, .int .i64 0]) (by simp [results, Try.results150, go_sem, cq0]) rfl ?_
      rw [HP.out]
      refine gotrd_ok hl hA hl1 hl2 ?_ ?_
      · repeat (with_reducible refine Kept.setCell ?_ (.inl (by simp)) _)
        exact HK1.out
      · repeat (with_reducible refine Rd.setOther ?_ (by simp; omega) _)
        exact hr1
  · have en := hide (show noG (x, rest, e1) = e1 from if_neg (fun h => he h.1))
    rw [en.out] at HQ
    have HP := hide (HQ.out.trans (if_neg he))
    have hbo := hide (show bodyOf e1 l = [] from if_neg he)
    have he' : (e1 != 0) = true := by simpa using he
    have hne := hide he
    clear he
    go_enter Try.func150, Try.ntmps150
    go_wp2_with fail
    refine (hF.out _ (h.grow (((Grow.refl w).alloc _).alloc _))).mono ?_
    rintro r w1 ⟨rfl, hr1, hb1⟩
    obtain ⟨p0, q0, hg1⟩ := peelK2 hb1 (by simp; omega) (by simp; omega)
    have p0_ := hide p0
    clear p0
    have p0 := p0_
    clear p0_
    have q0_ := hide q0
    clear q0
    have q0 := q0_
    clear q0_
    have HK1 := hide (show Kept w.heap.size [pr] w w1 from hg1)
    have hsz1 : w.heap.size ≤ w1.heap.size := HK1.out.size
    have hq1 : w.heap.size ≤ w1.heap.size := hg1.size
    have HS1 := hide hg1
    clear hb1 hg1
    obtain ⟨cp0, fp0, lp0⟩ := (show Box w1 _ _ from p0.out).rules
    obtain ⟨cq0, fq0, lq0⟩ := (show Box w1 _ _ from q0.out).rules
    go_wp2_with fail
    refine (hE.out _ hr1).mono ?_
    rintro r w' ⟨rfl, rfl⟩
    go_wp2
    refine bodyPost_ret (v := .tuple #[pv noP none 0 0, .int .i64 e1]) (by simp [results, Try.results150, go_sem, cq0, noP]) rfl ?_
    rw [HP.out]
    rw [hbo.out]
    refine gotrd_bad hne.out ?_
    · repeat (with_reducible refine Kept.setCell ?_ (.inl (by simp)) _)
      exact HK1.out
set_option maxRecDepth 100000 in
set_option maxHeartbeats 2000000 in
theorem refattget_any (B : Option Addr) (b : List UInt8) (cb : Nat) (p : Pkt) (A : Option Addr) (l : List UInt8) (c : Nat) (w : World) (hb : Bytes w B b) (hc : b.length ≤ cb) (hcm : cb ≤ 9223372036854775807) (hl1 : l.length ≤ c) (hl2 : c ≤ 9223372036854775807) :
    Calls Try.prog 133 #[.slice B b.length cb, pv p A l.length c] w fun r w' => GotR3 B b A l r (pg3 b p).1 (bodyOf (pg3 b p).2.2 l) (pg3 b p).2.1 (pg3 b p).2.2 ∧ Grow w w' := by
  have hF := hide (fun W h => refgetnum_any B b cb W h hc hcm)
  have HQ := hide (show pg3 b p = if noG (Buf.getNum b) = 0 then ({ p with no := ((Buf.getNum b).1 : Int) }, (Buf.getNum b).2.1, 0) else (noP, [], noG (Buf.getNum b)) from rfl)
  generalize pg3 b p = Q at *
  generalize Buf.getNum b = T at *
  obtain ⟨x, rest, e1⟩ := T
  dsimp only at *
  by_cases he : e1 = 0
  · subst he
    by_cases hx : 1152921504606846976 < x
    · have en := hide (show noG (x, rest, 0) = 2 from if_pos ⟨rfl, hx⟩)
      rw [en.out] at HQ
      have HP := hide (HQ.out.trans (if_neg (by decide)))
      have hbo := hide (show bodyOf 2 l = [] from if_neg (by decide))
      go_enter Try.func133, Try.ntmps133
      go_wp2_with fail
      refine (hF.out _ ((hb.alloc _).alloc _)).mono ?_
      rintro r w1 ⟨⟨A1, c1, rfl, hc1, hcm1, hr⟩, hb1⟩
      obtain ⟨p0, q0, hg1⟩ := peel2 hb1
      have p0_ := hide p0
      clear p0
      have p0 := p0_
      clear p0_
      have q0_ := hide q0
      clear q0
      have q0 := q0_
      clear q0_
      have HG1 := hide (show Grow w w1 from hg1)
      have hsz1 : w.heap.size ≤ w1.heap.size := HG1.out.size
      have hq1 : w.heap.size ≤ w1.heap.size := hg1.size
      have HS1 := hide hg1
      clear hb1 hg1
      obtain ⟨cp0, fp0, lp0⟩ := (show Box w1 _ _ from p0.out).rules
      obtain ⟨cq0, fq0, lq0⟩ := (show Box w1 _ _ from q0.out).rules
      go_wp2
      refine bodyPost_ret (v := .tuple #[pv noP none 0 0, .slice none 0 0, .int .i64 2]) (by simp [results, Try.results133, go_sem, cq0, noP]) rfl ?_
      rw [HP.out]
      rw [hbo.out]
      refine ⟨gotr3_bad, ?_⟩
      show Below w.heap.size w _
      repeat (with_reducible refine Below.setCell ?_ (by simp) _)
      exact HG1.out
    · have en := hide (show noG (x, rest, 0) = 0 from if_neg (fun h => hx h.2))
      rw [en.out] at HQ
      have HP := hide (HQ.out.trans (if_pos rfl))
      have hx2 : x ≤ 1152921504606846976 := by omega
      clear hx
      go_enter Try.func133, Try.ntmps133
      go_wp2_with fail
      refine (hF.out _ ((hb.alloc _).alloc _)).mono ?_
      rintro r w1 ⟨⟨A1, c1, rfl, hc1, hcm1, hr⟩, hb1⟩
      obtain ⟨p0, q0, hg1⟩ := peel2 hb1
      have p0_ := hide p0
      clear p0
      have p0 := p0_
      clear p0_
      have q0_ := hide q0
      clear q0
      have q0 := q0_
      clear q0_
      have HG1 := hide (show Grow w w1 from hg1)
      have hsz1 : w.heap.size ≤ w1.heap.size := HG1.out.size
      have hq1 : w.heap.size ≤ w1.heap.size := hg1.size
      have HS1 := hide hg1
      clear hb1 hg1
      obtain ⟨cp0, fp0, lp0⟩ := (show Box w1 _ _ from p0.out).rules
      obtain ⟨cq0, fq0, lq0⟩ := (show Box w1 _ _ from q0.out).rules
      go_wp2
      refine bodyPost_ret (v := .tuple #[pv { p with no := (x : Int) } A l.length c, .slice A1 rest.length c1, .int .i64 0]) (by simp [results, Try.results133, go_sem, cq0]) rfl ?_
      rw [HP.out]
      refine ⟨gotr3_ok hl1 hl2 hc1 hcm1 hr, ?_⟩
      show Below w.heap.size w _
      repeat (with_reducible refine Below.setCell ?_ (by simp) _)
      exact HG1.out
  · have en := hide (show noG (x, rest, e1) = e1 from if_neg (fun h => he h.1))
    rw [en.out] at HQ
    have HP := hide (HQ.out.trans (if_neg he))
    have hbo := hide (show bodyOf e1 l = [] from if_neg he)
    have he' : (e1 != 0) = true := by simpa using he
    have he2 : (e1 == 0) = false := by simpa using he
    clear he
    go_enter Try.func133, Try.ntmps133
    go_wp2_with fail
    refine (hF.out _ ((hb.alloc _).alloc _)).mono ?_
    rintro r w1 ⟨⟨A1, c1, rfl, hc1, hcm1, hr⟩, hb1⟩
    obtain ⟨p0, q0, hg1⟩ := peel2 hb1
    have p0_ := hide p0
    clear p0
    have p0 := p0_
    clear p0_
    have q0_ := hide q0
    clear q0
    have q0 := q0_
    clear q0_
    have HG1 := hide (show Grow w w1 from hg1)
    have hsz1 : w.heap.size ≤ w1.heap.size := HG1.out.size
    have hq1 : w.heap.size ≤ w1.heap.size := hg1.size
    have HS1 := hide hg1
    clear hb1 hg1
    obtain ⟨cp0, fp0, lp0⟩ := (show Box w1 _ _ from p0.out).rules
    obtain ⟨cq0, fq0, lq0⟩ := (show Box w1 _ _ from q0.out).rules
    go_wp2
    refine bodyPost_ret (v := .tuple #[pv noP none 0 0, .slice none 0 0, .int .i64 e1]) (by simp [results, Try.results133, go_sem, cq0, noP]) rfl ?_
    rw [HP.out]
    rw [hbo.out]
    refine ⟨gotr3_bad, ?_⟩
    show Below w.heap.size w _
    repeat (with_reducible refine Below.setCell ?_ (by simp) _)
    exact HG1.out
set_option maxRecDepth 100000 in
set_option maxHeartbeats 2000000 in
theorem attput_any (B p : Nat) (A : Option Addr) (c : Nat) (e : Int) (b : List UInt8) (most : Int) (q : Pkt) (A2 : Option Addr) (n c2 : Nat) (w : World) (h : Wr w B p A c e b most) (hb : b.length ≤ 999999999900) (hB : B ≤ w.heap.size) :
    Calls Try.prog 116 #[.pointer (some ⟨p, 0, none⟩), pv q A2 n c2] w fun r w' => r = .returned (.tuple #[]) ∧ Wrote w w' B p A (Buf.wput most (e, b) (Buf.sevens (u64of q.no))) most := by
  have hlt := h.lt
  have P0 := Putting.start h (pcells q A2 n c2) 65
  have hpx := P0.box
  unfold Holds at hpx
  go_enter Try.func116, Try.ntmps116
  go_wp2_with fail
  refine (num_int B p A c (e, b) most q.no _ P0.wr (by simp; omega) (by simp; omega)).mono ?_
  rintro r w1 ⟨rfl, hw1⟩
  obtain ⟨A1, c1, P1⟩ := P0.step hlt (Nat.le_refl _) (by simp) (Grow.refl _) hw1
  go_wp2
  go_end0
  exact ⟨rfl, P1.wrote⟩
set_option maxRecDepth 100000 in
set_option maxHeartbeats 2000000 in
theorem refattbytes_any (p : Pkt) (A : Option Addr) (n c : Nat) (w : World) :
    Calls Try.prog 130 #[pv p A n c] w fun r w' => ∃ A c, r = .returned (.slice A (Buf.sevens (u64of p.no)).length c) ∧ Own w' w.heap.size A c (Buf.sevens (u64of p.no)) ∧ Grow w w' := by
  have hg0 := (Grow.refl w).alloc (.cells (pcells p A n c) 65)
  have hN := hide (fun W => refnum_any (u64of p.no) W (u64of_lt _))
  have e3 := hide (u64_of p.no)
  generalize Buf.sevens (u64of p.no) = x3 at *
  go_enter Try.func130, Try.ntmps130
  go_wp2_with fail
  rw [e3.out]
  refine (hN.out _).mono ?_
  rintro r w1 ⟨A1, c1, rfl, hown1, hg1⟩
  go_wp2
  go_ret
  exact ⟨A1, c1, rfl, hown1.mono (by simp), Grow.trans hg0 hg1⟩
end Go.Proofs.Ytpobjcdcimcdnaa
namespace Go.Proofs.Ytpobjcdcimcdnaa
open Go.RowKit
end Go.Proofs.Ytpobjcdcimcdnaa
namespace Go.Proofs.Ytpobjcdcimcdnaa
open Go.RowKit
end Go.Proofs.Ytpobjcdcimcdnaa
namespace Go.Proofs.Ytpobjcdcimcdnaa
open Go.RowKit
end Go.Proofs.Ytpobjcdcimcdnaa

namespace Go.Proofs.Ytpobjcdcimcdnaa
open Go.RowKit
theorem att_back (p : Pkt) (l : List UInt8) (h : attB p l = true) (r : List UInt8) : pg3 (Buf.sevens (u64of p.no) ++ r) (attP p.t p.frm p.seq p.hops 0) = (attP p.t p.frm p.seq p.hops p.no, r, 0) ∧ sameB p (attP p.t p.frm p.seq p.hops p.no) = true ∧ l = [] := by
  unfold attB at h
  simp only [Bool.and_eq_true, List.isEmpty_iff] at h
  obtain ⟨⟨⟨h1, h2⟩, _⟩, h4⟩ := h
  have hno : 0 ≤ p.no ∧ p.no ≤ 1152921504606846976 := by simp [numB] at h4; exact h4
  have hx : ((u64of p.no : Nat) : Int) = p.no := by rw [← u64_of, IntKind.wrap_u64]; omega
  refine ⟨?_, h1, h2⟩
  unfold pg3
  rw [show rnum (Buf.sevens (u64of p.no) ++ r, 0) = (u64of p.no, r, 0) from Buf.sevens_get_back _ _ (u64of_lt _)]
  have en : noG (u64of p.no, r, 0) = 0 := if_neg (fun h => by have := h.2; dsimp only at this; omega)
  rw [en, if_pos rfl]
  dsimp only
  rw [hx]
end Go.Proofs.Ytpobjcdcimcdnaa
