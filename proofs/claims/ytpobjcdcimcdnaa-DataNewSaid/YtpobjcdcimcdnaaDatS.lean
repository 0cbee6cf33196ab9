/- Walks and plain lemmas that several statements share. -/
import Derived.Test.YtpobjcdcimcdnaaPulS
import Derived.Test.YtpobjcdcimcdnaaFewS
import Derived.Test.YtpobjcdcimcdnaaTool
namespace Go.Proofs.Ytpobjcdcimcdnaa
open Go.RowKit
end Go.Proofs.Ytpobjcdcimcdnaa
namespace Go.Proofs.Ytpobjcdcimcdnaa
open Go.RowKit
/-- a data packet -/
abbrev dataP (t f q h : Int) : Pkt := { kind := 4, t := t, frm := f, seq := q, hops := h, no := 0, to := 0, index := 0, total := 0, stamp := 0, value := 0 }
def dataB (p : Pkt) (n : Nat) : Bool := p.kind == 4 && headB p && decide (n ≤ 1024) && (p.no == 0 && p.to == 0 && p.index == 0 && p.total == 0 && p.stamp == 0 && p.value == 0)
theorem data_same (p : Pkt) (n : Nat) : dataB p n = (sameB p (dataP p.t p.frm p.seq p.hops) && headB p && decide (n < 1025)) := by
  rw [Bool.eq_iff_iff]
  simp [dataB, sameB, restB, keyEq]
  grind
set_option maxRecDepth 100000 in
set_option maxHeartbeats 1000000 in
theorem refdatanew_any (t f q : Int) (A : Option Addr) (n c : Nat) (w : World) :
    Calls Try.prog 52 #[kv t f q, .slice A n c] w fun e w' => e = .returned (pv (dataP t f q 1) A n c) ∧ Grow w w' := by
  go_enter Try.func52, Try.ntmps52
  go_wp2
  refine bodyPost_ret (v := pv (dataP t f q 1) A n c) (by simp [results, Try.results52, go_sem]) rfl ⟨rfl, ?_⟩
  show Below w.heap.size w _
  repeat (refine Below.setCell ?_ (by simp) _)
  exact ((Grow.refl w).alloc _).alloc _
set_option maxRecDepth 100000 in
set_option maxHeartbeats 1000000 in
theorem datagood_any (p : Pkt) (A : Option Addr) (n c : Nat) (w : World) (hn : n ≤ 1000000000000) :
    Calls Try.prog 54 #[pv p A n c] w fun e w' => e = .returned (.bool (dataB p n)) ∧ Below w.heap.size w w' := by
  have hb0 := (Grow.refl w).alloc (.cells (pcells p A n c) 65)
  by_cases hk : p.kind = 4
  · have k4 : (p.kind != 4) = false := by simpa using hk
    have HG := hide (fun W => headgood_any p A n c W)
    cases hh : headB p with
    | true =>
      rw [hh] at HG
      by_cases hs : n ≤ 1024
      · have HD := hide (show dataB p n = (p.no == 0 && p.to == 0 && p.index == 0 && p.total == 0 && p.stamp == 0 && p.value == 0) by simp [dataB, hk, hh, hs])
        clear hk hh
        go_enter Try.func54, Try.ntmps54
        go_wp2_with fail
        refine (HG.out _).mono ?_
        rintro e w1 ⟨rfl, hb1⟩
        obtain ⟨hc1, hf1⟩ := grown_cell hb1
        have hs1 : w.heap.size < w1.heap.size := by have := hb1.size; simp at this; omega
        have HB := hide (hb0.step hb1)
        clear hb1 hb0
        go_wp2
        all_goals
          go_ret
          refine ⟨ret_bool ?_, HB.out⟩
          rw [HD.out]
          simp_all
      · have HD := hide (show dataB p n = false by simp [dataB, hs])
        clear hk hh
        go_enter Try.func54, Try.ntmps54
        go_wp2_with fail
        refine (HG.out _).mono ?_
        rintro e w1 ⟨rfl, hb1⟩
        obtain ⟨hc1, hf1⟩ := grown_cell hb1
        have hs1 : w.heap.size < w1.heap.size := by have := hb1.size; simp at this; omega
        have HB := hide (hb0.step hb1)
        clear hb1 hb0
        go_wp2
        go_ret
        exact ⟨by rw [HD.out]; rfl, HB.out⟩
    | false =>
      rw [hh] at HG
      have HD := hide (show dataB p n = false by simp [dataB, hh])
      clear hk hh
      go_enter Try.func54, Try.ntmps54
      go_wp2_with fail
      refine (HG.out _).mono ?_
      rintro e w1 ⟨rfl, hb1⟩
      have HB := hide (hb0.step hb1)
      clear hb1 hb0
      go_wp2
      go_ret
      exact ⟨by rw [HD.out]; rfl, HB.out⟩
  · have k4 : (p.kind != 4) = true := by simpa using hk
    have HD := hide (show dataB p n = false by simp [dataB, hk])
    clear hk
    go_enter Try.func54, Try.ntmps54
    go_wp2
    go_ret
    exact ⟨by rw [HD.out]; rfl, hb0⟩
end Go.Proofs.Ytpobjcdcimcdnaa
namespace Go.Proofs.Ytpobjcdcimcdnaa
open Go.RowKit
set_option maxRecDepth 100000 in
set_option maxHeartbeats 2000000 in
theorem refdatagood_any (p : Pkt) (A : Option Addr) (l : List UInt8) (c : Nat) (w : World) (hl : Bytes w A l) :
    Calls Try.prog 55 #[pv p A l.length c] w fun e w' => e = .returned (.bool (dataB p l.length)) ∧ Below w.heap.size w w' := by
  have HD := hide (data_same p l.length)
  have HS := hide (fun W hl => refsame_any p (dataP p.t p.frm p.seq p.hops) A A l l c c W hl hl)
  rw [beq_self_eq_true, Bool.and_true] at HS
  have HG := hide (fun W => refheadgood_any p A l.length c W)
  generalize sameB p (dataP p.t p.frm p.seq p.hops) = b1 at *
  generalize headB p = b2 at *
  generalize dataB p l.length = b3 at *
  go_enter Try.func55, Try.ntmps55
  go_wp2_with fail
  refine (refdatanew_any p.t p.frm p.seq A l.length c _).mono ?_
  rintro r w1 ⟨rfl, hb1⟩
  obtain ⟨p0, hg1⟩ := peel1 hb1
  have p0_ := hide p0
  clear p0
  have p0 := p0_
  clear p0_
  have hl := hl.grow hg1
  have HG1 := hide (show Grow w w1 from hg1)
  clear hb1 hg1
  obtain ⟨cp0, fp0, lp0⟩ := (show Box w1 _ _ from p0.out).rules
  go_wp2_with fail
  refine (HS.out _ (hl.alloc _)).mono ?_
  rintro r w2 ⟨rfl, hb2⟩
  clear cp0 fp0 lp0
  obtain ⟨q0, hg2⟩ := peel1 hb2
  have p0_ := hide ((show Box w1 _ _ from p0.out).grow hg2)
  clear p0
  have p0 := p0_
  clear p0_
  have q0_ := hide q0
  clear q0
  have q0 := q0_
  clear q0_
  have hl := hl.grow hg2
  have HG2 := hide (Grow.trans (show Grow w w1 from HG1.out) hg2)
  clear HG1
  clear hb2 hg2
  obtain ⟨cp0, fp0, lp0⟩ := (show Box w2 _ _ from p0.out).rules
  obtain ⟨cq0, fq0, lq0⟩ := (show Box w2 _ _ from q0.out).rules
  cases b1 with
  | false =>
    go_wp2
    go_ret
    exact ⟨by rw [HD.out]; rfl, HG2.out⟩
  | true =>
    go_wp2_with fail
    refine (HG.out _).mono ?_
    rintro r w3 ⟨rfl, hb3⟩
    clear cp0 fp0 lp0 cq0 fq0 lq0
    have hg3 := hb3
    have p0_ := hide ((show Box w2 _ _ from p0.out).grow hg3)
    clear p0
    have p0 := p0_
    clear p0_
    have q0_ := hide ((show Box w2 _ _ from q0.out).grow hg3)
    clear q0
    have q0 := q0_
    clear q0_
    have hl := hl.grow hg3
    have HG3 := hide (Grow.trans (show Grow w w2 from HG2.out) hg3)
    clear HG2
    clear hb3 hg3
    obtain ⟨cp0, fp0, lp0⟩ := (show Box w3 _ _ from p0.out).rules
    obtain ⟨cq0, fq0, lq0⟩ := (show Box w3 _ _ from q0.out).rules
    cases b2 with
    | false =>
      go_wp2
      go_ret
      exact ⟨by rw [HD.out]; rfl, HG3.out⟩
    | true =>
      go_wp2
      go_ret
      exact ⟨by rw [HD.out]; simp; omega, HG3.out⟩
end Go.Proofs.Ytpobjcdcimcdnaa
namespace Go.Proofs.Ytpobjcdcimcdnaa
open Go.RowKit
/-- a packet that was read, or none -/
def gotP (e : Int) (p : Pkt) : Pkt := if e = 0 then p else noP
set_option maxRecDepth 100000 in
set_option maxHeartbeats 2000000 in
theorem dataget_any (N pr : Nat) (s : List UInt8 × Int) (p : Pkt) (A : Option Addr) (n c : Nat) (w : World) (h : Rd w N pr s) (hsl : s.1.length ≤ 1000000000000) :
    Calls Try.prog 149 #[.pointer (some ⟨pr, 0, none⟩), pv p A n c] w fun r w' => GotPk w' r (gotP (rbytes 1024 s).2.2 p) (rbytes 1024 s).1 (rbytes 1024 s).2.2 ∧ Rd w' N pr (rbytes 1024 s).2 ∧ Kept w.heap.size [pr] w w' := by
  have hB := hide (fun (W : World) h => rbytes_any N pr s 1024 W h (by omega) hsl)
  have hbad := hide (rbytes_bad 1024 s)
  have hpr : pr < w.heap.size := Nat.lt_of_lt_of_le h.lt h.size
  generalize rbytes 1024 s = T at *
  obtain ⟨t, s1⟩ := T
  dsimp only at *
  go_enter Try.func149, Try.ntmps149
  go_wp2_with fail
  refine (hB.out _ (h.grow (((Grow.refl w).alloc _).alloc _))).mono ?_
  rintro r w1 ⟨A1, c1, rfl, hc1, hcm1, hown1, hr1, hb1⟩
  obtain ⟨p0, q0, hg1⟩ := peelK2 hb1 (by simp; omega) (by simp; omega)
  have p0_ := hide p0
  clear p0
  have p0 := p0_
  clear p0_
  have q0_ := hide q0
  clear q0
  have q0 := q0_
  clear q0_
  have HK1 := hide (show Kept w.heap.size [pr] w w1 from hg1)
  have hsz1 : w.heap.size ≤ w1.heap.size := HK1.out.size
  clear hb1 hg1
  obtain ⟨cp0, fp0, lp0⟩ := (show Box w1 _ _ from p0.out).rules
  obtain ⟨cq0, fq0, lq0⟩ := (show Box w1 _ _ from q0.out).rules
  have hE := hide (fun (W : World) h => err_any N pr s1 W h)
  obtain ⟨b1, e1⟩ := s1
  dsimp only at *
  have hq1 : ∀ q, blk A1 = some q → q ≠ w.heap.size ∧ q ≠ w.heap.size + 1 := fun q hq => by have := hown1.base hq; simp at this; omega
  have hbt := hown1.bytes
  clear hown1
  go_wp2_with fail
  refine (hE.out _ (hr1.setOther (by simp; exact h.size) _)).mono ?_
  rintro r w' ⟨rfl, rfl⟩
  by_cases he : e1 = 0
  · subst he
    have hv := hide (show gotP 0 p = p from if_pos rfl)
    go_wp2
    refine bodyPost_ret (v := .tuple #[pv (p) A1 t.length c1, .int .i64 0]) (by simp [results, Try.results149, go_sem, cq0]) rfl ?_
    rw [hv.out]
    refine ⟨⟨_, _, rfl, hc1, hcm1, ?_⟩, ?_, ?_⟩
    · repeat (with_reducible refine Bytes.setAt ?_ ?_ _; rotate_left; · (intro q h; have := hq1 q h; simp; omega))
      exact hbt
    · repeat (with_reducible refine Rd.setOther ?_ (by simp; have := h.size; omega) _)
      exact hr1
    · repeat (with_reducible refine Kept.setCell ?_ (.inl (by simp)) _)
      exact HK1.out
  · obtain rfl := hbad.out he
    have he' : (e1 != 0) = true := by simpa using he
    have hv := hide (show gotP e1 p = noP from if_neg he)
    clear he
    go_wp2
    refine bodyPost_ret (v := .tuple #[pv (noP) none 0 0, .int .i64 e1]) (by simp [results, Try.results149, go_sem, cq0, noP]) rfl ?_
    rw [hv.out]
    refine ⟨⟨_, _, rfl, Nat.le_refl _, by decide, ?_⟩, ?_, ?_⟩
    · exact Bytes.nil _ _
    · repeat (with_reducible refine Rd.setOther ?_ (by simp; have := h.size; omega) _)
      exact hr1
    · repeat (with_reducible refine Kept.setCell ?_ (.inl (by simp)) _)
      exact HK1.out
set_option maxRecDepth 100000 in
set_option maxHeartbeats 2000000 in
theorem refdataget_any (B : Option Addr) (b : List UInt8) (cb : Nat) (p : Pkt) (A : Option Addr) (n c : Nat) (w : World) (hb : Bytes w B b) (hc : b.length ≤ cb) (hcm : cb ≤ 9223372036854775807) :
    Calls Try.prog 132 #[.slice B b.length cb, pv p A n c] w fun r w' => GotPk3 B b r (gotP (Buf.getBytes b 1024).2.2 p) (Buf.getBytes b 1024).1 (Buf.getBytes b 1024).2.1 (Buf.getBytes b 1024).2.2 ∧ Grow w w' := by
  have hB := hide (fun (W : World) h => refgetbytes_any B b cb 1024 W h hc hcm (by omega))
  have hbad := hide (Buf.getBytes_bad b 1024)
  generalize Buf.getBytes b 1024 = T at *
  obtain ⟨t, rest, e1⟩ := T
  dsimp only at *
  go_enter Try.func132, Try.ntmps132
  go_wp2_with fail
  refine (hB.out _ ((hb.alloc _).alloc _)).mono ?_
  rintro r w1 ⟨⟨A1, c1, A2, c2, rfl, hc1, hcm1, hc2, hcm2, hbt, hbr⟩, hb1⟩
  obtain ⟨p0, q0, hg1⟩ := peel2 hb1
  have p0_ := hide p0
  clear p0
  have p0 := p0_
  clear p0_
  have q0_ := hide q0
  clear q0
  have q0 := q0_
  clear q0_
  have HG1 := hide (show Grow w w1 from hg1)
  clear hb1 hg1
  obtain ⟨cp0, fp0, lp0⟩ := (show Box w1 _ _ from p0.out).rules
  obtain ⟨cq0, fq0, lq0⟩ := (show Box w1 _ _ from q0.out).rules
  by_cases he : e1 = 0
  · subst he
    have hv := hide (show gotP 0 p = p from if_pos rfl)
    go_wp2
    refine bodyPost_ret (v := .tuple #[pv (p) A1 t.length c1, .slice A2 rest.length c2, .int .i64 0]) (by simp [results, Try.results132, go_sem, cq0]) rfl ?_
    rw [hv.out]
    refine ⟨⟨_, _, _, _, rfl, hc1, hcm1, hbt, hc2, hcm2, hbr⟩, ?_⟩
    show Below w.heap.size w _
    repeat (with_reducible refine Below.setCell ?_ (by simp) _)
    exact HG1.out
  · obtain ⟨rfl, rfl, _⟩ : t = [] ∧ rest = [] ∧ True := by have := hbad.out he; simp_all
    have he' : (e1 != 0) = true := by simpa using he
    have hv := hide (show gotP e1 p = noP from if_neg he)
    clear he
    go_wp2
    refine bodyPost_ret (v := .tuple #[pv (noP) none 0 0, .slice none 0 0, .int .i64 e1]) (by simp [results, Try.results132, go_sem, cq0, noP]) rfl ?_
    rw [hv.out]
    refine ⟨⟨_, _, _, _, rfl, Nat.le_refl _, by decide, fun _ _ => Bytes.nil _ _, Nat.le_refl _, by decide, fun _ _ => Bytes.nil _ _⟩, ?_⟩
    show Below w.heap.size w _
    repeat (with_reducible refine Below.setCell ?_ (by simp) _)
    exact HG1.out
end Go.Proofs.Ytpobjcdcimcdnaa
namespace Go.Proofs.Ytpobjcdcimcdnaa
open Go.RowKit
set_option maxRecDepth 100000 in
set_option maxHeartbeats 2000000 in
theorem dataput_any (B p : Nat) (A : Option Addr) (c : Nat) (e : Int) (b : List UInt8) (most : Int) (q : Pkt) (A2 : Option Addr) (l : List UInt8) (c2 : Nat) (w : World) (h : Wr w B p A c e b most) (hl : Bytes w A2 l)
    (hb : b.length ≤ 1000000000000) (hll : l.length ≤ 1000000000000) (hB : B ≤ w.heap.size) (hd : l ≠ [] → ∀ q, blk A2 = some q → blk A ≠ some q) :
    Calls Try.prog 112 #[.pointer (some ⟨p, 0, none⟩), pv q A2 l.length c2] w fun r w' => r = .returned (.tuple #[]) ∧ Wrote w w' B p A (Buf.wput most (e, b) (Buf.sevens l.length ++ l)) most := by
  have hg0 := (Grow.refl w).alloc (.cells (pcells q A2 l.length c2) 65)
  have hW := hide (wbytes_any B p A c e b most A2 l c2 _ (h.grow hg0) (hl.grow hg0) hb hll (by simp; omega) hd)
  go_enter Try.func112, Try.ntmps112
  go_wp2_with fail
  refine hW.out.mono ?_
  rintro r w1 ⟨rfl, hw1⟩
  go_wp2
  go_end0
  exact ⟨rfl, hw1.grown hg0⟩
end Go.Proofs.Ytpobjcdcimcdnaa
namespace Go.Proofs.Ytpobjcdcimcdnaa
open Go.RowKit
end Go.Proofs.Ytpobjcdcimcdnaa

namespace Go.Proofs.Ytpobjcdcimcdnaa
open Go.RowKit
end Go.Proofs.Ytpobjcdcimcdnaa
namespace Go.Proofs.Ytpobjcdcimcdnaa
open Go.RowKit
end Go.Proofs.Ytpobjcdcimcdnaa
namespace Go.Proofs.Ytpobjcdcimcdnaa
open Go.RowKit
theorem refdatabytes_any (p : Pkt) (A : Option Addr) (l : List UInt8) (c : Nat) (w : World) (hl : Bytes w A l) (hn : l.length ≤ 1000000000000) :
    Calls Try.prog 129 #[pv p A l.length c] w fun r w' => ∃ A c, r = .returned (.slice A (Buf.sevens l.length ++ l).length c) ∧ Own w' w.heap.size A c (Buf.sevens l.length ++ l) ∧ Grow w w' := by
  have hg0 := (Grow.refl w).alloc (.cells (pcells p A l.length c) 65)
  have hB := hide (refbytes_any A l c _ (hl.grow hg0) hn)
  generalize Buf.sevens l.length ++ l = s at *
  go_enter Try.func129, Try.ntmps129
  go_wp2_with fail
  refine hB.out.mono ?_
  rintro r w1 ⟨A1, c1, rfl, hown, hb1⟩
  have hge := fun q h => hown.base (q := q) h
  go_wp2
  go_ret
  exact ⟨A1, c1, rfl, hown.mono (by simp), Grow.trans hg0 hb1⟩
end Go.Proofs.Ytpobjcdcimcdnaa
