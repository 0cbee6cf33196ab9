/- Walks and plain lemmas that several statements share. -/
import Derived.Test.YtpobjcdcimcdnaaPk
import Derived.Test.YtpobjcdcimcdnaaWri
import Derived.Test.YtpobjcdcimcdnaaTool
import Derived.Test.YtpobjcdcimcdnaaR05
import Derived.Test.YtpobjcdcimcdnaaFrm
import Derived.Lib.Mul64
namespace Go.Proofs.Ytpobjcdcimcdnaa
open Go.RowKit
/-- a number of a round -/
def numB (k : Int) : Bool := decide (0 ≤ k) && decide (k ≤ 1152921504606846976)
/-- a packet with nothing but its head -/
def base (p : Pkt) : Pkt := { kind := p.kind, t := p.t, frm := p.frm, seq := p.seq, hops := p.hops, no := 0, to := 0, index := 0, total := 0, stamp := 0, value := 0 }
end Go.Proofs.Ytpobjcdcimcdnaa
namespace Go.Proofs.Ytpobjcdcimcdnaa
open Go.RowKit
end Go.Proofs.Ytpobjcdcimcdnaa
namespace Go.Proofs.Ytpobjcdcimcdnaa
open Go.RowKit
end Go.Proofs.Ytpobjcdcimcdnaa
namespace Go.Proofs.Ytpobjcdcimcdnaa
open Go.RowKit
end Go.Proofs.Ytpobjcdcimcdnaa
namespace Go.Proofs.Ytpobjcdcimcdnaa
open Go.RowKit
end Go.Proofs.Ytpobjcdcimcdnaa
namespace Go.Proofs.Ytpobjcdcimcdnaa
open Go.RowKit
end Go.Proofs.Ytpobjcdcimcdnaa

namespace Go.Proofs.Ytpobjcdcimcdnaa
open Go.RowKit
end Go.Proofs.Ytpobjcdcimcdnaa
namespace Go.Proofs.Ytpobjcdcimcdnaa
open Go.RowKit
end Go.Proofs.Ytpobjcdcimcdnaa

namespace Go.Proofs.Ytpobjcdcimcdnaa
open Go.RowKit
end Go.Proofs.Ytpobjcdcimcdnaa
namespace Go.Proofs.Ytpobjcdcimcdnaa
open Go.RowKit
end Go.Proofs.Ytpobjcdcimcdnaa
namespace Go.Proofs.Ytpobjcdcimcdnaa
open Go.RowKit
end Go.Proofs.Ytpobjcdcimcdnaa
namespace Go.Proofs.Ytpobjcdcimcdnaa
open Go.RowKit
end Go.Proofs.Ytpobjcdcimcdnaa
namespace Go.Proofs.Ytpobjcdcimcdnaa
open Go.RowKit
end Go.Proofs.Ytpobjcdcimcdnaa
namespace Go.Proofs.Ytpobjcdcimcdnaa
open Go.RowKit
theorem new_at (most : Int) (g : Nat) (w : World) (h : most ≤ 9223372036854775807) (h0 : 0 ≤ most) (hg : w.heap.size = g) :
    Calls Try.prog 22 #[.int .i64 most] w fun r w' => r = .returned (.pointer (some ⟨g, 0, none⟩)) ∧ Wr w' g g none 0 0 [] most ∧ Grow w w' := by
  subst hg
  have h1 := new_any most w h
  rw [show max most 0 = most by omega] at h1
  exact h1
end Go.Proofs.Ytpobjcdcimcdnaa

namespace Go.Proofs.Ytpobjcdcimcdnaa
open Go.RowKit
end Go.Proofs.Ytpobjcdcimcdnaa
namespace Go.Proofs.Ytpobjcdcimcdnaa
open Go.RowKit
end Go.Proofs.Ytpobjcdcimcdnaa
namespace Go.Proofs.Ytpobjcdcimcdnaa
open Go.RowKit
end Go.Proofs.Ytpobjcdcimcdnaa

namespace Go.Proofs.Ytpobjcdcimcdnaa
open Go.RowKit
end Go.Proofs.Ytpobjcdcimcdnaa
namespace Go.Proofs.Ytpobjcdcimcdnaa
open Go.RowKit
end Go.Proofs.Ytpobjcdcimcdnaa
namespace Go.Proofs.Ytpobjcdcimcdnaa
open Go.RowKit
end Go.Proofs.Ytpobjcdcimcdnaa

namespace Go.Proofs.Ytpobjcdcimcdnaa
open Go.RowKit
end Go.Proofs.Ytpobjcdcimcdnaa
namespace Go.Proofs.Ytpobjcdcimcdnaa
open Go.RowKit
end Go.Proofs.Ytpobjcdcimcdnaa

namespace Go.Proofs.Ytpobjcdcimcdnaa
open Go.RowKit
abbrev attP (t f q h no : Int) : Pkt := { kind := 5, t := t, frm := f, seq := q, hops := h, no := no, to := 0, index := 0, total := 0, stamp := 0, value := 0 }
/-- whether a packet may be an attendance -/
def attB (p : Pkt) (l : List UInt8) : Bool := sameB p (attP p.t p.frm p.seq p.hops p.no) && l.isEmpty && headB p && numB p.no
theorem att_key (p : Pkt) (l : List UInt8) : attB p l = (keyB p.t p.frm && numB p.no && headB p && (sameB p (attP p.t p.frm p.seq p.hops p.no) && l.isEmpty)) := by
  unfold attB
  cases hs : sameB p (attP p.t p.frm p.seq p.hops p.no) with
  | false => simp
  | true =>
    have hk : p.kind = 5 := by simp [sameB, restB] at hs; exact hs.1.1.1.1.1.1
    have hh : headB p = (hopsB p.hops && keyB p.t p.frm) := by unfold headB; rw [if_pos (by simp [floodB, hk])]
    rw [hh]
    cases keyB p.t p.frm <;> cases hopsB p.hops <;> cases numB p.no <;> simp
set_option maxRecDepth 100000 in
set_option maxHeartbeats 2000000 in
theorem attnew_any (t f q no : Int) (w : World) : Calls Try.prog 57 #[kv t f q, .int .i64 no] w fun e w' => e = .returned (pv (attP t f q 1 no) none 0 0) ∧ Grow w w' := by
  go_enter Try.func57, Try.ntmps57
  go_wp2
  refine bodyPost_ret (v := pv (attP t f q 1 no) none 0 0) (by simp [results, Try.results57, go_sem]) rfl ⟨rfl, ?_⟩
  show Below w.heap.size w _
  repeat (with_reducible refine Below.setCell ?_ (by simp) _)
  exact ((Grow.refl w).alloc _).alloc _
set_option maxRecDepth 100000 in
set_option maxHeartbeats 2000000 in
theorem refattnew_any (t f q no : Int) (w : World) : Calls Try.prog 58 #[kv t f q, .int .i64 no] w fun e w' => e = .returned (pv (attP t f q 1 no) none 0 0) ∧ Grow w w' := by
  go_enter Try.func58, Try.ntmps58
  go_wp2
  refine bodyPost_ret (v := pv (attP t f q 1 no) none 0 0) (by simp [results, Try.results58, go_sem]) rfl ⟨rfl, ?_⟩
  show Below w.heap.size w _
  repeat (with_reducible refine Below.setCell ?_ (by simp) _)
  exact ((Grow.refl w).alloc _).alloc _
set_option maxHeartbeats 400000 in
theorem time_any (k : Int) (w : World) : Calls Try.prog 114 #[.int .i64 k] w fun e w' => e = .returned (.bool (numB k)) ∧ w = w' := by
  go_enter Try.func114, Try.ntmps114
  go_wp2
  all_goals
    go_ret
    exact ⟨ret_bool (by simp_all [numB] <;> (intros; omega)), rfl⟩
set_option maxRecDepth 100000 in
set_option maxHeartbeats 2000000 in
theorem attgood_any (p : Pkt) (A : Option Addr) (l : List UInt8) (c : Nat) (w : World) (hl : Bytes w A l) :
    Calls Try.prog 59 #[pv p A l.length c] w fun e w' => e = .returned (.bool (attB p l)) ∧ Below w.heap.size w w' := by
  have HD := hide (att_key p l)
  have HK := hide (fun W => keygood_any p.t p.frm p.seq W)
  have HT := hide (fun W => time_any p.no W)
  have HH := hide (fun W => headgood_any p A l.length c W)
  have HS := hide (fun W h => same_any p (attP p.t p.frm p.seq p.hops p.no) A none l [] c 0 W h (Bytes.nil _ _))
  rw [show (l == ([] : List UInt8)) = l.isEmpty by cases l <;> rfl] at HS
  generalize (sameB p (attP p.t p.frm p.seq p.hops p.no) && l.isEmpty) = b4 at *
  generalize keyB p.t p.frm = b1 at *
  generalize numB p.no = b2 at *
  generalize headB p = b3 at *
  generalize attB p l = bb at *
  go_enter Try.func59, Try.ntmps59
  go_wp2_with fail
  refine (attnew_any p.t p.frm p.seq p.no _).mono ?_
  rintro r w1 ⟨rfl, hb1⟩
  obtain ⟨p0, hg1⟩ := peel1 hb1
  have p0_ := hide p0
  clear p0
  have p0 := p0_
  clear p0_
  have hl := hl.grow hg1
  have HG1 := hide (show Grow w w1 from hg1)
  have hsz1 : w.heap.size ≤ w1.heap.size := HG1.out.size
  have hq1 : w.heap.size ≤ w1.heap.size := hg1.size
  have HS1 := hide hg1
  clear hb1 hg1
  obtain ⟨cp0, fp0, lp0⟩ := (show Box w1 _ _ from p0.out).rules
  go_wp2_with fail
  refine (HK.out _).mono ?_
  rintro r w2 ⟨rfl, hb2⟩
  clear cp0 fp0 lp0
  obtain ⟨q0, hg2⟩ := peel1 hb2
  have p0_ := hide ((show Box w1 _ _ from p0.out).grow hg2)
  clear p0
  have p0 := p0_
  clear p0_
  have q0_ := hide q0
  clear q0
  have q0 := q0_
  clear q0_
  have hl := hl.grow hg2
  have HG2 := hide (Grow.trans (show Grow w w1 from HG1.out) hg2)
  clear HG1
  have hsz2 : w.heap.size ≤ w2.heap.size := HG2.out.size
  have hq2 : w1.heap.size ≤ w2.heap.size := hg2.size
  have HS2 := hide hg2
  clear hb2 hg2
  obtain ⟨cp0, fp0, lp0⟩ := (show Box w2 _ _ from p0.out).rules
  obtain ⟨cq0, fq0, lq0⟩ := (show Box w2 _ _ from q0.out).rules
  cases b1 with
  | false =>
    go_wp2
    go_ret
    exact ⟨by rw [HD.out]; simp, HG2.out⟩
  | true =>
    go_wp2_with fail
    refine (HT.out _).mono ?_
    rintro r w' ⟨rfl, rfl⟩
    cases b2 with
    | false =>
      go_wp2
      go_ret
      exact ⟨by rw [HD.out]; simp, HG2.out⟩
    | true =>
      go_wp2_with fail
      refine (HH.out _).mono ?_
      rintro r w3 ⟨rfl, hb3⟩
      clear cp0 fp0 lp0 cq0 fq0 lq0
      have hg3 := hb3
      have p0_ := hide ((show Box w2 _ _ from p0.out).grow hg3)
      clear p0
      have p0 := p0_
      clear p0_
      have q0_ := hide ((show Box w2 _ _ from q0.out).grow hg3)
      clear q0
      have q0 := q0_
      clear q0_
      have hl := hl.grow hg3
      have HG3 := hide (Grow.trans (show Grow w w2 from HG2.out) hg3)
      clear HG2
      have hsz3 : w.heap.size ≤ w3.heap.size := HG3.out.size
      have hq3 : w2.heap.size ≤ w3.heap.size := hg3.size
      have HS3 := hide hg3
      clear hb3 hg3
      obtain ⟨cp0, fp0, lp0⟩ := (show Box w3 _ _ from p0.out).rules
      obtain ⟨cq0, fq0, lq0⟩ := (show Box w3 _ _ from q0.out).rules
      cases b3 with
      | false =>
        go_wp2
        go_ret
        exact ⟨by rw [HD.out]; simp, HG3.out⟩
      | true =>
        go_wp2_with fail
        refine (HS.out _ hl).mono ?_
        rintro r w4 ⟨rfl, hb4⟩
        clear cp0 fp0 lp0 cq0 fq0 lq0
        have hg4 := hb4
        have p0_ := hide ((show Box w3 _ _ from p0.out).grow hg4)
        clear p0
        have p0 := p0_
        clear p0_
        have q0_ := hide ((show Box w3 _ _ from q0.out).grow hg4)
        clear q0
        have q0 := q0_
        clear q0_
        have hl := hl.grow hg4
        have HG4 := hide (Grow.trans (show Grow w w3 from HG3.out) hg4)
        clear HG3
        have hsz4 : w.heap.size ≤ w4.heap.size := HG4.out.size
        have hq4 : w3.heap.size ≤ w4.heap.size := hg4.size
        have HS4 := hide hg4
        clear hb4 hg4
        obtain ⟨cp0, fp0, lp0⟩ := (show Box w4 _ _ from p0.out).rules
        obtain ⟨cq0, fq0, lq0⟩ := (show Box w4 _ _ from q0.out).rules
        go_wp2
        go_ret
        exact ⟨by rw [HD.out]; simp, HG4.out⟩
set_option maxRecDepth 100000 in
set_option maxHeartbeats 2000000 in
theorem refattgood_any (p : Pkt) (A : Option Addr) (l : List UInt8) (c : Nat) (w : World) (hl : Bytes w A l) :
    Calls Try.prog 60 #[pv p A l.length c] w fun e w' => e = .returned (.bool (attB p l)) ∧ Below w.heap.size w w' := by
  have HD := hide (show attB p l = (sameB p (attP p.t p.frm p.seq p.hops p.no) && l.isEmpty && headB p && numB p.no) from rfl)
  have HH := hide (fun W => refheadgood_any p A l.length c W)
  have HS := hide (fun W h => refsame_any p (attP p.t p.frm p.seq p.hops p.no) A none l [] c 0 W h (Bytes.nil _ _))
  rw [show (l == ([] : List UInt8)) = l.isEmpty by cases l <;> rfl] at HS
  generalize (sameB p (attP p.t p.frm p.seq p.hops p.no) && l.isEmpty) = b4 at *
  generalize headB p = b3 at *
  have hn := hide (show numB p.no = (decide (0 ≤ p.no) && decide (p.no ≤ 1152921504606846976)) from rfl)
  generalize attB p l = bb at *
  go_enter Try.func60, Try.ntmps60
  go_wp2_with fail
  refine (refattnew_any p.t p.frm p.seq p.no _).mono ?_
  rintro r w1 ⟨rfl, hb1⟩
  obtain ⟨p0, hg1⟩ := peel1 hb1
  have p0_ := hide p0
  clear p0
  have p0 := p0_
  clear p0_
  have hl := hl.grow hg1
  have HG1 := hide (show Grow w w1 from hg1)
  have hsz1 : w.heap.size ≤ w1.heap.size := HG1.out.size
  have hq1 : w.heap.size ≤ w1.heap.size := hg1.size
  have HS1 := hide hg1
  clear hb1 hg1
  obtain ⟨cp0, fp0, lp0⟩ := (show Box w1 _ _ from p0.out).rules
  go_wp2_with fail
  refine (HS.out _ (hl.alloc _)).mono ?_
  rintro r w2 ⟨rfl, hb2⟩
  clear cp0 fp0 lp0
  obtain ⟨q0, hg2⟩ := peel1 hb2
  have p0_ := hide ((show Box w1 _ _ from p0.out).grow hg2)
  clear p0
  have p0 := p0_
  clear p0_
  have q0_ := hide q0
  clear q0
  have q0 := q0_
  clear q0_
  have hl := hl.grow hg2
  have HG2 := hide (Grow.trans (show Grow w w1 from HG1.out) hg2)
  clear HG1
  have hsz2 : w.heap.size ≤ w2.heap.size := HG2.out.size
  have hq2 : w1.heap.size ≤ w2.heap.size := hg2.size
  have HS2 := hide hg2
  clear hb2 hg2
  obtain ⟨cp0, fp0, lp0⟩ := (show Box w2 _ _ from p0.out).rules
  obtain ⟨cq0, fq0, lq0⟩ := (show Box w2 _ _ from q0.out).rules
  cases b4 with
  | false =>
    go_wp2
    go_ret
    exact ⟨by rw [HD.out]; simp, HG2.out⟩
  | true =>
    go_wp2_with fail
    refine (HH.out _).mono ?_
    rintro r w3 ⟨rfl, hb3⟩
    clear cp0 fp0 lp0 cq0 fq0 lq0
    have hg3 := hb3
    have p0_ := hide ((show Box w2 _ _ from p0.out).grow hg3)
    clear p0
    have p0 := p0_
    clear p0_
    have q0_ := hide ((show Box w2 _ _ from q0.out).grow hg3)
    clear q0
    have q0 := q0_
    clear q0_
    have hl := hl.grow hg3
    have HG3 := hide (Grow.trans (show Grow w w2 from HG2.out) hg3)
    clear HG2
    have hsz3 : w.heap.size ≤ w3.heap.size := HG3.out.size
    have hq3 : w2.heap.size ≤ w3.heap.size := hg3.size
    have HS3 := hide hg3
    clear hb3 hg3
    obtain ⟨cp0, fp0, lp0⟩ := (show Box w3 _ _ from p0.out).rules
    obtain ⟨cq0, fq0, lq0⟩ := (show Box w3 _ _ from q0.out).rules
    cases b3 with
    | false =>
      go_wp2
      go_ret
      exact ⟨by rw [HD.out]; simp, HG3.out⟩
    | true =>
      by_cases n1 : 0 ≤ p.no
      · go_wp2
        go_ret
        exact ⟨by rw [HD.out, hn.out]; simp [n1], HG3.out⟩
      · go_wp2
        go_ret
        exact ⟨by rw [HD.out, hn.out]; simp [n1]; (intros; omega), HG3.out⟩
set_option maxRecDepth 100000 in
set_option maxHeartbeats 2000000 in
theorem attput_any (B p : Nat) (A : Option Addr) (c : Nat) (e : Int) (b : List UInt8) (most : Int) (q : Pkt) (A2 : Option Addr) (n c2 : Nat) (w : World) (h : Wr w B p A c e b most) (hb : b.length ≤ 999999999900) (hB : B ≤ w.heap.size) :
    Calls Try.prog 116 #[.pointer (some ⟨p, 0, none⟩), pv q A2 n c2] w fun r w' => r = .returned (.tuple #[]) ∧ Wrote w w' B p A (Buf.wput most (e, b) (Buf.sevens (u64of q.no))) most := by
  have hlt := h.lt
  have P0 := Putting.start h (pcells q A2 n c2) 65
  have hpx := P0.box
  unfold Holds at hpx
  go_enter Try.func116, Try.ntmps116
  go_wp2_with fail
  refine (num_int B p A c (e, b) most q.no _ P0.wr (by simp; omega) (by simp; omega)).mono ?_
  rintro r w1 ⟨rfl, hw1⟩
  obtain ⟨A1, c1, P1⟩ := P0.step hlt (Nat.le_refl _) (by simp) (Grow.refl _) hw1
  go_wp2
  go_end0
  exact ⟨rfl, P1.wrote⟩
end Go.Proofs.Ytpobjcdcimcdnaa
namespace Go.Proofs.Ytpobjcdcimcdnaa
open Go.RowKit
theorem mask32 (a : Nat) (ha : a < 18446744073709551616) : bits .and .u64 (a : Int) 4294967295 = ((a % 4294967296 : Nat) : Int) := by
  have h := u64_and_nat a 4294967295 ha (by omega)
  rw [show a &&& 4294967295 = a % 4294967296 from Nat.and_two_pow_sub_one_eq_mod a 32] at h
  exact h
theorem divN (a : Nat) : (a : Int) / 4294967296 = ((a / 4294967296 : Nat) : Int) := by omega
theorem mulN (a b : Nat) : (a : Int) * (b : Int) = ((a * b : Nat) : Int) := (Int.natCast_mul a b).symm
theorem addN (a b : Nat) : (a : Int) + (b : Int) = ((a + b : Nat) : Int) := (Int.natCast_add a b).symm
theorem wrapN (a : Nat) (ha : a < 18446744073709551616) : IntKind.u64.wrap (a : Int) = (a : Int) := by rw [IntKind.wrap_u64]; omega
theorem wrapM (a : Nat) : IntKind.u64.wrap (a : Int) = ((a % 18446744073709551616 : Nat) : Int) := by rw [IntKind.wrap_u64]; omega
set_option maxRecDepth 100000 in
set_option maxHeartbeats 1000000 in
theorem mul64_any (x y : Nat) (hx : Hid (x < 18446744073709551616)) (hy : Hid (y < 18446744073709551616)) (w : World) :
    Calls Try.prog 139 #[.int .u64 x, .int .u64 y] w fun e w' => e = .returned (.tuple #[.int .u64 ((x * y / 18446744073709551616 : Nat) : Int), .int .u64 ((x * y % 18446744073709551616 : Nat) : Int)]) ∧ w = w' := by
  obtain ⟨bd, bt, bw, hhi⟩ := Lib.mul64_hi x y hx.out hy.out
  have BD := hide bd
  have BT := hide bt
  have BW := hide bw
  have HHI := hide hhi
  clear bd bt bw hhi
  go_enter Try.func139, Try.ntmps139
  go_wp2
  have hx' := hx.out
  have hy' := hy.out
  have bd := BD.out
  have bt := BT.out
  have bw := BW.out
  have ba := Lib.half_mul_le (a := x / 4294967296) (b := y / 4294967296) (by omega) (by omega)
  have bb := Lib.half_mul_le (a := x / 4294967296) (b := y % 4294967296) (by omega) (by omega)
  have bc := Lib.half_mul_le (a := x % 4294967296) (b := y / 4294967296) (by omega) (by omega)
  have ba' : x / 4294967296 * (y / 4294967296) < 18446744073709551616 := by omega
  have bb' : x / 4294967296 * (y % 4294967296) < 18446744073709551616 := by omega
  have bc' : x % 4294967296 * (y / 4294967296) < 18446744073709551616 := by omega
  have bh1 : x / 4294967296 * (y / 4294967296) + (x / 4294967296 * (y % 4294967296) + x % 4294967296 * (y % 4294967296) / 4294967296) / 4294967296 < 18446744073709551616 := by omega
  have bh : x / 4294967296 * (y / 4294967296) + (x / 4294967296 * (y % 4294967296) + x % 4294967296 * (y % 4294967296) / 4294967296) / 4294967296 + ((x / 4294967296 * (y % 4294967296) + x % 4294967296 * (y % 4294967296) / 4294967296) % 4294967296 + x % 4294967296 * (y / 4294967296)) / 4294967296 < 18446744073709551616 := by omega
  simp only [mask32 x hx', mask32 y hy', divN, mulN, addN, wrapN _ bd, wrapN _ bb', wrapN _ bt, mask32 _ bt, wrapN _ bc', wrapN _ bw, wrapN _ ba', wrapN _ bh1, wrapN _ bh, wrapM (x * y)]
  rw [HHI.out]
  go_ret2
  exact ⟨rfl, rfl⟩
/-- when an attendance is due -/
def dueB (n e : Int) : Bool := decide (0 ≤ n) && decide (0 ≤ e) && decide (n * e ≤ 1152921504606846976)
def dueR (n e : Int) : Value := .tuple #[.int .i64 (if dueB n e then n * e else 0), .bool (dueB n e)]
theorem dueR_no {n e : Int} (h : dueB n e = false) : dueR n e = .tuple #[.int .i64 0, .bool false] := by unfold dueR; rw [h]; rfl
theorem dueR_yes {n e : Int} (h : dueB n e = true) : dueR n e = .tuple #[.int .i64 (n * e), .bool true] := by unfold dueR; rw [h]; rfl
set_option maxRecDepth 100000 in
set_option maxHeartbeats 1000000 in
theorem due_any (n e : Int) (w : World) (hn : Hid (n ≤ 9223372036854775807)) (he : Hid (e ≤ 9223372036854775807)) :
    Calls Try.prog 117 #[.int .i64 n, .int .i64 e] w fun r w' => r = .returned (dueR n e) ∧ Grow w w' := by
  by_cases h0 : 0 ≤ n
  · by_cases h1 : 0 ≤ e
    · obtain ⟨a, rfl⟩ := Int.eq_ofNat_of_zero_le h0
      obtain ⟨b, rfl⟩ := Int.eq_ofNat_of_zero_le h1
      have hM := hide (fun W => mul64_any a b (hide (by have := hn.out; omega)) (hide (by have := he.out; omega)) W)
      have hd : dueB (a : Int) (b : Int) = decide (a * b ≤ 1152921504606846976) := by
        unfold dueB
        rw [Bool.eq_iff_iff]
        simp [← Int.natCast_mul]
        omega
      have hpr : ((a : Int) * (b : Int)) = ((a * b : Nat) : Int) := (Int.natCast_mul a b).symm
      generalize hP : a * b = P at *
      have HP := hide hpr
      clear hpr hP h0 h1
      have ha : (a : Int) ≤ 9223372036854775807 := hn.out
      have hb : (b : Int) ≤ 9223372036854775807 := he.out
      by_cases hs : P ≤ 1152921504606846976
      · have HR := hide (dueR_yes (n := (a : Int)) (e := (b : Int)) (by rw [hd]; simpa using hs))
        have e1 : P / 18446744073709551616 = 0 := by omega
        have e2 : P % 18446744073709551616 = P := by omega
        rw [e1, e2] at hM
        clear hd e1 e2
        go_enter Try.func117, Try.ntmps117
        go_wp2_with fail
        refine (hM.out _).mono ?_
        rintro r w' ⟨rfl, rfl⟩
        go_wp2
        go_ret2
        rw [HR.out, HP.out]
        exact ⟨rfl, Grow.refl w⟩
      · have HR := hide (dueR_no (n := (a : Int)) (e := (b : Int)) (by rw [hd]; simpa using hs))
        clear hd
        by_cases hz : P / 18446744073709551616 = 0
        · have e2 : P % 18446744073709551616 = P := by omega
          rw [hz, e2] at hM
          have hs2 : 1152921504606846976 < P := by omega
          clear hz e2 hs
          go_enter Try.func117, Try.ntmps117
          go_wp2_with fail
          refine (hM.out _).mono ?_
          rintro r w' ⟨rfl, rfl⟩
          go_wp2
          go_ret2
          rw [HR.out]
          exact ⟨rfl, Grow.refl w⟩
        · generalize P / 18446744073709551616 = Q at *
          generalize P % 18446744073709551616 = R at *
          have hq : ((Q : Int) != 0) = true := by simpa using hz
          clear hz hs
          go_enter Try.func117, Try.ntmps117
          go_wp2_with fail
          refine (hM.out _).mono ?_
          rintro r w' ⟨rfl, rfl⟩
          go_wp2
          go_ret2
          rw [HR.out]
          exact ⟨rfl, Grow.refl w⟩
    · have HR := hide (dueR_no (n := n) (e := e) (by simp [dueB, h1]))
      go_enter Try.func117, Try.ntmps117
      go_wp2
      go_ret2
      rw [HR.out]
      exact ⟨rfl, Grow.refl w⟩
  · have HR := hide (dueR_no (n := n) (e := e) (by simp [dueB, h0]))
    go_enter Try.func117, Try.ntmps117
    go_wp2
    go_ret2
    rw [HR.out]
    exact ⟨rfl, Grow.refl w⟩
end Go.Proofs.Ytpobjcdcimcdnaa
namespace Go.Proofs.Ytpobjcdcimcdnaa
open Go.RowKit
/-- a packet with its body -/
structure PB where
  p : Pkt
  A : Option Addr
  l : List UInt8
  c : Nat
/-- the address A leads to these packets -/
def Pks (w : World) (A : Option Addr) (L : List PB) : Prop :=
  L ≠ [] → ∃ b o, A = some ⟨b, o, none⟩ ∧ ∀ k (h : k < L.length), (∀ i, i < 12 → w.cell? ⟨b, o + k * 12 + i, none⟩ = (pcells L[k].p L[k].A L[k].l.length L[k].c)[i]?) ∧ Bytes w L[k].A L[k].l
theorem Pks.grow {w w' : World} {A : Option Addr} {L : List PB} (h : Pks w A L) (hg : Grow w w') : Pks w' A L := by
  intro hL
  obtain ⟨b, o, rfl, hc⟩ := h hL
  refine ⟨b, o, rfl, fun k hk => ?_⟩
  obtain ⟨h1, h2⟩ := hc k hk
  have hb : b < w.heap.size := World.block_lt_of_cell? w _ (h1 0 (by omega))
  refine ⟨fun i hi => ?_, h2.grow hg⟩
  rw [← h1 i hi]
  exact Below.cell (p := ⟨b, o + k * 12 + i, none⟩) hg hb
/-- one more that is there -/
def whoAdd (no : Int) (s : Nat) (x : PB) : Nat := if attB x.p x.l && x.p.no == no then s ||| 2 ^ x.p.frm.toNat else s
/-- who is there -/
def whoOf (no : Int) (L : List PB) : Nat := L.foldl (whoAdd no) 0
theorem attB_frm (p : Pkt) (l : List UInt8) (h : attB p l = true) : 0 ≤ p.frm ∧ p.frm < 64 := by
  rw [att_key] at h
  simp [keyB] at h
  omega
theorem whoAdd_lt (no : Int) (s : Nat) (x : PB) (h : s < 18446744073709551616) : whoAdd no s x < 18446744073709551616 := by
  unfold whoAdd
  split
  · rename_i hc
    simp only [Bool.and_eq_true] at hc
    have hf := attB_frm _ _ hc.1
    have h1 : 2 ^ x.p.frm.toNat < 2 ^ 64 := Nat.pow_lt_pow_right (by omega) (by omega)
    exact Nat.or_lt_two_pow (n := 64) h h1
  · exact h
theorem whoOf_lt (no : Int) (L : List PB) : whoOf no L < 18446744073709551616 := by
  have : ∀ (L : List PB) s, s < 18446744073709551616 → L.foldl (whoAdd no) s < 18446744073709551616 := by
    intro L
    induction L with
    | nil => intro s h; exact h
    | cons x L ih => intro s h; exact ih _ (whoAdd_lt no s x h)
  exact this L 0 (by decide)
theorem whoOf_snoc (no : Int) (L : List PB) (k : Nat) (h : k < L.length) : whoOf no (L.take (k + 1)) = whoAdd no (whoOf no (L.take k)) L[k] := by
  unfold whoOf
  rw [List.take_succ_eq_append_getElem h, List.foldl_append]
  rfl
theorem or_bit (s i : Nat) (hs : s < 18446744073709551616) (hi : i < 64) : bits .or .u64 (s : Int) (IntKind.u64.wrap ((2 : Int) ^ i)) = ((s ||| 2 ^ i : Nat) : Int) := by
  have h1 : (2 : Nat) ^ i < 2 ^ 64 := Nat.pow_lt_pow_right (by omega) hi
  have e : (2 : Int) ^ i = ((2 ^ i : Nat) : Int) := by simp
  rw [e]
  generalize (2 ^ i : Nat) = X at *
  rw [IntKind.wrap_u64, show (X : Int) % 18446744073709551616 = (X : Int) by omega]
  exact u64_or_nat _ _ hs (by omega)
set_option maxRecDepth 100000 in
set_option maxHeartbeats 2000000 in
theorem who_any (no : Int) (A : Option Addr) (L : List PB) (c : Nat) (w : World) (hL : Pks w A L) (hm : L.length ≤ 9223372036854775807) :
    Calls Try.prog 63 #[.int .i64 no, .slice A L.length c] w fun r w' => r = .returned (.int .u64 (whoOf no L : Nat)) ∧ Grow w w' := by
  go_enter Try.func63, Try.ntmps63
  go_wp2
  go_loopw [5, 10] (fun s i wr => ∃ k : Nat, k ≤ L.length ∧ i = .int .i64 k ∧ s = .int .u64 (whoOf no (L.take k) : Nat) ∧ Grow w wr) (fun _ i _ => L.length - (intOf i).toNat)
  case atStart => exact ⟨0, by omega, rfl, rfl, Grow.refl w⟩
  case round =>
    obtain ⟨k, hk, rfl, rfl, hg⟩ := hrel
    by_cases hlt : k < L.length
    · obtain ⟨b, o, hA, hc⟩ := hL.grow hg (by rintro rfl; simp at hlt)
      subst hA
      obtain ⟨hcell, hby⟩ := hc k hlt
      have HS := hide (whoOf_snoc no L k hlt)
      have hslt := whoOf_lt no (L.take k)
      generalize whoOf no (L.take k) = s at *
      generalize L[k] = x at *
      obtain ⟨p, A1, l, c1⟩ := x
      dsimp only at *
      clear hc
      have hcs : ∀ i, i < 12 → wr.cell? ⟨b, o + k * 12 + i, none⟩ = (pcells p A1 l.length c1)[i]? := hcell
      have d0 := hcs 0 (by omega)
      have d1 := hcs 1 (by omega)
      have d2 := hcs 2 (by omega)
      have d3 := hcs 3 (by omega)
      have d4 := hcs 4 (by omega)
      have d5 := hcs 5 (by omega)
      have d6 := hcs 6 (by omega)
      have d7 := hcs 7 (by omega)
      have d8 := hcs 8 (by omega)
      have d9 := hcs 9 (by omega)
      have d10 := hcs 10 (by omega)
      have d11 := hcs 11 (by omega)
      clear hcs hcell
      simp at d0 d1 d2 d3 d4 d5 d6 d7 d8 d9 d10 d11
      have HG := hide (attgood_any p A1 l c1 _ (hby.alloc (.cells (pcells p A1 l.length c1) 65)))
      have hfr := hide (attB_frm p l)
      have HW := hide (show whoAdd no s { p := p, A := A1, l := l, c := c1 } = if attB p l && p.no == no then s ||| 2 ^ p.frm.toNat else s from rfl)
      generalize attB p l = b1 at *
      clear hby
      go_wp2_with fail
      refine HG.out.mono ?_
      rintro r w1 ⟨rfl, hb1⟩
      obtain ⟨q0, hg1⟩ := peel1 hb1
      obtain ⟨cq0, fq0, lq0⟩ := q0.rules
      have HG1 := hide (Grow.trans hg hg1)
      clear hb1 hg1 d0 d1 d2 d3 d4 d5 d6 d7 d8 d9 d10 d11 HG q0 hg
      cases b1 with
      | false =>
        go_wp2
        go_roundw
        case rel => exact ⟨k + 1, by omega, by go_num, by rw [HS.out, HW.out]; rfl, HG1.out⟩
        case measure => simp [intOf]; omega
      | true =>
        obtain ⟨f0, f1⟩ := hfr.out rfl
        obtain ⟨i, hi⟩ := Int.eq_ofNat_of_zero_le f0
        have hi64 : i < 64 := by omega
        have HO := hide (or_bit s p.frm.toNat hslt (by omega))
        by_cases hno : p.no = no
        · have hd : (p.no == no) = true := by simpa using hno
          rw [hd] at HW
          clear hno hi
          go_wp2
          rw [HO.out]
          go_roundw
          case rel => exact ⟨k + 1, by omega, by go_num, by rw [HS.out, HW.out]; rfl, HG1.out⟩
          case measure => simp [intOf]; omega
        · have hd : (p.no == no) = false := by simpa using hno
          rw [hd] at HW
          clear hno hi
          go_wp2
          go_roundw
          case rel => exact ⟨k + 1, by omega, by go_num, by rw [HS.out, HW.out]; rfl, HG1.out⟩
          case measure => simp [intOf]; omega
    · obtain rfl : k = L.length := by omega
      have HT := hide (show L.take L.length = L from List.take_length)
      go_wp2
      go_ret
      exact ⟨by rw [HT.out]; rfl, hg⟩
end Go.Proofs.Ytpobjcdcimcdnaa
namespace Go.Proofs.Ytpobjcdcimcdnaa
open Go.RowKit
def ex12 : Pkt := attP 30 2 4 1 3
theorem ex12_good : attB ex12 [] = true := by decide
theorem ex12_S : Buf.wput 9 (0, []) (Buf.sevens (u64of 3)) = (0, [3]) := by decide +kernel
theorem Pks.one {w : World} {g : Nat} {p : Pkt} (h : Box w g (pcells p none 0 0)) : Pks w (some ⟨g, 0, none⟩) [⟨p, none, [], 0⟩] := by
  intro _
  refine ⟨g, 0, rfl, fun k hk => ?_⟩
  obtain rfl : k = 0 := by simpa using hk
  exact ⟨fun i _ => by simpa using h.cell i, Bytes.nil _ _⟩
theorem ex12_who : whoOf 3 [⟨ex12, none, [], 0⟩] = 4 := by decide
set_option maxRecDepth 100000 in
set_option maxHeartbeats 2000000 in
theorem works12_any (w : World) : Calls Try.prog 61 #[] w fun e w' => e = .returned (.bool true) ∧ Grow w w' := by
  have hG := hide (fun W => attgood_any ex12 none [] 0 W (Bytes.nil _ _))
  rw [ex12_good] at hG
  have hD := hide (fun W => due_any 3 10 W (hide (by decide)) (hide (by decide)))
  rw [show dueR 3 10 = .tuple #[.int .i64 30, .bool true] from rfl] at hD
  have hW := hide (fun A W (h : Pks W A [⟨ex12, none, [], 0⟩]) => who_any 3 A [⟨ex12, none, [], 0⟩] 1 W h (by simp))
  rw [ex12_who] at hW
  go_enter Try.func61, Try.ntmps61
  go_wp2_with fail
  refine (attnew_any 30 2 4 3 _).mono ?_
  rintro r w1 ⟨rfl, hb1⟩
  have hg1 := hb1
  have HG1 := hide (show Grow w w1 from hg1)
  have hsz1 : w.heap.size ≤ w1.heap.size := HG1.out.size
  have hq1 : w.heap.size ≤ w1.heap.size := hg1.size
  have HS1 := hide hg1
  clear hb1 hg1
  go_wp2_with fail
  refine (new_at 9 (w1.heap.size + 1) _ (by decide) (by decide) (by simp)).mono ?_
  rintro r w2 ⟨rfl, hwr, hb2⟩
  obtain ⟨p0, hg2⟩ := peel1 hb2
  have p0_ := hide p0
  clear p0
  have p0 := p0_
  clear p0_
  have HG2 := hide (Grow.trans (show Grow w w1 from HG1.out) hg2)
  clear HG1
  have hsz2 : w.heap.size ≤ w2.heap.size := HG2.out.size
  have hq2 : w1.heap.size ≤ w2.heap.size := hg2.size
  have HS2 := hide hg2
  clear hb2 hg2
  obtain ⟨cp0, fp0, lp0⟩ := (show Box w2 _ _ from p0.out).rules
  go_wp2_with fail
  refine (attput_any _ _ none 0 0 [] 9 ex12 none 0 0 _ hwr (by simp) (by have := hwr.lt; omega)).mono ?_
  rw [show ex12.no = 3 from rfl, ex12_S]
  rintro r w3 ⟨rfl, A3, c3, hwr3, hb3, _⟩
  simp only [foot, blk, Option.map_none, Option.toList_none] at hb3
  clear cp0 fp0 lp0
  have hg3 := hb3
  have p0_ := hide ((show Box w2 _ _ from p0.out).kept hg3 (by simp; try omega))
  clear p0
  have p0 := p0_
  clear p0_
  have HG3 := hide (Kept.fresh1 hg3 (show Grow w w2 from HG2.out) (by omega))
  clear HG2
  have hsz3 : w.heap.size ≤ w3.heap.size := HG3.out.size
  have hq3 : w2.heap.size ≤ w3.heap.size := hg3.size
  have HS3 := hide hg3
  clear hb3 hg3
  obtain ⟨cp0, fp0, lp0⟩ := (show Box w3 _ _ from p0.out).rules
  go_wp2_with fail
  refine (done_ok _ _ A3 c3 _ 9 _ hwr3 (by simp)).mono ?_
  rintro r w4 ⟨A4, c4, rfl, hown4, hb4⟩
  have hl4 := hown4.bytes
  clear hwr hwr3 hown4
  clear cp0 fp0 lp0
  have hg4 := hb4
  have p0_ := hide ((show Box w3 _ _ from p0.out).grow hg4)
  clear p0
  have p0 := p0_
  clear p0_
  have HG4 := hide (Grow.trans (show Grow w w3 from HG3.out) hg4)
  clear HG3
  have hsz4 : w.heap.size ≤ w4.heap.size := HG4.out.size
  have hq4 : w3.heap.size ≤ w4.heap.size := hg4.size
  have HS4 := hide hg4
  clear hb4 hg4
  obtain ⟨cp0, fp0, lp0⟩ := (show Box w4 _ _ from p0.out).rules
  go_wp2_with fail
  refine (hD.out _).mono ?_
  rintro r w5 ⟨rfl, hb5⟩
  clear cp0 fp0 lp0
  have hg5 := hb5
  have p0_ := hide ((show Box w4 _ _ from p0.out).grow hg5)
  clear p0
  have p0 := p0_
  clear p0_
  have hl4 := hl4.grow hg5
  have HG5 := hide (Grow.trans (show Grow w w4 from HG4.out) hg5)
  clear HG4
  have hsz5 : w.heap.size ≤ w5.heap.size := HG5.out.size
  have hq5 : w4.heap.size ≤ w5.heap.size := hg5.size
  have HS5 := hide hg5
  clear hb5 hg5
  obtain ⟨cp0, fp0, lp0⟩ := (show Box w5 _ _ from p0.out).rules
  have vl4 := (show (convert 25 9 (.slice A4 1 c4)).run Try.prog w5 = .ok (.string ⟨#[3]⟩) w5 from conv_any c4 hl4)
  go_wp2_with fail
  refine (hG.out _).mono ?_
  rintro r w6 ⟨rfl, hb6⟩
  clear cp0 fp0 lp0
  have hg6 := hb6
  have p0_ := hide ((show Box w5 _ _ from p0.out).grow hg6)
  clear p0
  have p0 := p0_
  clear p0_
  have hl4 := hl4.grow hg6
  have HG6 := hide (Grow.trans (show Grow w w5 from HG5.out) hg6)
  clear HG5
  have hsz6 : w.heap.size ≤ w6.heap.size := HG6.out.size
  have hq6 : w5.heap.size ≤ w6.heap.size := hg6.size
  have HS6 := hide hg6
  clear hb6 hg6
  obtain ⟨cp0, fp0, lp0⟩ := (show Box w6 _ _ from p0.out).rules
  go_wp2_with fail
  refine (hW.out _ _ (Pks.one (Box.new w6 (pcells ex12 none 0 0) 65 rfl))).mono ?_
  rintro r w7 ⟨rfl, hb7⟩
  clear cp0 fp0 lp0
  obtain ⟨x0, hg7⟩ := peel1 hb7
  have p0_ := hide ((show Box w6 _ _ from p0.out).grow hg7)
  clear p0
  have p0 := p0_
  clear p0_
  have x0_ := hide x0
  clear x0
  have x0 := x0_
  clear x0_
  have hl4 := hl4.grow hg7
  have HG7 := hide (Grow.trans (show Grow w w6 from HG6.out) hg7)
  clear HG6
  have hsz7 : w.heap.size ≤ w7.heap.size := HG7.out.size
  have hq7 : w6.heap.size ≤ w7.heap.size := hg7.size
  have HS7 := hide hg7
  clear hb7 hg7
  obtain ⟨cp0, fp0, lp0⟩ := (show Box w7 _ _ from p0.out).rules
  obtain ⟨cx0, fx0, lx0⟩ := (show Box w7 _ _ from x0.out).rules
  go_wp2
  go_ret
  exact ⟨rfl, HG7.out⟩
end Go.Proofs.Ytpobjcdcimcdnaa
