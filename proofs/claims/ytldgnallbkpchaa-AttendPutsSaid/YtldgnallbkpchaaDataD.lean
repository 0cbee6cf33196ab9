/- The walks of data.Get, data.New and data.Put. -/
import Derived.Test.YtldgnallbkpchaaDataC
namespace Go.Proofs.Ytldgnallbkpchaa
open Go.RowKit
/-- a result: a packet and what is wrong -/
def GotPk (w' : World) (r : Ending) (p : Pkt) (l : List UInt8) (e : Int) : Prop := ∃ A c, r = .returned (.tuple #[pv p A l.length c, .int .i64 e]) ∧ l.length ≤ c ∧ c ≤ 9223372036854775807 ∧ Bytes w' A l
/-- a result: a packet, what is left, what is wrong -/
def GotPk3 (B : Option Addr) (b : List UInt8) (r : Ending) (p : Pkt) (l t : List UInt8) (e : Int) : Prop := ∃ A c A2 c2, r = .returned (.tuple #[pv p A l.length c, .slice A2 t.length c2, .int .i64 e]) ∧ l.length ≤ c ∧ c ≤ 9223372036854775807 ∧ (∀ W, Bytes W B b → Bytes W A l) ∧ t.length ≤ c2 ∧ c2 ≤ 9223372036854775807 ∧ ∀ W, Bytes W B b → Bytes W A2 t
/-- a packet that was read, or none -/
def gotP (e : Int) (p : Pkt) : Pkt := if e = 0 then p else noP
theorem rbytes_bad (most : Int) (s : List UInt8 × Int) (h : (rbytes most s).2.2 ≠ 0) : (rbytes most s).1 = [] := by
  obtain ⟨b, e⟩ := s
  unfold rbytes Buf.rget at *
  by_cases he : e = 0
  · subst he
    rw [if_pos rfl] at h ⊢
    dsimp only at h ⊢
    rw [Buf.getBytes_bad b most h]
  · rw [if_neg he]
set_option maxRecDepth 100000 in
set_option maxHeartbeats 2000000 in
theorem dataget_any (N pr : Nat) (s : List UInt8 × Int) (p : Pkt) (A : Option Addr) (n c : Nat) (w : World) (h : Rd w N pr s) (hsl : s.1.length ≤ 1000000000000) :
    Calls Try.prog 82 #[.pointer (some ⟨pr, 0, none⟩), pv p A n c] w fun r w' => GotPk w' r (gotP (rbytes 1024 s).2.2 p) (rbytes 1024 s).1 (rbytes 1024 s).2.2 ∧ Rd w' N pr (rbytes 1024 s).2 ∧ Kept w.heap.size [pr] w w' := by
  have hB := hide (fun (W : World) h => rbytes_any N pr s 1024 W h (by omega) hsl)
  have hbad := hide (rbytes_bad 1024 s)
  have hpr : pr < w.heap.size := Nat.lt_of_lt_of_le h.lt h.size
  generalize rbytes 1024 s = T at *
  obtain ⟨t, s1⟩ := T
  dsimp only at *
  go_enter Try.func82, Try.ntmps82
  go_wp2_with fail
  refine (hB.out _ (h.grow (((Grow.refl w).alloc _).alloc _))).mono ?_
  rintro r w1 ⟨A1, c1, rfl, hc1, hcm1, hown1, hr1, hb1⟩
  obtain ⟨p0, q0, hg1⟩ := peelK2 hb1 (by simp; omega) (by simp; omega)
  have p0_ := hide p0
  clear p0
  have p0 := p0_
  clear p0_
  have q0_ := hide q0
  clear q0
  have q0 := q0_
  clear q0_
  have HK1 := hide (show Kept w.heap.size [pr] w w1 from hg1)
  have hsz1 : w.heap.size ≤ w1.heap.size := HK1.out.size
  clear hb1 hg1
  obtain ⟨cp0, fp0, lp0⟩ := (show Box w1 _ _ from p0.out).rules
  obtain ⟨cq0, fq0, lq0⟩ := (show Box w1 _ _ from q0.out).rules
  have hE := hide (fun (W : World) h => err_any N pr s1 W h)
  obtain ⟨b1, e1⟩ := s1
  dsimp only at *
  have hq1 : ∀ q, blk A1 = some q → q ≠ w.heap.size ∧ q ≠ w.heap.size + 1 := fun q hq => by have := hown1.base hq; simp at this; omega
  have hbt := hown1.bytes
  clear hown1
  go_wp2_with fail
  refine (hE.out _ (hr1.setOther (by simp; exact h.size) _)).mono ?_
  rintro r w' ⟨rfl, rfl⟩
  by_cases he : e1 = 0
  · subst he
    have hv := hide (show gotP 0 p = p from if_pos rfl)
    go_wp2
    refine bodyPost_ret (v := .tuple #[pv (p) A1 t.length c1, .int .i64 0]) (by simp [results, Try.results82, go_sem, cq0]) rfl ?_
    rw [hv.out]
    refine ⟨⟨_, _, rfl, hc1, hcm1, ?_⟩, ?_, ?_⟩
    · repeat (with_reducible refine Bytes.setAt ?_ ?_ _; rotate_left; · (intro q h; have := hq1 q h; simp; omega))
      exact hbt
    · repeat (with_reducible refine Rd.setOther ?_ (by simp; have := h.size; omega) _)
      exact hr1
    · repeat (with_reducible refine Kept.setCell ?_ (.inl (by simp)) _)
      exact HK1.out
  · obtain rfl := hbad.out he
    have he' : (e1 != 0) = true := by simpa using he
    have hv := hide (show gotP e1 p = noP from if_neg he)
    clear he
    go_wp2
    refine bodyPost_ret (v := .tuple #[pv (noP) none 0 0, .int .i64 e1]) (by simp [results, Try.results82, go_sem, cq0, noP]) rfl ?_
    rw [hv.out]
    refine ⟨⟨_, _, rfl, Nat.le_refl _, by decide, ?_⟩, ?_, ?_⟩
    · exact Bytes.nil _ _
    · repeat (with_reducible refine Rd.setOther ?_ (by simp; have := h.size; omega) _)
      exact hr1
    · repeat (with_reducible refine Kept.setCell ?_ (.inl (by simp)) _)
      exact HK1.out
set_option maxRecDepth 100000 in
set_option maxHeartbeats 2000000 in
theorem refdataget_any (B : Option Addr) (b : List UInt8) (cb : Nat) (p : Pkt) (A : Option Addr) (n c : Nat) (w : World) (hb : Bytes w B b) (hc : b.length ≤ cb) (hcm : cb ≤ 9223372036854775807) :
    Calls Try.prog 83 #[.slice B b.length cb, pv p A n c] w fun r w' => GotPk3 B b r (gotP (Buf.getBytes b 1024).2.2 p) (Buf.getBytes b 1024).1 (Buf.getBytes b 1024).2.1 (Buf.getBytes b 1024).2.2 ∧ Grow w w' := by
  have hB := hide (fun (W : World) h => refgetbytes_any B b cb 1024 W h hc hcm (by omega))
  have hbad := hide (Buf.getBytes_bad b 1024)
  generalize Buf.getBytes b 1024 = T at *
  obtain ⟨t, rest, e1⟩ := T
  dsimp only at *
  go_enter Try.func83, Try.ntmps83
  go_wp2_with fail
  refine (hB.out _ ((hb.alloc _).alloc _)).mono ?_
  rintro r w1 ⟨⟨A1, c1, A2, c2, rfl, hc1, hcm1, hc2, hcm2, hbt, hbr⟩, hb1⟩
  obtain ⟨p0, q0, hg1⟩ := peel2 hb1
  have p0_ := hide p0
  clear p0
  have p0 := p0_
  clear p0_
  have q0_ := hide q0
  clear q0
  have q0 := q0_
  clear q0_
  have HG1 := hide (show Grow w w1 from hg1)
  clear hb1 hg1
  obtain ⟨cp0, fp0, lp0⟩ := (show Box w1 _ _ from p0.out).rules
  obtain ⟨cq0, fq0, lq0⟩ := (show Box w1 _ _ from q0.out).rules
  by_cases he : e1 = 0
  · subst he
    have hv := hide (show gotP 0 p = p from if_pos rfl)
    go_wp2
    refine bodyPost_ret (v := .tuple #[pv (p) A1 t.length c1, .slice A2 rest.length c2, .int .i64 0]) (by simp [results, Try.results83, go_sem, cq0]) rfl ?_
    rw [hv.out]
    refine ⟨⟨_, _, _, _, rfl, hc1, hcm1, hbt, hc2, hcm2, hbr⟩, ?_⟩
    show Below w.heap.size w _
    repeat (with_reducible refine Below.setCell ?_ (by simp) _)
    exact HG1.out
  · obtain ⟨rfl, rfl, _⟩ : t = [] ∧ rest = [] ∧ True := by have := hbad.out he; simp_all
    have he' : (e1 != 0) = true := by simpa using he
    have hv := hide (show gotP e1 p = noP from if_neg he)
    clear he
    go_wp2
    refine bodyPost_ret (v := .tuple #[pv (noP) none 0 0, .slice none 0 0, .int .i64 e1]) (by simp [results, Try.results83, go_sem, cq0, noP]) rfl ?_
    rw [hv.out]
    refine ⟨⟨_, _, _, _, rfl, Nat.le_refl _, by decide, fun _ _ => Bytes.nil _ _, Nat.le_refl _, by decide, fun _ _ => Bytes.nil _ _⟩, ?_⟩
    show Below w.heap.size w _
    repeat (with_reducible refine Below.setCell ?_ (by simp) _)
    exact HG1.out
end Go.Proofs.Ytldgnallbkpchaa
