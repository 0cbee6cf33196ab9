/- The walks of the document of chapter 10; a packet that is cut short. -/
import Derived.Test.YtldgnallbkpchaaDataB
import Derived.Test.YtldgnallbkpchaaBox
import Derived.Test.YtldgnallbkpchaaRef05B
namespace Go.Proofs.Ytldgnallbkpchaa
open Go.RowKit
set_option maxRecDepth 100000 in
set_option maxHeartbeats 2000000 in
theorem refdatagood_any (p : Pkt) (A : Option Addr) (l : List UInt8) (c : Nat) (w : World) (hl : Bytes w A l) :
    Calls Try.prog 76 #[pv p A l.length c] w fun e w' => e = .returned (.bool (dataB p l.length)) ∧ Below w.heap.size w w' := by
  have HD := hide (data_same p l.length)
  have HS := hide (fun W hl => refsame_any p (dataP p.t p.frm p.seq p.hops) A A l l c c W hl hl)
  rw [beq_self_eq_true, Bool.and_true] at HS
  have HG := hide (fun W => refheadgood_any p A l.length c W)
  generalize sameB p (dataP p.t p.frm p.seq p.hops) = b1 at *
  generalize headB p = b2 at *
  generalize dataB p l.length = b3 at *
  go_enter Try.func76, Try.ntmps76
  go_wp2_with fail
  refine (refdatanew_any p.t p.frm p.seq A l.length c _).mono ?_
  rintro r w1 ⟨rfl, hb1⟩
  obtain ⟨p0, hg1⟩ := peel1 hb1
  have p0_ := hide p0
  clear p0
  have p0 := p0_
  clear p0_
  have hl := hl.grow hg1
  have HG1 := hide (show Grow w w1 from hg1)
  clear hb1 hg1
  obtain ⟨cp0, fp0, lp0⟩ := (show Box w1 _ _ from p0.out).rules
  go_wp2_with fail
  refine (HS.out _ (hl.alloc _)).mono ?_
  rintro r w2 ⟨rfl, hb2⟩
  clear cp0 fp0 lp0
  obtain ⟨q0, hg2⟩ := peel1 hb2
  have p0_ := hide ((show Box w1 _ _ from p0.out).grow hg2)
  clear p0
  have p0 := p0_
  clear p0_
  have q0_ := hide q0
  clear q0
  have q0 := q0_
  clear q0_
  have hl := hl.grow hg2
  have HG2 := hide (Grow.trans (show Grow w w1 from HG1.out) hg2)
  clear HG1
  clear hb2 hg2
  obtain ⟨cp0, fp0, lp0⟩ := (show Box w2 _ _ from p0.out).rules
  obtain ⟨cq0, fq0, lq0⟩ := (show Box w2 _ _ from q0.out).rules
  cases b1 with
  | false =>
    go_wp2
    go_ret
    exact ⟨by rw [HD.out]; rfl, HG2.out⟩
  | true =>
    go_wp2_with fail
    refine (HG.out _).mono ?_
    rintro r w3 ⟨rfl, hb3⟩
    clear cp0 fp0 lp0 cq0 fq0 lq0
    have hg3 := hb3
    have p0_ := hide ((show Box w2 _ _ from p0.out).grow hg3)
    clear p0
    have p0 := p0_
    clear p0_
    have q0_ := hide ((show Box w2 _ _ from q0.out).grow hg3)
    clear q0
    have q0 := q0_
    clear q0_
    have hl := hl.grow hg3
    have HG3 := hide (Grow.trans (show Grow w w2 from HG2.out) hg3)
    clear HG2
    clear hb3 hg3
    obtain ⟨cp0, fp0, lp0⟩ := (show Box w3 _ _ from p0.out).rules
    obtain ⟨cq0, fq0, lq0⟩ := (show Box w3 _ _ from q0.out).rules
    cases b2 with
    | false =>
      go_wp2
      go_ret
      exact ⟨by rw [HD.out]; rfl, HG3.out⟩
    | true =>
      go_wp2
      go_ret
      exact ⟨by rw [HD.out]; simp; omega, HG3.out⟩
set_option maxRecDepth 100000 in
set_option maxHeartbeats 2000000 in
theorem cut10_any (p : Pkt) (A : Option Addr) (l : List UInt8) (c : Nat) (w : World) (hl : l.length ≤ c) (hc : c ≤ 9223372036854775807) (hb : Bytes w A l) :
    Calls Try.prog 78 #[pv p A l.length c] w fun e w' => ∃ A' c', e = .returned (pv p A' (l.take 1100).length c') ∧ Own w' w.heap.size A' c' (l.take 1100) ∧ Grow w w' := by
  by_cases h : l.length ≤ 1100
  · have HT : Hid (l.take 1100 = l) := hide (List.take_of_length_le h)
    go_enter Try.func78, Try.ntmps78
    go_wp2_with (at_builtin; refine wpList_append_bytes byteT rfl (.tmp 3) (.tmp 10) rfl (Own.made' ((w.alloc (.cells (pcells p A l.length c) 65)).alloc (.cells (pcells noP none 0 0) 65)) w.heap.size (w.heap.size + 1 + 1) (by simp) (by omega)) (((hb.alloc _).alloc _).alloc _) rfl rfl ?_ ?_ ?_)
    · simp; omega
    · simp; omega
    intro A' c' l' w2 HL hown hg hat
    obtain ⟨p0, q0, hg2⟩ := app2 hg rfl
    have hq : ∀ q, blk A' = some q → q ≠ w.heap.size ∧ q ≠ w.heap.size + 1 := fun q hq => by
      rcases hat with h | h
      · rw [h] at hq; simp [blk] at hq; omega
      · rw [h] at hq; simp at hq; omega
    obtain ⟨cp0, fp0, lp0⟩ := p0.rules
    obtain ⟨cq0, fq0, lq0⟩ := q0.rules
    clear hg hat
    go_wp2
    have e : l' = l.take 1100 := by rw [HT.out]; exact HL.out.trans (by simp)
    subst e
    refine bodyPost_ret (v := pv p A' (l.take 1100).length c') (by simp [results, Try.results78, go_sem, cq0]) rfl ?_
    refine ⟨A', c', rfl, ?_, ?_⟩
    · repeat (with_reducible refine Own.setAt ?_ ?_ _; rotate_left; · (intro q h; have := hq q h; simp; omega))
      exact hown
    · show Below w.heap.size w _
      repeat (with_reducible refine Below.setCell ?_ (by simp) _)
      exact hg2
  · have HT : Hid (1100 = (l.take 1100).length) := hide (by rw [List.length_take]; omega)
    have hb' : Bytes w A (l.take 1100) := hb.take 1100
    go_enter Try.func78, Try.ntmps78
    go_wp2_with (at_builtin; refine wpList_append_bytes byteT rfl (.tmp 3) (.tmp 10) rfl (Own.made' ((w.alloc (.cells (pcells p A l.length c) 65)).alloc (.cells (pcells noP none 0 0) 65)) w.heap.size (w.heap.size + 1 + 1) (by simp) (by omega)) (((hb'.alloc _).alloc _).alloc _) rfl (by rw [← HT.out]; rfl) ?_ ?_ ?_)
    · rw [← HT.out]; simp
    · simp; omega
    intro A' c' l' w2 HL hown hg hat
    obtain ⟨p0, q0, hg2⟩ := app2 hg rfl
    have hq : ∀ q, blk A' = some q → q ≠ w.heap.size ∧ q ≠ w.heap.size + 1 := fun q hq => by
      rcases hat with h | h
      · rw [h] at hq; simp [blk] at hq; omega
      · rw [h] at hq; simp at hq; omega
    obtain ⟨cp0, fp0, lp0⟩ := p0.rules
    obtain ⟨cq0, fq0, lq0⟩ := q0.rules
    clear hg hat
    go_wp2
    have e : l' = l.take 1100 := by exact HL.out.trans (by simp)
    subst e
    refine bodyPost_ret (v := pv p A' (l.take 1100).length c') (by simp [results, Try.results78, go_sem, cq0]) rfl ?_
    refine ⟨A', c', rfl, ?_, ?_⟩
    · repeat (with_reducible refine Own.setAt ?_ ?_ _; rotate_left; · (intro q h; have := hq q h; simp; omega))
      exact hown
    · show Below w.heap.size w _
      repeat (with_reducible refine Below.setCell ?_ (by simp) _)
      exact hg2
end Go.Proofs.Ytldgnallbkpchaa
