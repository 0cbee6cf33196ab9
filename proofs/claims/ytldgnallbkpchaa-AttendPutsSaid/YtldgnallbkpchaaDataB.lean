/- The walks of data.Good, data.New and of their document. -/
import Derived.Test.YtldgnallbkpchaaData
namespace Go.Proofs.Ytldgnallbkpchaa
open Go.RowKit
/-- a data packet -/
abbrev dataP (t f q h : Int) : Pkt := { kind := 4, t := t, frm := f, seq := q, hops := h, no := 0, to := 0, index := 0, total := 0, stamp := 0, value := 0 }
def dataB (p : Pkt) (n : Nat) : Bool := p.kind == 4 && headB p && decide (n ≤ 1024) && (p.no == 0 && p.to == 0 && p.index == 0 && p.total == 0 && p.stamp == 0 && p.value == 0)
theorem data_same (p : Pkt) (n : Nat) : dataB p n = (sameB p (dataP p.t p.frm p.seq p.hops) && headB p && decide (n < 1025)) := by
  rw [Bool.eq_iff_iff]
  simp [dataB, sameB, restB, keyEq]
  grind
set_option maxRecDepth 100000 in
set_option maxHeartbeats 1000000 in
theorem refdatanew_any (t f q : Int) (A : Option Addr) (n c : Nat) (w : World) :
    Calls Try.prog 73 #[kv t f q, .slice A n c] w fun e w' => e = .returned (pv (dataP t f q 1) A n c) ∧ Grow w w' := by
  go_enter Try.func73, Try.ntmps73
  go_wp2
  refine bodyPost_ret (v := pv (dataP t f q 1) A n c) (by simp [results, Try.results73, go_sem]) rfl ⟨rfl, ?_⟩
  show Below w.heap.size w _
  repeat (refine Below.setCell ?_ (by simp) _)
  exact ((Grow.refl w).alloc _).alloc _
set_option maxRecDepth 100000 in
set_option maxHeartbeats 1000000 in
theorem datagood_any (p : Pkt) (A : Option Addr) (n c : Nat) (w : World) (hn : n ≤ 1000000000000) :
    Calls Try.prog 75 #[pv p A n c] w fun e w' => e = .returned (.bool (dataB p n)) ∧ Below w.heap.size w w' := by
  have hb0 := (Grow.refl w).alloc (.cells (pcells p A n c) 65)
  by_cases hk : p.kind = 4
  · have k4 : (p.kind != 4) = false := by simpa using hk
    have HG := hide (fun W => headgood_any p A n c W)
    cases hh : headB p with
    | true =>
      rw [hh] at HG
      by_cases hs : n ≤ 1024
      · have HD := hide (show dataB p n = (p.no == 0 && p.to == 0 && p.index == 0 && p.total == 0 && p.stamp == 0 && p.value == 0) by simp [dataB, hk, hh, hs])
        clear hk hh
        go_enter Try.func75, Try.ntmps75
        go_wp2_with fail
        refine (HG.out _).mono ?_
        rintro e w1 ⟨rfl, hb1⟩
        obtain ⟨hc1, hf1⟩ := grown_cell hb1
        have hs1 : w.heap.size < w1.heap.size := by have := hb1.size; simp at this; omega
        have HB := hide (hb0.step hb1)
        clear hb1 hb0
        go_wp2
        all_goals
          go_ret
          refine ⟨ret_bool ?_, HB.out⟩
          rw [HD.out]
          simp_all
      · have HD := hide (show dataB p n = false by simp [dataB, hs])
        clear hk hh
        go_enter Try.func75, Try.ntmps75
        go_wp2_with fail
        refine (HG.out _).mono ?_
        rintro e w1 ⟨rfl, hb1⟩
        obtain ⟨hc1, hf1⟩ := grown_cell hb1
        have hs1 : w.heap.size < w1.heap.size := by have := hb1.size; simp at this; omega
        have HB := hide (hb0.step hb1)
        clear hb1 hb0
        go_wp2
        go_ret
        exact ⟨by rw [HD.out]; rfl, HB.out⟩
    | false =>
      rw [hh] at HG
      have HD := hide (show dataB p n = false by simp [dataB, hh])
      clear hk hh
      go_enter Try.func75, Try.ntmps75
      go_wp2_with fail
      refine (HG.out _).mono ?_
      rintro e w1 ⟨rfl, hb1⟩
      have HB := hide (hb0.step hb1)
      clear hb1 hb0
      go_wp2
      go_ret
      exact ⟨by rw [HD.out]; rfl, HB.out⟩
  · have k4 : (p.kind != 4) = true := by simpa using hk
    have HD := hide (show dataB p n = false by simp [dataB, hk])
    clear hk
    go_enter Try.func75, Try.ntmps75
    go_wp2
    go_ret
    exact ⟨by rw [HD.out]; rfl, hb0⟩
end Go.Proofs.Ytldgnallbkpchaa
