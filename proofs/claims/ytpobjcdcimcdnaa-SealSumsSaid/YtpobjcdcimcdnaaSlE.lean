/- The walks of the statements SealDecodes and SealSums. -/
import Derived.Test.YtpobjcdcimcdnaaSlD
namespace Go.Proofs.Ytpobjcdcimcdnaa
open Go.RowKit
set_option maxRecDepth 100000 in
set_option maxHeartbeats 2000000 in
theorem sealDecodes_any (B : Option Addr) (b : List UInt8) (cb : Nat) (w : World) (hbl : b.length ≤ cb) (hbc : cb ≤ 9223372036854775807) (hb : Bytes w B b) :
    Calls Try.prog 18 #[.slice B b.length cb] w fun e w' => e = .returned (.bool true) ∧ Grow w w' := by
  obtain ⟨m, hm⟩ : ∃ m, m = b.take 1200 := ⟨_, rfl⟩
  have hmm : m.length = min 1200 b.length := by rw [hm, List.length_take]
  have hb := hm ▸ hb.take 1200
  have hmin : (if 1200 < (b.length : Int) then (1200 : Int) else (b.length : Int)) = ((m.length : Nat) : Int) := by split <;> omega
  have hmc : m.length ≤ cb := by omega
  have hmN : m.length ≤ 1200 := by omega
  clear hm hmm hbl
  go_enter Try.func18, Try.ntmps18
  go_wp2_with (at_builtin; refine wpList_append_fresh byteT rfl (.tmp 7) (.tmp 12) rfl (Own.made' _ (w.heap.size) (w.heap.size) (by simp) (by omega)) (by simp <;> omega) (hb.alloc _) rfl rfl (by omega) ?_)
  intro A1 c1 w1 hown1 hb1
  have hb1 := Grow.trans ((Grow.refl _).alloc _) hb1
  have hg1 := hb1
  have hb := hb.grow hg1
  have HG1 := hide (show Grow w w1 from hg1)
  have hsz1 : w.heap.size ≤ w1.heap.size := HG1.out.size
  have hq1 : w.heap.size ≤ w1.heap.size := hg1.size
  have HS1 := hide hg1
  clear hb1 hg1
  have h1 := hown1.bytes
  have hc1 := hown1.le
  clear hown1 hb
  have hD := hide (fun W h => decode_any A1 m c1 W h hc1.1 hc1.2)
  have hR := hide (fun W h => refdecode_any A1 m c1 W h hc1.1 hc1.2)
  generalize dec m = T at *
  obtain ⟨q, t, e1⟩ := T
  dsimp only at *
  go_wp2_with fail
  refine (hD.out _ h1).mono ?_
  rintro r w2 ⟨⟨A2, c2, rfl, hc2, hcm2, hx⟩, hb2⟩
  have hg2 := hb2
  have h1 := h1.grow hg2
  have HG2 := hide (Grow.trans (show Grow w w1 from HG1.out) hg2)
  clear HG1
  have hsz2 : w.heap.size ≤ w2.heap.size := HG2.out.size
  have hq2 : w1.heap.size ≤ w2.heap.size := hg2.size
  have HS2 := hide hg2
  clear hb2 hg2
  go_wp2_with fail
  refine (hR.out _ (h1.alloc _)).mono ?_
  rintro r w3 ⟨⟨A3, c3, rfl, hc3, hcm3, hy⟩, hb3⟩
  obtain ⟨x0, hg3⟩ := peel1 hb3
  have x0_ := hide x0
  clear x0
  have x0 := x0_
  clear x0_
  have h1 := h1.grow hg3
  have hx := hx.grow hg3
  have HG3 := hide (Grow.trans (show Grow w w2 from HG2.out) hg3)
  clear HG2
  have hsz3 : w.heap.size ≤ w3.heap.size := HG3.out.size
  have hq3 : w2.heap.size ≤ w3.heap.size := hg3.size
  have HS3 := hide hg3
  clear hb3 hg3
  obtain ⟨cx0, fx0, lx0⟩ := (show Box w3 _ _ from x0.out).rules
  have HS := hide (fun W h1 h2 => refsame_any q q A2 A3 t t c2 c3 W h1 h2)
  rw [sameB_refl, beq_self_eq_true, Bool.true_and] at HS
  go_wp2_with fail
  refine (HS.out _ (hx.alloc _) (hy.alloc _)).mono ?_
  rintro r w4 ⟨rfl, hb4⟩
  clear cx0 fx0 lx0
  obtain ⟨y0, hg4⟩ := peel1 hb4
  have x0_ := hide ((show Box w3 _ _ from x0.out).grow hg4)
  clear x0
  have x0 := x0_
  clear x0_
  have y0_ := hide y0
  clear y0
  have y0 := y0_
  clear y0_
  have HG4 := hide (Grow.trans (show Grow w w3 from HG3.out) hg4)
  clear HG3
  have hsz4 : w.heap.size ≤ w4.heap.size := HG4.out.size
  have hq4 : w3.heap.size ≤ w4.heap.size := hg4.size
  have HS4 := hide hg4
  clear hb4 hg4
  obtain ⟨cx0, fx0, lx0⟩ := (show Box w4 _ _ from x0.out).rules
  obtain ⟨cy0, fy0, ly0⟩ := (show Box w4 _ _ from y0.out).rules
  go_wp2_with fail
  refine (works14_any _).mono ?_
  rintro r w5 ⟨rfl, hb5⟩
  clear cx0 fx0 lx0 cy0 fy0 ly0
  have hg5 := hb5
  have x0_ := hide ((show Box w4 _ _ from x0.out).grow hg5)
  clear x0
  have x0 := x0_
  clear x0_
  have y0_ := hide ((show Box w4 _ _ from y0.out).grow hg5)
  clear y0
  have y0 := y0_
  clear y0_
  have HG5 := hide (Grow.trans (show Grow w w4 from HG4.out) hg5)
  clear HG4
  have hsz5 : w.heap.size ≤ w5.heap.size := HG5.out.size
  have hq5 : w4.heap.size ≤ w5.heap.size := hg5.size
  have HS5 := hide hg5
  clear hb5 hg5
  obtain ⟨cx0, fx0, lx0⟩ := (show Box w5 _ _ from x0.out).rules
  obtain ⟨cy0, fy0, ly0⟩ := (show Box w5 _ _ from y0.out).rules
  go_wp2
  go_ret
  exact ⟨rfl, HG5.out⟩
set_option maxRecDepth 100000 in
set_option maxHeartbeats 2000000 in
theorem sealSums_any (B : Option Addr) (b : List UInt8) (cb : Nat) (w : World) (hbl : b.length ≤ cb) (hbc : cb ≤ 9223372036854775807) (hb : Bytes w B b) :
    Calls Try.prog 19 #[.slice B b.length cb] w fun e w' => e = .returned (.bool true) ∧ Grow w w' := by
  obtain ⟨m, hm⟩ : ∃ m, m = b.take 300 := ⟨_, rfl⟩
  have hmm : m.length = min 300 b.length := by rw [hm, List.length_take]
  have hb := hm ▸ hb.take 300
  have hmin : (if 300 < (b.length : Int) then (300 : Int) else (b.length : Int)) = ((m.length : Nat) : Int) := by split <;> omega
  have hmc : m.length ≤ cb := by omega
  have hmN : m.length ≤ 300 := by omega
  clear hm hmm hbl
  have hS := hide (fun W h => refseal_any B m cb W (by omega) h)
  have hs1 : (Crc.seal_ m).length ≤ 304 := by rw [seal_len]; omega
  generalize Crc.seal_ m = s at *
  go_enter Try.func19, Try.ntmps19
  go_wp2_with fail
  refine (hS.out _ hb).mono ?_
  rintro r w1 ⟨A1, c1, rfl, hown1, hb1⟩
  have h1 := hown1.bytes
  have hc1 := hown1.le
  clear hown1 hb
  have hg1 := hb1
  have HG1 := hide (show Grow w w1 from hg1)
  have hsz1 : w.heap.size ≤ w1.heap.size := HG1.out.size
  have hq1 : w.heap.size ≤ w1.heap.size := hg1.size
  have HS1 := hide hg1
  clear hb1 hg1
  have hD := hide (fun W h => decode_any A1 s c1 W h hc1.1 hc1.2)
  have hR := hide (fun W h => refdecode_any A1 s c1 W h hc1.1 hc1.2)
  generalize dec s = T at *
  obtain ⟨q, t, e1⟩ := T
  dsimp only at *
  go_wp2_with fail
  refine (hD.out _ h1).mono ?_
  rintro r w2 ⟨⟨A2, c2, rfl, hc2, hcm2, hx⟩, hb2⟩
  have hg2 := hb2
  have h1 := h1.grow hg2
  have HG2 := hide (Grow.trans (show Grow w w1 from HG1.out) hg2)
  clear HG1
  have hsz2 : w.heap.size ≤ w2.heap.size := HG2.out.size
  have hq2 : w1.heap.size ≤ w2.heap.size := hg2.size
  have HS2 := hide hg2
  clear hb2 hg2
  go_wp2_with fail
  refine (hR.out _ (h1.alloc _)).mono ?_
  rintro r w3 ⟨⟨A3, c3, rfl, hc3, hcm3, hy⟩, hb3⟩
  obtain ⟨x0, hg3⟩ := peel1 hb3
  have x0_ := hide x0
  clear x0
  have x0 := x0_
  clear x0_
  have h1 := h1.grow hg3
  have hx := hx.grow hg3
  have HG3 := hide (Grow.trans (show Grow w w2 from HG2.out) hg3)
  clear HG2
  have hsz3 : w.heap.size ≤ w3.heap.size := HG3.out.size
  have hq3 : w2.heap.size ≤ w3.heap.size := hg3.size
  have HS3 := hide hg3
  clear hb3 hg3
  obtain ⟨cx0, fx0, lx0⟩ := (show Box w3 _ _ from x0.out).rules
  have HS := hide (fun W h1 h2 => refsame_any q q A2 A3 t t c2 c3 W h1 h2)
  rw [sameB_refl, beq_self_eq_true, Bool.true_and] at HS
  go_wp2_with fail
  refine (HS.out _ (hx.alloc _) (hy.alloc _)).mono ?_
  rintro r w4 ⟨rfl, hb4⟩
  clear cx0 fx0 lx0
  obtain ⟨y0, hg4⟩ := peel1 hb4
  have x0_ := hide ((show Box w3 _ _ from x0.out).grow hg4)
  clear x0
  have x0 := x0_
  clear x0_
  have y0_ := hide y0
  clear y0
  have y0 := y0_
  clear y0_
  have HG4 := hide (Grow.trans (show Grow w w3 from HG3.out) hg4)
  clear HG3
  have hsz4 : w.heap.size ≤ w4.heap.size := HG4.out.size
  have hq4 : w3.heap.size ≤ w4.heap.size := hg4.size
  have HS4 := hide hg4
  clear hb4 hg4
  obtain ⟨cx0, fx0, lx0⟩ := (show Box w4 _ _ from x0.out).rules
  obtain ⟨cy0, fy0, ly0⟩ := (show Box w4 _ _ from y0.out).rules
  go_wp2_with fail
  refine (works14_any _).mono ?_
  rintro r w5 ⟨rfl, hb5⟩
  clear cx0 fx0 lx0 cy0 fy0 ly0
  have hg5 := hb5
  have x0_ := hide ((show Box w4 _ _ from x0.out).grow hg5)
  clear x0
  have x0 := x0_
  clear x0_
  have y0_ := hide ((show Box w4 _ _ from y0.out).grow hg5)
  clear y0
  have y0 := y0_
  clear y0_
  have HG5 := hide (Grow.trans (show Grow w w4 from HG4.out) hg5)
  clear HG4
  have hsz5 : w.heap.size ≤ w5.heap.size := HG5.out.size
  have hq5 : w4.heap.size ≤ w5.heap.size := hg5.size
  have HS5 := hide hg5
  clear hb5 hg5
  obtain ⟨cx0, fx0, lx0⟩ := (show Box w5 _ _ from x0.out).rules
  obtain ⟨cy0, fy0, ly0⟩ := (show Box w5 _ _ from y0.out).rules
  go_wp2
  go_ret
  exact ⟨rfl, HG5.out⟩
end Go.Proofs.Ytpobjcdcimcdnaa
