/- The walk of the statement SealOnce. -/
import Derived.Test.YtpobjcdcimcdnaaSlH
namespace Go.Proofs.Ytpobjcdcimcdnaa
open Go.RowKit
theorem Bytes.in_ {w : World} {A : Option Addr} {l : List UInt8} (h : Bytes w A l) (hne : l ≠ []) (g : Nat) (hg : blk A = some g) : g < w.heap.size := by
  obtain ⟨b, o, rfl, hc⟩ := h hne
  have h0 : 0 < l.length := List.length_pos_iff.2 hne
  have hb := World.block_lt_of_cell? w _ (hc 0 h0)
  have e : b = g := by simpa [blk] using hg
  subst e
  exact hb
set_option maxRecDepth 100000 in
set_option maxHeartbeats 2000000 in
theorem sealOnce_any (B : Option Addr) (b : List UInt8) (cb : Nat) (w : World) (hbl : b.length ≤ cb) (_hbc : cb ≤ 9223372036854775807) (hb : Bytes w B b) :
    Calls Try.prog 20 #[.slice B b.length cb] w fun e w' => e = .returned (.bool true) ∧ Grow w w' := by
  obtain ⟨m, hm⟩ : ∃ m, m = b.take 300 := ⟨_, rfl⟩
  have hmm : m.length = min 300 b.length := by rw [hm, List.length_take]
  have hb := hm ▸ hb.take 300
  have hmin : (if 300 < (b.length : Int) then (300 : Int) else (b.length : Int)) = ((m.length : Nat) : Int) := by split <;> omega
  have hmc : m.length ≤ cb := by omega
  have hmN : m.length ≤ 300 := by omega
  clear hm hmm hbl
  have hS := hide (fun W h => refseal_any B m cb W (by omega) h)
  have hs1 : (Crc.seal_ m).length ≤ 304 := by rw [seal_len]; omega
  have hO := hide (fun p l h => dec_once m p l h)
  generalize Crc.seal_ m = s at *
  go_enter Try.func20, Try.ntmps20
  go_wp2_with fail
  refine (hS.out _ hb).mono ?_
  rintro r w1 ⟨A1, c1, rfl, hown1, hb1⟩
  have h1 := hown1.bytes
  have hc1 := hown1.le
  clear hown1 hb
  have hg1 := hb1
  have HG1 := hide (show Grow w w1 from hg1)
  have hsz1 : w.heap.size ≤ w1.heap.size := HG1.out.size
  have hq1 : w.heap.size ≤ w1.heap.size := hg1.size
  have HS1 := hide hg1
  clear hb1 hg1
  have hD := hide (fun W h => decode_any A1 s c1 W h hc1.1 hc1.2)
  generalize dec s = T at *
  obtain ⟨q, t, e1⟩ := T
  dsimp only at *
  go_wp2_with fail
  refine (hD.out _ h1).mono ?_
  rintro r w2 ⟨⟨A2, c2, rfl, hc2, hcm2, hx⟩, hb2⟩
  have hg2 := hb2
  have h1 := h1.grow hg2
  have HG2 := hide (Grow.trans (show Grow w w1 from HG1.out) hg2)
  clear HG1
  have hsz2 : w.heap.size ≤ w2.heap.size := HG2.out.size
  have hq2 : w1.heap.size ≤ w2.heap.size := hg2.size
  have HS2 := hide hg2
  clear hb2 hg2
  by_cases he : e1 = 0
  · subst he
    obtain ⟨o1, o2⟩ := hO.out q t rfl
    have htl : t.length ≤ 1000000 := by have := (body_len q t o1).2; omega
    have hE := hide (fun W hh h2 => encode_yes q A2 t c2 W hh htl h2 o1)
    rw [o2] at hE
    have HG := hide (fun W hh => sealgood_any q A2 t c2 W hh (by omega))
    rw [o1] at HG
    clear hO hD hS o1 o2
    go_wp2_with fail
    refine (hE.out _ (hx.alloc _) (fun hne g hg => by have := Bytes.in_ hx hne g hg; simp; omega)).mono ?_
    rintro r w3 ⟨⟨A3, c3, rfl, hown3⟩, hb3⟩
    have h3 := hown3.bytes
    clear hown3
    obtain ⟨x0, hg3⟩ := peel1 hb3
    have x0_ := hide x0
    clear x0
    have x0 := x0_
    clear x0_
    have h1 := h1.grow hg3
    have hx := hx.grow hg3
    have HG3 := hide (Grow.trans (show Grow w w2 from HG2.out) hg3)
    clear HG2
    have hsz3 : w.heap.size ≤ w3.heap.size := HG3.out.size
    have hq3 : w2.heap.size ≤ w3.heap.size := hg3.size
    have HS3 := hide hg3
    clear hb3 hg3
    obtain ⟨cx0, fx0, lx0⟩ := (show Box w3 _ _ from x0.out).rules
    go_wp2_with fail
    refine (HG.out _ hx).mono ?_
    rintro r w4 ⟨rfl, hb4⟩
    clear cx0 fx0 lx0
    have hg4 := hb4
    have x0_ := hide ((show Box w3 _ _ from x0.out).grow hg4)
    clear x0
    have x0 := x0_
    clear x0_
    have h1 := h1.grow hg4
    have hx := hx.grow hg4
    have h3 := h3.grow hg4
    have HG4 := hide (Grow.trans (show Grow w w3 from HG3.out) hg4)
    clear HG3
    have hsz4 : w.heap.size ≤ w4.heap.size := HG4.out.size
    have hq4 : w3.heap.size ≤ w4.heap.size := hg4.size
    have HS4 := hide hg4
    clear hb4 hg4
    obtain ⟨cx0, fx0, lx0⟩ := (show Box w4 _ _ from x0.out).rules
    have Vh1 := conv_any c1 h1
    have Vh3 := conv_any c3 h3
    go_wp2_with fail
    refine (works14_any _).mono ?_
    rintro r w5 ⟨rfl, hb5⟩
    clear cx0 fx0 lx0
    have hg5 := hb5
    have x0_ := hide ((show Box w4 _ _ from x0.out).grow hg5)
    clear x0
    have x0 := x0_
    clear x0_
    have h1 := h1.grow hg5
    have hx := hx.grow hg5
    have h3 := h3.grow hg5
    have HG5 := hide (Grow.trans (show Grow w w4 from HG4.out) hg5)
    clear HG4
    have hsz5 : w.heap.size ≤ w5.heap.size := HG5.out.size
    have hq5 : w4.heap.size ≤ w5.heap.size := hg5.size
    have HS5 := hide hg5
    clear hb5 hg5
    obtain ⟨cx0, fx0, lx0⟩ := (show Box w5 _ _ from x0.out).rules
    go_wp2
    go_ret
    exact ⟨rfl, HG5.out⟩
  · go_wp2_with fail
    refine (works14_any _).mono ?_
    rintro r w3 ⟨rfl, hb3⟩
    obtain ⟨x0, hg3⟩ := peel1 hb3
    have x0_ := hide x0
    clear x0
    have x0 := x0_
    clear x0_
    have h1 := h1.grow hg3
    have hx := hx.grow hg3
    have HG3 := hide (Grow.trans (show Grow w w2 from HG2.out) hg3)
    clear HG2
    have hsz3 : w.heap.size ≤ w3.heap.size := HG3.out.size
    have hq3 : w2.heap.size ≤ w3.heap.size := hg3.size
    have HS3 := hide hg3
    clear hb3 hg3
    obtain ⟨cx0, fx0, lx0⟩ := (show Box w3 _ _ from x0.out).rules
    go_wp2
    go_ret
    exact ⟨rfl, HG3.out⟩
end Go.Proofs.Ytpobjcdcimcdnaa
