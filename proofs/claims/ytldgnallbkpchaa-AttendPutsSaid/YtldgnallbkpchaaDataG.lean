/- The walks of the example of chapter 10, and of the statements DataGood and DataEntry. -/
import Derived.Test.YtldgnallbkpchaaDataE
namespace Go.Proofs.Ytldgnallbkpchaa
open Go.RowKit
theorem new_at (most : Int) (g : Nat) (w : World) (h : most ≤ 9223372036854775807) (h0 : 0 ≤ most) (hg : w.heap.size = g) :
    Calls Try.prog 37 #[.int .i64 most] w fun r w' => r = .returned (.pointer (some ⟨g, 0, none⟩)) ∧ Wr w' g g none 0 0 [] most ∧ Grow w w' := by
  subst hg
  have h1 := new_any most w h
  rw [show max most 0 = most by omega] at h1
  exact h1
theorem ex10 : dataB (dataP 5 1 2 1) 2 = true := by decide
theorem exS10 : Buf.wput 9 (0, []) (Buf.sevens ([104, 105] : List UInt8).length ++ [104, 105]) = (0, [2, 104, 105]) := by decide +kernel
set_option maxRecDepth 100000 in
set_option maxHeartbeats 2000000 in
theorem works10_any (w : World) : Calls Try.prog 77 #[] w fun e w' => e = .returned (.bool true) ∧ Grow w w' := by
  have hN := hide (datanew_any 5 1 2 (some ⟨w.heap.size, 0, none⟩) [104, 105] 2 _ (Bytes.lit w [104, 105] #[.int .u8 104, .int .u8 105] 5 (2, 3) rfl) (by simp) (by simp))
  have hG := hide (fun (A : Option Addr) (c : Nat) W => datagood_any (dataP 5 1 2 1) A 2 c W (by omega))
  rw [ex10] at hG
  have kc := fun (w : World) (C : Array Value) (n c : Nat) => Lib.run_convert_bytes_const (P := Try.prog) w 25 5 C n c Try.underlying25 Try.underlying5
  go_enter Try.func77, Try.ntmps77
  go_wp2_with fail
  refine hN.out.mono ?_
  rintro r w1 ⟨A1, c1, rfl, hown, hb1⟩
  have hl := hown.bytes
  have hle := hown.le
  have hlt1 := fun q h => hown.lt (q := q) h
  clear hown hN
  have hb1 := Grow.trans ((Grow.refl w).alloc _) hb1
  have hg1 := hb1
  have HG1 := hide (show Grow w w1 from hg1)
  have hsz1 : w.heap.size ≤ w1.heap.size := HG1.out.size
  clear hb1 hg1
  go_wp2_with fail
  refine (new_at 9 (w1.heap.size + 1) _ (by decide) (by decide) (by simp)).mono ?_
  rintro r w2 ⟨rfl, hwr, hb2⟩
  obtain ⟨p0, hg2⟩ := peel1 hb2
  have p0_ := hide p0
  clear p0
  have p0 := p0_
  clear p0_
  have hl := hl.grow hg2
  have HG2 := hide (Grow.trans (show Grow w w1 from HG1.out) hg2)
  clear HG1
  have hsz2 : w.heap.size ≤ w2.heap.size := HG2.out.size
  clear hb2 hg2
  obtain ⟨cp0, fp0, lp0⟩ := (show Box w2 _ _ from p0.out).rules
  go_wp2_with fail
  have hlo : ∀ q, blk A1 = some q → q ∉ [w1.heap.size + 1] := fun q hq => by have := hlt1 q hq; simp; omega
  refine (dataput_any _ _ none 0 0 [] 9 (dataP 5 1 2 1) A1 [104, 105] c1 _ hwr hl (by simp) (by simp) (by have := hwr.lt; omega) (by simp [blk])).mono ?_
  rw [exS10]
  rintro r w3 ⟨rfl, A3, c3, hwr3, hb3, _⟩
  simp only [foot, blk, Option.map_none, Option.toList_none] at hb3
  clear cp0 fp0 lp0
  have hg3 := hb3
  have p0_ := hide ((show Box w2 _ _ from p0.out).kept hg3 (by simp; try omega))
  clear p0
  have p0 := p0_
  clear p0_
  have hl := hl.kept hg3 hlo
  have HG3 := hide (Kept.fresh1 hg3 (show Grow w w2 from HG2.out) (by omega))
  clear HG2
  have hsz3 : w.heap.size ≤ w3.heap.size := HG3.out.size
  clear hb3 hg3
  obtain ⟨cp0, fp0, lp0⟩ := (show Box w3 _ _ from p0.out).rules
  go_wp2_with fail
  refine (done_ok _ _ A3 c3 _ 9 _ hwr3 (by simp)).mono ?_
  rintro r w4 ⟨A4, c4, rfl, hown4, hb4⟩
  have hl4 := hown4.bytes
  clear hwr hwr3 hown4
  clear cp0 fp0 lp0
  have hg4 := hb4
  have p0_ := hide ((show Box w3 _ _ from p0.out).grow hg4)
  clear p0
  have p0 := p0_
  clear p0_
  have hl := hl.grow hg4
  have HG4 := hide (Grow.trans (show Grow w w3 from HG3.out) hg4)
  clear HG3
  have hsz4 : w.heap.size ≤ w4.heap.size := HG4.out.size
  clear hb4 hg4
  obtain ⟨cp0, fp0, lp0⟩ := (show Box w4 _ _ from p0.out).rules
  go_wp2_with fail
  refine (entry_ok (dataP 5 1 2 1) A1 [104, 105] c1 10 _ hl (by simp) ex10 (by decide) (by decide) hle.1).mono ?_
  rintro r w5 ⟨⟨A5, c5, rfl, hown5⟩, hb5⟩
  have hl5 := hown5.bytes
  clear hown5
  clear cp0 fp0 lp0
  have hg5 := hb5
  have p0_ := hide ((show Box w4 _ _ from p0.out).grow hg5)
  clear p0
  have p0 := p0_
  clear p0_
  have hl := hl.grow hg5
  have hl4 := hl4.grow hg5
  have HG5 := hide (Grow.trans (show Grow w w4 from HG4.out) hg5)
  clear HG4
  have hsz5 : w.heap.size ≤ w5.heap.size := HG5.out.size
  clear hb5 hg5
  obtain ⟨cp0, fp0, lp0⟩ := (show Box w5 _ _ from p0.out).rules
  have vhl4 : ∀ o, (convert 25 9 (.slice A4 3 c4)).run Try.prog (World.alloc w5 o) = .ok (.string ⟨#[2, 104, 105]⟩) (World.alloc w5 o) := fun o => conv_any c4 (hl4.alloc o)
  have vhl5 : ∀ o, (convert 25 9 (.slice A5 2 c5)).run Try.prog (World.alloc w5 o) = .ok (.string ⟨#[104, 105]⟩) (World.alloc w5 o) := fun o => conv_any c5 (hl5.alloc o)
  go_wp2_with fail
  refine (hG.out _ _ _).mono ?_
  rintro r w6 ⟨rfl, hb6⟩
  clear cp0 fp0 lp0
  obtain ⟨x0, hg6⟩ := peel1 hb6
  have p0_ := hide ((show Box w5 _ _ from p0.out).grow hg6)
  clear p0
  have p0 := p0_
  clear p0_
  have x0_ := hide x0
  clear x0
  have x0 := x0_
  clear x0_
  have hl := hl.grow hg6
  have hl4 := hl4.grow hg6
  have hl5 := hl5.grow hg6
  have HG6 := hide (Grow.trans (show Grow w w5 from HG5.out) hg6)
  clear HG5
  have hsz6 : w.heap.size ≤ w6.heap.size := HG6.out.size
  clear hb6 hg6
  obtain ⟨cp0, fp0, lp0⟩ := (show Box w6 _ _ from p0.out).rules
  obtain ⟨cx0, fx0, lx0⟩ := (show Box w6 _ _ from x0.out).rules
  go_wp2
  go_ret
  exact ⟨rfl, HG6.out⟩
end Go.Proofs.Ytldgnallbkpchaa
