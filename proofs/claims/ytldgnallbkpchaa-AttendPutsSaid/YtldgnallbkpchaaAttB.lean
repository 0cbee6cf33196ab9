/- The walks of the example of chapter 12, and of the statement AttendDue. -/
import Derived.Test.YtldgnallbkpchaaWho
namespace Go.Proofs.Ytldgnallbkpchaa
open Go.RowKit
def ex12 : Pkt := attP 30 2 4 1 3
theorem ex12_good : attB ex12 [] = true := by decide
theorem ex12_S : Buf.wput 9 (0, []) (Buf.sevens (u64of 3)) = (0, [3]) := by decide +kernel
theorem Pks.one {w : World} {g : Nat} {p : Pkt} (h : Box w g (pcells p none 0 0)) : Pks w (some ⟨g, 0, none⟩) [⟨p, none, [], 0⟩] := by
  intro _
  refine ⟨g, 0, rfl, fun k hk => ?_⟩
  obtain rfl : k = 0 := by simpa using hk
  exact ⟨fun i _ => by simpa using h.cell i, Bytes.nil _ _⟩
theorem ex12_who : whoOf 3 [⟨ex12, none, [], 0⟩] = 4 := by decide
set_option maxRecDepth 100000 in
set_option maxHeartbeats 2000000 in
theorem works12_any (w : World) : Calls Try.prog 101 #[] w fun e w' => e = .returned (.bool true) ∧ Grow w w' := by
  have hG := hide (fun W => attgood_any ex12 none [] 0 W (Bytes.nil _ _))
  rw [ex12_good] at hG
  have hD := hide (fun W => due_any 3 10 W (hide (by decide)) (hide (by decide)))
  rw [show dueR 3 10 = .tuple #[.int .i64 30, .bool true] from rfl] at hD
  have hW := hide (fun A W (h : Pks W A [⟨ex12, none, [], 0⟩]) => who_any 3 A [⟨ex12, none, [], 0⟩] 1 W h (by simp))
  rw [ex12_who] at hW
  go_enter Try.func101, Try.ntmps101
  go_wp2_with fail
  refine (attnew_any 30 2 4 3 _).mono ?_
  rintro r w1 ⟨rfl, hb1⟩
  have hg1 := hb1
  have HG1 := hide (show Grow w w1 from hg1)
  have hsz1 : w.heap.size ≤ w1.heap.size := HG1.out.size
  have hq1 : w.heap.size ≤ w1.heap.size := hg1.size
  have HS1 := hide hg1
  clear hb1 hg1
  go_wp2_with fail
  refine (new_at 9 (w1.heap.size + 1) _ (by decide) (by decide) (by simp)).mono ?_
  rintro r w2 ⟨rfl, hwr, hb2⟩
  obtain ⟨p0, hg2⟩ := peel1 hb2
  have p0_ := hide p0
  clear p0
  have p0 := p0_
  clear p0_
  have HG2 := hide (Grow.trans (show Grow w w1 from HG1.out) hg2)
  clear HG1
  have hsz2 : w.heap.size ≤ w2.heap.size := HG2.out.size
  have hq2 : w1.heap.size ≤ w2.heap.size := hg2.size
  have HS2 := hide hg2
  clear hb2 hg2
  obtain ⟨cp0, fp0, lp0⟩ := (show Box w2 _ _ from p0.out).rules
  go_wp2_with fail
  refine (attput_any _ _ none 0 0 [] 9 ex12 none 0 0 _ hwr (by simp) (by have := hwr.lt; omega)).mono ?_
  rw [show ex12.no = 3 from rfl, ex12_S]
  rintro r w3 ⟨rfl, A3, c3, hwr3, hb3, _⟩
  simp only [foot, blk, Option.map_none, Option.toList_none] at hb3
  clear cp0 fp0 lp0
  have hg3 := hb3
  have p0_ := hide ((show Box w2 _ _ from p0.out).kept hg3 (by simp; try omega))
  clear p0
  have p0 := p0_
  clear p0_
  have HG3 := hide (Kept.fresh1 hg3 (show Grow w w2 from HG2.out) (by omega))
  clear HG2
  have hsz3 : w.heap.size ≤ w3.heap.size := HG3.out.size
  have hq3 : w2.heap.size ≤ w3.heap.size := hg3.size
  have HS3 := hide hg3
  clear hb3 hg3
  obtain ⟨cp0, fp0, lp0⟩ := (show Box w3 _ _ from p0.out).rules
  go_wp2_with fail
  refine (done_ok _ _ A3 c3 _ 9 _ hwr3 (by simp)).mono ?_
  rintro r w4 ⟨A4, c4, rfl, hown4, hb4⟩
  have hl4 := hown4.bytes
  clear hwr hwr3 hown4
  clear cp0 fp0 lp0
  have hg4 := hb4
  have p0_ := hide ((show Box w3 _ _ from p0.out).grow hg4)
  clear p0
  have p0 := p0_
  clear p0_
  have HG4 := hide (Grow.trans (show Grow w w3 from HG3.out) hg4)
  clear HG3
  have hsz4 : w.heap.size ≤ w4.heap.size := HG4.out.size
  have hq4 : w3.heap.size ≤ w4.heap.size := hg4.size
  have HS4 := hide hg4
  clear hb4 hg4
  obtain ⟨cp0, fp0, lp0⟩ := (show Box w4 _ _ from p0.out).rules
  go_wp2_with fail
  refine (hD.out _).mono ?_
  rintro r w5 ⟨rfl, hb5⟩
  clear cp0 fp0 lp0
  have hg5 := hb5
  have p0_ := hide ((show Box w4 _ _ from p0.out).grow hg5)
  clear p0
  have p0 := p0_
  clear p0_
  have hl4 := hl4.grow hg5
  have HG5 := hide (Grow.trans (show Grow w w4 from HG4.out) hg5)
  clear HG4
  have hsz5 : w.heap.size ≤ w5.heap.size := HG5.out.size
  have hq5 : w4.heap.size ≤ w5.heap.size := hg5.size
  have HS5 := hide hg5
  clear hb5 hg5
  obtain ⟨cp0, fp0, lp0⟩ := (show Box w5 _ _ from p0.out).rules
  have vl4 := (show (convert 25 9 (.slice A4 1 c4)).run Try.prog w5 = .ok (.string ⟨#[3]⟩) w5 from conv_any c4 hl4)
  go_wp2_with fail
  refine (hG.out _).mono ?_
  rintro r w6 ⟨rfl, hb6⟩
  clear cp0 fp0 lp0
  have hg6 := hb6
  have p0_ := hide ((show Box w5 _ _ from p0.out).grow hg6)
  clear p0
  have p0 := p0_
  clear p0_
  have hl4 := hl4.grow hg6
  have HG6 := hide (Grow.trans (show Grow w w5 from HG5.out) hg6)
  clear HG5
  have hsz6 : w.heap.size ≤ w6.heap.size := HG6.out.size
  have hq6 : w5.heap.size ≤ w6.heap.size := hg6.size
  have HS6 := hide hg6
  clear hb6 hg6
  obtain ⟨cp0, fp0, lp0⟩ := (show Box w6 _ _ from p0.out).rules
  go_wp2_with fail
  refine (hW.out _ _ (Pks.one (Box.new w6 (pcells ex12 none 0 0) 65 rfl))).mono ?_
  rintro r w7 ⟨rfl, hb7⟩
  clear cp0 fp0 lp0
  obtain ⟨x0, hg7⟩ := peel1 hb7
  have p0_ := hide ((show Box w6 _ _ from p0.out).grow hg7)
  clear p0
  have p0 := p0_
  clear p0_
  have x0_ := hide x0
  clear x0
  have x0 := x0_
  clear x0_
  have hl4 := hl4.grow hg7
  have HG7 := hide (Grow.trans (show Grow w w6 from HG6.out) hg7)
  clear HG6
  have hsz7 : w.heap.size ≤ w7.heap.size := HG7.out.size
  have hq7 : w6.heap.size ≤ w7.heap.size := hg7.size
  have HS7 := hide hg7
  clear hb7 hg7
  obtain ⟨cp0, fp0, lp0⟩ := (show Box w7 _ _ from p0.out).rules
  obtain ⟨cx0, fx0, lx0⟩ := (show Box w7 _ _ from x0.out).rules
  go_wp2
  go_ret
  exact ⟨rfl, HG7.out⟩
set_option maxRecDepth 100000 in
set_option maxHeartbeats 2000000 in
theorem attendDue_any (n e : Int) (w : World) (hn : n ≤ 9223372036854775807) (he : e ≤ 9223372036854775807) : Calls Try.prog 25 #[.int .i64 n, .int .i64 e] w fun e w' => e = .returned (.bool true) ∧ Grow w w' := by
  have hD := hide (fun W => due_any n e W (hide hn) (hide he))
  have hR := hide (fun W => refdue_any n e W)
  clear hn he
  cases hb : dueB n e with
  | true =>
    rw [dueR_yes hb] at hD hR
    clear hb
    go_enter Try.func25, Try.ntmps25
    go_wp2_with fail
    refine (hD.out _).mono ?_
    rintro r w1 ⟨rfl, hb1⟩
    have hg1 := hb1
    have HG1 := hide (show Grow w w1 from hg1)
    have hsz1 : w.heap.size ≤ w1.heap.size := HG1.out.size
    have hq1 : w.heap.size ≤ w1.heap.size := hg1.size
    have HS1 := hide hg1
    clear hb1 hg1
    go_wp2_with fail
    refine (hR.out _).mono ?_
    rintro r w2 ⟨rfl, hb2⟩
    have hg2 := hb2
    have HG2 := hide (Grow.trans (show Grow w w1 from HG1.out) hg2)
    clear HG1
    have hsz2 : w.heap.size ≤ w2.heap.size := HG2.out.size
    have hq2 : w1.heap.size ≤ w2.heap.size := hg2.size
    have HS2 := hide hg2
    clear hb2 hg2
    go_wp2_with fail
    refine (works12_any _).mono ?_
    rintro r w3 ⟨rfl, hb3⟩
    have hg3 := hb3
    have HG3 := hide (Grow.trans (show Grow w w2 from HG2.out) hg3)
    clear HG2
    have hsz3 : w.heap.size ≤ w3.heap.size := HG3.out.size
    have hq3 : w2.heap.size ≤ w3.heap.size := hg3.size
    have HS3 := hide hg3
    clear hb3 hg3
    go_wp2
    go_ret
    exact ⟨rfl, HG3.out⟩
  | false =>
    rw [dueR_no hb] at hD hR
    clear hb
    go_enter Try.func25, Try.ntmps25
    go_wp2_with fail
    refine (hD.out _).mono ?_
    rintro r w1 ⟨rfl, hb1⟩
    have hg1 := hb1
    have HG1 := hide (show Grow w w1 from hg1)
    have hsz1 : w.heap.size ≤ w1.heap.size := HG1.out.size
    have hq1 : w.heap.size ≤ w1.heap.size := hg1.size
    have HS1 := hide hg1
    clear hb1 hg1
    go_wp2_with fail
    refine (hR.out _).mono ?_
    rintro r w2 ⟨rfl, hb2⟩
    have hg2 := hb2
    have HG2 := hide (Grow.trans (show Grow w w1 from HG1.out) hg2)
    clear HG1
    have hsz2 : w.heap.size ≤ w2.heap.size := HG2.out.size
    have hq2 : w1.heap.size ≤ w2.heap.size := hg2.size
    have HS2 := hide hg2
    clear hb2 hg2
    go_wp2_with fail
    refine (works12_any _).mono ?_
    rintro r w3 ⟨rfl, hb3⟩
    have hg3 := hb3
    have HG3 := hide (Grow.trans (show Grow w w2 from HG2.out) hg3)
    clear HG2
    have hsz3 : w.heap.size ≤ w3.heap.size := HG3.out.size
    have hq3 : w2.heap.size ≤ w3.heap.size := hg3.size
    have HS3 := hide hg3
    clear hb3 hg3
    go_wp2
    go_ret
    exact ⟨rfl, HG3.out⟩
end Go.Proofs.Ytldgnallbkpchaa
