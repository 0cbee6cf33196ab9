/- The walk of the statement FateGets. -/
import Derived.Test.YtcghgahohmabnaaFtT
namespace Go.Proofs.Ytcghgahohmabnaa
open Go.RowKit
set_option maxRecDepth 100000 in
set_option maxHeartbeats 2000000 in
theorem fateGets_any (B : Option Addr) (b : List UInt8) (cb : Nat) (w : World) (hbl : b.length ≤ cb) (_hbc : cb ≤ 9223372036854775807) (hb : Bytes w B b) :
    Calls Try.prog 15 #[.slice B b.length cb] w fun e w' => e = .returned (.bool true) ∧ Grow w w' := by
  obtain ⟨m, hm⟩ : ∃ m, m = b.take 30 := ⟨_, rfl⟩
  have hmm : m.length = min 30 b.length := by rw [hm, List.length_take]
  have hb := hm ▸ hb.take 30
  have hmin : (if 30 < (b.length : Int) then (30 : Int) else (b.length : Int)) = ((m.length : Nat) : Int) := by split <;> omega
  have hmc : m.length ≤ cb := by omega
  have hmN : m.length ≤ 30 := by omega
  clear hm hmm hbl
  go_enter Try.func15, Try.ntmps15
  go_wp2_with (at_builtin; refine wpList_append_fresh byteT rfl (.tmp 9) (.tmp 14) rfl (Own.made' _ (w.heap.size) (w.heap.size) (by simp) (by omega)) (by simp <;> omega) (hb.alloc _) rfl rfl (by omega) ?_)
  intro A1 c1 w1 hown1 hb1
  have hb1 := Grow.trans ((Grow.refl _).alloc _) hb1
  have hg1 := hb1
  have hb := hb.grow hg1
  have HG1 := hide (show Grow w w1 from hg1)
  have hsz1 : w.heap.size ≤ w1.heap.size := HG1.out.size
  have hq1 : w.heap.size ≤ w1.heap.size := hg1.size
  have HS1 := hide hg1
  clear hb1 hg1
  have h1 := hown1.bytes
  have hc1 := hown1.le
  have hlt1 := fun q h => hown1.lt (q := q) h
  clear hown1 hb
  go_wp2_with fail
  refine (read_any A1 m c1 _ h1 (by omega)).mono ?_
  rintro r w2 ⟨N, pr, rfl, hr, hpr, hb2⟩
  have hg2 := hb2
  have h1 := h1.grow hg2
  have HG2 := hide (Grow.trans (show Grow w w1 from HG1.out) hg2)
  clear HG1
  have hsz2 : w.heap.size ≤ w2.heap.size := HG2.out.size
  have hq2 : w1.heap.size ≤ w2.heap.size := hg2.size
  have HS2 := hide hg2
  clear hb2 hg2
  have hs1 : ∀ q, blk A1 = some q → q ∉ [pr] := fun q h => by have := hlt1 q h; simp; omega
  have hG := hide (fun W h => fget_any N pr m W h)
  have hR := hide (fun W h => reffget_any A1 m c1 W h hc1.1 hc1.2)
  generalize fg m = T at *
  obtain ⟨q, rest, e1⟩ := T
  dsimp only at *
  go_wp2_with fail
  refine (hG.out _ hr).mono ?_
  rintro r w3 ⟨rfl, hr3, hb3⟩
  have hg3 := hb3
  have h1 := h1.kept hg3 hs1
  have HG3 := hide (Kept.fresh1 hg3 (show Grow w w2 from HG2.out) (by omega))
  clear HG2
  have hsz3 : w.heap.size ≤ w3.heap.size := HG3.out.size
  have hq3 : w2.heap.size ≤ w3.heap.size := hg3.size
  have HS3 := hide hg3
  clear hb3 hg3
  go_wp2_with fail
  refine (hR.out _ (h1.alloc _)).mono ?_
  rintro r w4 ⟨⟨A4, c4, rfl⟩, hb4⟩
  obtain ⟨x0, hg4⟩ := peel1 hb4
  have x0_ := hide x0
  clear x0
  have x0 := x0_
  clear x0_
  have h1 := h1.grow hg4
  have HG4 := hide (Grow.trans (show Grow w w3 from HG3.out) hg4)
  clear HG3
  have hsz4 : w.heap.size ≤ w4.heap.size := HG4.out.size
  have hq4 : w3.heap.size ≤ w4.heap.size := hg4.size
  have HS4 := hide hg4
  clear hb4 hg4
  obtain ⟨cx0, fx0, lx0⟩ := (show Box w4 _ _ from x0.out).rules
  have HL := hide (fun W h => left_any N pr (rest, 0) W h)
  dsimp only at HL
  by_cases he : e1 = 0
  · have hr5 := (hr3 he).grow (show Grow w3 w4 from HS4.out)
    subst he
    go_wp2_with fail
    refine (HL.out _ (hr5.grow ((Grow.refl w4).alloc _))).mono ?_
    rintro r w' ⟨rfl, rfl⟩
    go_wp2_with fail
    refine (works45_any _).mono ?_
    rintro r w6 ⟨rfl, hb6⟩
    clear cx0 fx0 lx0
    obtain ⟨z0, hg6⟩ := peel1 hb6
    have x0_ := hide ((show Box w4 _ _ from x0.out).grow hg6)
    clear x0
    have x0 := x0_
    clear x0_
    have z0_ := hide z0
    clear z0
    have z0 := z0_
    clear z0_
    have h1 := h1.grow hg6
    have HG6 := hide (Grow.trans (show Grow w w4 from HG4.out) hg6)
    clear HG4
    have hsz6 : w.heap.size ≤ w6.heap.size := HG6.out.size
    have hq6 : w4.heap.size ≤ w6.heap.size := hg6.size
    have HS6 := hide hg6
    clear hb6 hg6
    obtain ⟨cx0, fx0, lx0⟩ := (show Box w6 _ _ from x0.out).rules
    obtain ⟨cz0, fz0, lz0⟩ := (show Box w6 _ _ from z0.out).rules
    go_wp2
    go_ret
    exact ⟨rfl, HG6.out⟩
  · have he' : (e1 != 0) = true := by simpa using he
    have he2 : (e1 == 0) = false := by simpa using he
    clear he hr3
    go_wp2_with fail
    refine (works45_any _).mono ?_
    rintro r w6 ⟨rfl, hb6⟩
    clear cx0 fx0 lx0
    obtain ⟨z0, hg6⟩ := peel1 hb6
    have x0_ := hide ((show Box w4 _ _ from x0.out).grow hg6)
    clear x0
    have x0 := x0_
    clear x0_
    have z0_ := hide z0
    clear z0
    have z0 := z0_
    clear z0_
    have h1 := h1.grow hg6
    have HG6 := hide (Grow.trans (show Grow w w4 from HG4.out) hg6)
    clear HG4
    have hsz6 : w.heap.size ≤ w6.heap.size := HG6.out.size
    have hq6 : w4.heap.size ≤ w6.heap.size := hg6.size
    have HS6 := hide hg6
    clear hb6 hg6
    obtain ⟨cx0, fx0, lx0⟩ := (show Box w6 _ _ from x0.out).rules
    obtain ⟨cz0, fz0, lz0⟩ := (show Box w6 _ _ from z0.out).rules
    go_wp2
    go_ret
    exact ⟨rfl, HG6.out⟩
end Go.Proofs.Ytcghgahohmabnaa
