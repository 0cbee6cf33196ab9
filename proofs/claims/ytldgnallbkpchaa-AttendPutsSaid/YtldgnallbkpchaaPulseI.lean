/- The walk of the statement PulseGets. -/
import Derived.Test.YtldgnallbkpchaaPulseH
import Derived.Test.YtldgnallbkpchaaDataI
namespace Go.Proofs.Ytldgnallbkpchaa
open Go.RowKit
theorem Bytes.old {w : World} {A : Option Addr} {l : List UInt8} {pr : Nat} (h : Bytes w A l) (hp : w.heap.size ≤ pr) : l ≠ [] → ∀ q, blk A = some q → q ≠ pr := by
  intro hl q hq
  obtain ⟨b, o, rfl, hc⟩ := h hl
  have hb := World.block_lt_of_cell? w _ (hc 0 (List.length_pos_iff.2 hl))
  have hq : b = q := by simpa [blk] using hq
  have hb : b < w.heap.size := hb
  omega
set_option maxRecDepth 100000 in
set_option maxHeartbeats 2000000 in
theorem pulseGets_any (B : Option Addr) (b : List UInt8) (cb : Nat) (p : Pkt) (A : Option Addr) (l : List UInt8) (c : Nat) (w : World) (hbl : b.length ≤ cb) (hb : Bytes w B b) (hl : l.length ≤ c) (hc : c ≤ 9223372036854775807) (hlb : Bytes w A l) :
    Calls Try.prog 21 #[.slice B b.length cb, pv p A l.length c] w fun e w' => e = .returned (.bool true) ∧ Grow w w' := by
  obtain ⟨m, hm⟩ : ∃ m, m = b.take 60 := ⟨_, rfl⟩
  have hmm : m.length = min 60 b.length := by rw [hm, List.length_take]
  have hb := hm ▸ hb.take 60
  have hmin : (if 60 < (b.length : Int) then (60 : Int) else (b.length : Int)) = ((m.length : Nat) : Int) := by split <;> omega
  have hmc : m.length ≤ cb := by omega
  have hmN : m.length ≤ 60 := by omega
  clear hm hmm hbl
  have hl0 := hlb
  go_enter Try.func21, Try.ntmps21
  go_wp2_with (at_builtin; refine wpList_append_fresh byteT rfl (.tmp 11) (.tmp 16) rfl (Own.made' _ (w.heap.size + 1) (w.heap.size + 1) (by simp) (by omega)) (by simp <;> omega) ((hb.alloc _).alloc _) rfl rfl (by omega) ?_)
  intro A1 c1 w1 hown1 hb1
  have hb1 := Grow.trans ((Grow.refl _).alloc _) hb1
  obtain ⟨p0, hg1⟩ := peel1 hb1
  have p0_ := hide p0
  clear p0
  have p0 := p0_
  clear p0_
  have hb := hb.grow hg1
  have hlb := hlb.grow hg1
  have HG1 := hide (show Grow w w1 from hg1)
  have hsz1 : w.heap.size ≤ w1.heap.size := HG1.out.size
  have hq1 : w.heap.size ≤ w1.heap.size := hg1.size
  have HS1 := hide hg1
  clear hb1 hg1
  obtain ⟨cp0, fp0, lp0⟩ := (show Box w1 _ _ from p0.out).rules
  have h1 := hown1.bytes
  have hc1 := hown1.le
  have hlt1 := fun q h => hown1.lt (q := q) h
  clear hown1
  go_wp2_with fail
  refine (read_any A1 m c1 _ h1 (by omega)).mono ?_
  rintro r w2 ⟨N, pr, rfl, hr, hpr, hb2⟩
  have hp1 := lp0
  clear cp0 fp0 lp0
  have hg2 := hb2
  have p0_ := hide ((show Box w1 _ _ from p0.out).grow hg2)
  clear p0
  have p0 := p0_
  clear p0_
  have h1 := h1.grow hg2
  have hlb := hlb.grow hg2
  have HG2 := hide (Grow.trans (show Grow w w1 from HG1.out) hg2)
  clear HG1
  have hsz2 : w.heap.size ≤ w2.heap.size := HG2.out.size
  have hq2 : w1.heap.size ≤ w2.heap.size := hg2.size
  have HS2 := hide hg2
  clear hb2 hg2
  obtain ⟨cp0, fp0, lp0⟩ := (show Box w2 _ _ from p0.out).rules
  have hs1 : ∀ q, blk A1 = some q → q ∉ [pr] := fun q h => by have := hlt1 q h; simp; omega
  have hA := hl0.old (show w.heap.size ≤ pr by omega)
  have hG := hide (fun W h hz => pulseget_any N pr m p A l c W h hz hA hl hc)
  have hR := hide (fun W h => refpulseget_any A1 m c1 p A l c W h hc1.1 hc1.2 hl hc)
  generalize bodyOf (pg m p).2.2 l = l' at *
  generalize pg m p = T at *
  obtain ⟨q, rest, e1⟩ := T
  dsimp only at *
  go_wp2_with fail
  refine (hG.out _ hr hlb).mono ?_
  rintro r w3 ⟨⟨A3, c3, rfl, hc3, hcm3, hx⟩, hr3, hb3⟩
  clear cp0 fp0 lp0
  have hg3 := hb3
  have p0_ := hide ((show Box w2 _ _ from p0.out).kept hg3 (by simp; try omega))
  clear p0
  have p0 := p0_
  clear p0_
  have h1 := h1.kept hg3 hs1
  have HG3 := hide (Kept.fresh1 hg3 (show Grow w w2 from HG2.out) (by omega))
  clear HG2
  have hsz3 : w.heap.size ≤ w3.heap.size := HG3.out.size
  have hq3 : w2.heap.size ≤ w3.heap.size := hg3.size
  have HS3 := hide hg3
  clear hb3 hg3
  obtain ⟨cp0, fp0, lp0⟩ := (show Box w3 _ _ from p0.out).rules
  have hlb := hl0.grow (show Grow w w3 from HG3.out)
  go_wp2_with fail
  refine (hR.out _ (h1.alloc _)).mono ?_
  rintro r w4 ⟨⟨A4, c4, A5, c5, rfl, hc4, hcm4, hy, hc5, hcm5, hrest⟩, hb4⟩
  clear cp0 fp0 lp0
  obtain ⟨x0, hg4⟩ := peel1 hb4
  have p0_ := hide ((show Box w3 _ _ from p0.out).grow hg4)
  clear p0
  have p0 := p0_
  clear p0_
  have x0_ := hide x0
  clear x0
  have x0 := x0_
  clear x0_
  have h1 := h1.grow hg4
  have hlb := hlb.grow hg4
  have hx := hx.grow hg4
  have HG4 := hide (Grow.trans (show Grow w w3 from HG3.out) hg4)
  clear HG3
  have hsz4 : w.heap.size ≤ w4.heap.size := HG4.out.size
  have hq4 : w3.heap.size ≤ w4.heap.size := hg4.size
  have HS4 := hide hg4
  clear hb4 hg4
  obtain ⟨cp0, fp0, lp0⟩ := (show Box w4 _ _ from p0.out).rules
  obtain ⟨cx0, fx0, lx0⟩ := (show Box w4 _ _ from x0.out).rules
  have hy := hy _ hlb
  have HS := hide (fun W h1 h2 => refsame_any q q A3 A4 l' l' c3 c4 W h1 h2)
  rw [sameB_refl, beq_self_eq_true, Bool.true_and] at HS
  have HL := hide (fun W h => left_any N pr (rest, 0) W h)
  dsimp only at HL
  go_wp2_with fail
  refine (HS.out _ (hx.alloc _) (hy.alloc _)).mono ?_
  rintro r w5 ⟨rfl, hb5⟩
  clear cp0 fp0 lp0 cx0 fx0 lx0
  obtain ⟨y0, hg5⟩ := peel1 hb5
  have p0_ := hide ((show Box w4 _ _ from p0.out).grow hg5)
  clear p0
  have p0 := p0_
  clear p0_
  have x0_ := hide ((show Box w4 _ _ from x0.out).grow hg5)
  clear x0
  have x0 := x0_
  clear x0_
  have y0_ := hide y0
  clear y0
  have y0 := y0_
  clear y0_
  have hx := hx.grow hg5
  have hy := hy.grow hg5
  have HG5 := hide (Grow.trans (show Grow w w4 from HG4.out) hg5)
  clear HG4
  have hsz5 : w.heap.size ≤ w5.heap.size := HG5.out.size
  have hq5 : w4.heap.size ≤ w5.heap.size := hg5.size
  have HS5 := hide hg5
  clear hb5 hg5
  obtain ⟨cp0, fp0, lp0⟩ := (show Box w5 _ _ from p0.out).rules
  obtain ⟨cx0, fx0, lx0⟩ := (show Box w5 _ _ from x0.out).rules
  obtain ⟨cy0, fy0, ly0⟩ := (show Box w5 _ _ from y0.out).rules
  by_cases he : e1 = 0
  · have hr5 := ((hr3 he).grow (show Grow w3 w4 from HS4.out)).grow (show Grow w4 w5 from HS5.out)
    subst he
    go_wp2_with fail
    refine (HL.out _ hr5).mono ?_
    rintro r w' ⟨rfl, rfl⟩
    go_wp2_with fail
    refine (works11_any _).mono ?_
    rintro r w6 ⟨rfl, hb6⟩
    clear cp0 fp0 lp0 cx0 fx0 lx0 cy0 fy0 ly0
    have hg6 := hb6
    have p0_ := hide ((show Box w5 _ _ from p0.out).grow hg6)
    clear p0
    have p0 := p0_
    clear p0_
    have x0_ := hide ((show Box w5 _ _ from x0.out).grow hg6)
    clear x0
    have x0 := x0_
    clear x0_
    have y0_ := hide ((show Box w5 _ _ from y0.out).grow hg6)
    clear y0
    have y0 := y0_
    clear y0_
    have hx := hx.grow hg6
    have hy := hy.grow hg6
    have HG6 := hide (Grow.trans (show Grow w w5 from HG5.out) hg6)
    clear HG5
    have hsz6 : w.heap.size ≤ w6.heap.size := HG6.out.size
    have hq6 : w5.heap.size ≤ w6.heap.size := hg6.size
    have HS6 := hide hg6
    clear hb6 hg6
    obtain ⟨cp0, fp0, lp0⟩ := (show Box w6 _ _ from p0.out).rules
    obtain ⟨cx0, fx0, lx0⟩ := (show Box w6 _ _ from x0.out).rules
    obtain ⟨cy0, fy0, ly0⟩ := (show Box w6 _ _ from y0.out).rules
    go_wp2
    go_ret
    exact ⟨rfl, HG6.out⟩
  · have he' : (e1 != 0) = true := by simpa using he
    clear he hr3
    go_wp2_with fail
    refine (works11_any _).mono ?_
    rintro r w6 ⟨rfl, hb6⟩
    clear cp0 fp0 lp0 cx0 fx0 lx0 cy0 fy0 ly0
    have hg6 := hb6
    have p0_ := hide ((show Box w5 _ _ from p0.out).grow hg6)
    clear p0
    have p0 := p0_
    clear p0_
    have x0_ := hide ((show Box w5 _ _ from x0.out).grow hg6)
    clear x0
    have x0 := x0_
    clear x0_
    have y0_ := hide ((show Box w5 _ _ from y0.out).grow hg6)
    clear y0
    have y0 := y0_
    clear y0_
    have hx := hx.grow hg6
    have hy := hy.grow hg6
    have HG6 := hide (Grow.trans (show Grow w w5 from HG5.out) hg6)
    clear HG5
    have hsz6 : w.heap.size ≤ w6.heap.size := HG6.out.size
    have hq6 : w5.heap.size ≤ w6.heap.size := hg6.size
    have HS6 := hide hg6
    clear hb6 hg6
    obtain ⟨cp0, fp0, lp0⟩ := (show Box w6 _ _ from p0.out).rules
    obtain ⟨cx0, fx0, lx0⟩ := (show Box w6 _ _ from x0.out).rules
    obtain ⟨cy0, fy0, ly0⟩ := (show Box w6 _ _ from y0.out).rules
    go_wp2
    go_ret
    exact ⟨rfl, HG6.out⟩
end Go.Proofs.Ytldgnallbkpchaa
