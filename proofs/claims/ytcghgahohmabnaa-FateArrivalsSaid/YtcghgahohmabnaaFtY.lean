/- The walk of the statement FateArrivals. -/
import Derived.Test.YtcghgahohmabnaaFtX
import Derived.Test.YtcghgahohmabnaaFtL
import Derived.Test.YtcghgahohmabnaaRdX
import Derived.Test.YtcghgahohmabnaaFrmF
namespace Go.Proofs.Ytcghgahohmabnaa
open Go.ChangeShapes Go.WideShapes Go.ChangeAt Go.RowKit
theorem Kept.freshO {w w1 w2 : World} {A : Option Addr} (hk : Kept w1.heap.size (blk A).toList w1 w2) (hg : Grow w w1) (hA : ∀ q, blk A = some q → w.heap.size ≤ q) : Grow w w2 :=
  Below.trans hg (Kept.to_below (hk.mono hg.size (fun k hk hm => by have := hA k (by simpa using hm); omega)))
theorem u8_u8of (x : Int) : u8 (u8of x) = .int .u8 (IntKind.u8.wrap x) := byte_val _ (u8w_bounds x).1 (u8w_bounds x).2
theorem u32_wf {x : Int} (h : (Lit.int .u32 x).wf = true) : 0 ≤ x ∧ x < 4294967296 := by
  have := bounds_u32 h
  omega
theorem arrOf_len (f : Fate) (l : List UInt8) : (arrOf f l).length ≤ 2 := by
  unfold arrOf
  by_cases h1 : fateB f = false ∨ f.kind = 1
  · rw [if_pos h1]; simp
  · rw [if_neg h1]
    by_cases h3 : f.kind = 3
    · rw [if_pos h3]; simp
    · rw [if_neg h3]
      by_cases h2 : f.kind = 2
      · rw [if_pos h2]; simp
      · rw [if_neg h2]; simp
set_option maxRecDepth 100000 in
set_option maxHeartbeats 8000000 in
theorem fateArrivals_any (f : Fate) (B : Option Addr) (b : List UInt8) (cb : Nat) (w : World) (hp : 0 ≤ f.pos ∧ f.pos < 4294967296) (hq : 0 ≤ f.bits ∧ f.bits < 4294967296) (hbl : b.length ≤ cb) (_hbc : cb ≤ 9223372036854775807) (hb : Bytes w B b) :
    Calls Try.prog 12 #[fv f, .slice B b.length cb] w fun e w' => e = .returned (.bool true) ∧ Grow w w' := by
  obtain ⟨m, hm⟩ : ∃ m, m = b.take 200 := ⟨_, rfl⟩
  have hmm : m.length = min 200 b.length := by rw [hm, List.length_take]
  have hb := hm ▸ hb.take 200
  have hmin : (if 200 < (b.length : Int) then (200 : Int) else (b.length : Int)) = ((m.length : Nat) : Int) := by split <;> omega
  have hmc : m.length ≤ cb := by omega
  have hmN : m.length ≤ 200 := by omega
  clear hm hmm hbl
  have HA := hide (fun A c W h => farr_any f A m c W h (by omega) hp.1 hp.2 hq.1 hq.2)
  have HR := hide (fun A c W N h1 h2 h3 => refarr_any f A m c W N h1 h2 h3 (by omega) hp.1 hp.2 hq.1 hq.2)
  have hLn : (arrOf f m).length ≤ 2 := arrOf_len f m
  generalize arrOf f m = L at *
  clear hp hq
  go_enter Try.func12, Try.ntmps12
  go_wp2_with (at_builtin; refine wpList_append_fresh byteT rfl (.tmp 9) (.tmp 14) rfl (Own.made' _ (w.heap.size) (w.heap.size + 1) (by simp) (by omega)) (by simp <;> omega) ((hb.alloc _).alloc _) rfl rfl (by omega) ?_)
  intro A1 c1 w1 hown1 hb1
  have hb1 := Grow.trans ((Grow.refl _).alloc _) hb1
  obtain ⟨p0, hg1⟩ := peel1 hb1
  have p0_ := hide p0
  clear p0
  have p0 := p0_
  clear p0_
  have hb := hb.grow hg1
  have HG1 := hide (show Grow w w1 from hg1)
  have hsz1 : w.heap.size ≤ w1.heap.size := HG1.out.size
  have hq1 : w.heap.size ≤ w1.heap.size := hg1.size
  have HS1 := hide hg1
  clear hb1 hg1
  obtain ⟨cp0, fp0, lp0⟩ := (show Box w1 _ _ from p0.out).rules
  have h1 := hown1.bytes
  have hc1 := hown1.le
  have hge1 := fun q h => hown1.base (q := q) h
  have hlt1 := fun q h => hown1.lt (q := q) h
  clear hb
  go_wp2_with fail
  have Rp0 := fun (W : World) (h : Grow w1.drew W) => ((show Box w1 _ _ from p0.out).grow (Grow.of_drew h)).cell
  have Fp0 := fun (W : World) (h : Grow w1.drew W) => ((show Box w1 _ _ from p0.out).grow (Grow.of_drew h)).fz
  refine wpR_region (Grow) [] (by kernel_rfl) ?_
  refine wpR_take grow_rf grow_tr 0 rfl (by kernel_rfl) (fun _ _ _ h => h) rfl (v := ?_) ?_ ?_
  rotate_left
  · (intro w' hG; go_simp; try with_reducible rfl)
  try simp only [Act.put, List.setIfInBounds_toArray, List.set_cons_zero, List.set_cons_succ]
  refine wpR_take grow_rf grow_tr 2 rfl (by kernel_rfl) (fun _ _ _ h => h) rfl (v := ?_) ?_ ?_
  rotate_left
  · (intro w' hG; go_simp; try with_reducible rfl)
  try simp only [Act.put, List.setIfInBounds_toArray, List.set_cons_zero, List.set_cons_succ]
  refine wpR_call 1 rfl (by kernel_rfl) rfl fun K hK => ?_
  go_simp
  skip
  refine hK.out _ _ (.inr (by exact (Grow.refl (World.drew w1)).alloc (.cells #[] 5))) ?_
  clear hK
  try simp only [Act.put, List.setIfInBounds_toArray, List.set_cons_zero, List.set_cons_succ]
  clear Rp0 Fp0
  have ho0 := Own.made' w1 (w1.heap.size) w1.heap.size rfl (by omega)
  have hb2 := ((Grow.refl w1).alloc (.cells #[] 5)).drew
  have ho0 := Own.drew ho0
  generalize World.drew (World.alloc w1 _) = w2 at *
  clear cp0 fp0 lp0
  have hg2 := hb2
  have p0_ := hide ((show Box w1 _ _ from p0.out).grow hg2)
  clear p0
  have p0 := p0_
  clear p0_
  have h1 := h1.grow hg2
  have HG2 := hide (Grow.trans (show Grow w w1 from HG1.out) hg2)
  clear HG1
  have hsz2 : w.heap.size ≤ w2.heap.size := HG2.out.size
  have hq2 : w1.heap.size ≤ w2.heap.size := hg2.size
  have HS2 := hide hg2
  clear hb2 hg2
  obtain ⟨cp0, fp0, lp0⟩ := (show Box w2 _ _ from p0.out).rules
  have Rp0 := fun (W : World) (h : Grow w2 W) => ((show Box w2 _ _ from p0.out).grow h).cell
  have Fp0 := fun (W : World) (h : Grow w2 W) => ((show Box w2 _ _ from p0.out).grow h).fz
  refine wpR_call 3 rfl (by kernel_rfl) rfl fun K hK => ?_
  refine oper_append_fresh byteT (.tmp 17) (.tmp 18) rfl ho0 (by omega) h1 rfl rfl (by omega) ?_
  intro A3 c3 w3 hown2 hb3
  refine hK.out _ _ (.inr (hb3)) ?_
  clear hK
  try simp only [Act.put, List.setIfInBounds_toArray, List.set_cons_zero, List.set_cons_succ]
  clear Rp0 Fp0
  clear cp0 fp0 lp0
  have hg3 := hb3
  have p0_ := hide ((show Box w2 _ _ from p0.out).grow hg3)
  clear p0
  have p0 := p0_
  clear p0_
  have h1 := h1.grow hg3
  have HG3 := hide (Grow.trans (show Grow w w2 from HG2.out) hg3)
  clear HG2
  have hsz3 : w.heap.size ≤ w3.heap.size := HG3.out.size
  have hq3 : w2.heap.size ≤ w3.heap.size := hg3.size
  have HS3 := hide hg3
  clear hb3 hg3
  obtain ⟨cp0, fp0, lp0⟩ := (show Box w3 _ _ from p0.out).rules
  have Rp0 := fun (W : World) (h : Grow w3 W) => ((show Box w3 _ _ from p0.out).grow h).cell
  have Fp0 := fun (W : World) (h : Grow w3 W) => ((show Box w3 _ _ from p0.out).grow h).fz
  refine wpR_call 4 rfl (by kernel_rfl) rfl fun K hK => ?_
  go_simp
  have h2 := hown2.bytes
  have hge2 := fun q h => hown2.base (q := q) h
  clear hown2
  refine (HR.out A3 c3 _ w1.heap.size (by omega) h2 hge2).mono ?_
  rintro r w4 ⟨⟨v4, rfl, ha4⟩, hb4⟩
  refine hK.out _ _ (.inr (hb4)) ?_
  clear hK
  try simp only [Act.put, List.setIfInBounds_toArray, List.set_cons_zero, List.set_cons_succ]
  clear Rp0 Fp0
  clear cp0 fp0 lp0
  have hg4 := hb4
  have p0_ := hide ((show Box w3 _ _ from p0.out).grow hg4)
  clear p0
  have p0 := p0_
  clear p0_
  have h1 := h1.grow hg4
  have HG4 := hide (Grow.trans (show Grow w w3 from HG3.out) hg4)
  clear HG3
  have hsz4 : w.heap.size ≤ w4.heap.size := HG4.out.size
  have hq4 : w3.heap.size ≤ w4.heap.size := hg4.size
  have HS4 := hide hg4
  clear hb4 hg4
  obtain ⟨cp0, fp0, lp0⟩ := (show Box w4 _ _ from p0.out).rules
  have Rp0 := fun (W : World) (h : Grow w4 W) => ((show Box w4 _ _ from p0.out).grow h).cell
  have Fp0 := fun (W : World) (h : Grow w4 W) => ((show Box w4 _ _ from p0.out).grow h).fz
  refine wpR_take grow_rf grow_tr 5 rfl (by kernel_rfl) (fun _ _ _ h => h) rfl (v := ?_) ?_ ?_
  rotate_left
  · (intro w' hG; go_simp; try with_reducible rfl)
  try simp only [Act.put, List.setIfInBounds_toArray, List.set_cons_zero, List.set_cons_succ]
  refine wpR_done (by kernel_rfl) ?_ _
  clear Rp0 Fp0
  clear cp0 fp0 lp0
  obtain ⟨cp0, fp0, lp0⟩ := (show Box w4 _ _ from p0.out).rules
  go_wp2_with fail
  refine (HA.out A1 c1 _ h1).mono ?_
  rintro r w5 ⟨⟨v5, rfl, ha5⟩, hb5⟩
  have ha4 := ha4.grow hb5
  have ha5 := ha5.mono (show w1.heap.size ≤ w4.heap.size by omega)
  clear cp0 fp0 lp0
  have hg5 := hb5
  have p0_ := hide ((show Box w4 _ _ from p0.out).grow hg5)
  clear p0
  have p0 := p0_
  clear p0_
  have h1 := h1.grow hg5
  have HG5 := hide (Grow.trans (show Grow w w4 from HG4.out) hg5)
  clear HG4
  have hsz5 : w.heap.size ≤ w5.heap.size := HG5.out.size
  have hq5 : w4.heap.size ≤ w5.heap.size := hg5.size
  have HS5 := hide hg5
  clear hb5 hg5
  obtain ⟨cp0, fp0, lp0⟩ := (show Box w5 _ _ from p0.out).rules
  have hown1 := hown1.below (show Below w1.heap.size w1 w5 from Below.trans HS2.out (Below.mono (Below.trans HS3.out (Below.mono (Below.trans HS4.out (Below.mono HS5.out hq4)) hq3)) hq2))
  have ha4 := hide ha4
  have ha5 := hide ha5
  obtain ⟨A4, c4, hv4, hx4⟩ := ha4.out
  obtain ⟨A5, c5, hv5, hx5⟩ := ha5.out
  subst hv4
  subst hv5
  clear hx4 hx5
  clear cp0 fp0 lp0
  clear p0
  have hk0 := Kept.refl w5.heap.size (blk A1).toList w5
  clear h1 HA HR
  go_wp2
  go_loopw [26] (fun i wr => ∃ (k : Nat) (l' : List UInt8), k ≤ m.length ∧ i = .int .i64 k ∧ l'.length = m.length ∧ Own wr w.heap.size A1 c1 l' ∧ Kept w5.heap.size (blk A1).toList w5 wr) (fun i _ => m.length - (intOf i).toNat)
  case atStart => exact ⟨0, m, by omega, rfl, rfl, hown1, hk0⟩
  case round =>
    obtain ⟨k, l', hk, rfl, hll, hown, hK⟩ := hrel
    clear hown1 hk0
    by_cases hlt : k < m.length
    · obtain ⟨g, rfl⟩ : ∃ g, A1 = some ⟨g, 0, none⟩ := by
        rcases hown.form with ⟨_, h0, _⟩ | ⟨g, hA, _⟩
        · rw [h0] at hll; simp at hll; omega
        · exact ⟨g, hA⟩
      have hcell := hown.cell k (by omega)
      have hfr := hown.frozen k
      obtain ⟨x, HX⟩ : ∃ x : UInt8, Hid (x = l'[k]'(by omega)) := ⟨_, hide rfl⟩
      rw [← HX.out] at hcell
      have hx8 := u8_lt x
      have hset := hown.set k (u8of ((x.toNat : Int) + 1))
      rw [u8_u8of, IntKind.wrap_u8] at hset
      clear HX hge1 hlt1
      go_wp2
      go_roundw
      case rel => exact ⟨k + 1, l'.set k _, by omega, by go_num, by rw [List.length_set]; exact hll, hset, hK.setCell (p := ⟨g, k, none⟩) (.inr (by simp [blk])) _⟩
      case measure => simp [intOf]; omega
    · have hkm : k = m.length := by omega
      subst hkm
      have HGr := hide (Kept.freshO hK HG5.out (fun q h => by have := hge1 q h; omega))
      have hszr : w.heap.size ≤ wr.heap.size := HGr.out.size
      have ha4 := hide (ha4.out.kept hK (fun q h => hlt1 q (by simpa using h)))
      have ha5 := hide (ha5.out.kept hK (fun q h => hlt1 q (by simpa using h)))
      clear hK hown hlt hge1 hlt1 hge2
      obtain ⟨w6, hw6⟩ : ∃ x, x = wr := ⟨_, rfl⟩
      subst hw6
      go_wp2
      have hg0 := Grow.refl w6
      go_loopw [43] (fun i ws => ∃ k : Nat, k ≤ L.length ∧ i = .int .i64 k ∧ Grow w6 ws) (fun i _ => L.length - (intOf i).toNat)
      case atStart => exact ⟨0, by omega, rfl, hg0⟩
      case round =>
        obtain ⟨k, hk, rfl, hg⟩ := hrel
        clear hg0
        by_cases hlt : k < L.length
        · have hx4 := ha4.out.grow hg
          have hx5 := ha5.out.grow hg
          obtain ⟨A4', c4', hv4, hx4⟩ := hx4
          obtain ⟨A5', c5', hv5, hx5⟩ := hx5
          have e4 : A4 = A4' := by injection hv4
          have e5 : A5 = A5' := by injection hv5
          subst e4 e5
          obtain ⟨g4, rfl, _, hc4⟩ := hx4 (by rintro rfl; simp at hlt)
          obtain ⟨g5, rfl, _, hc5⟩ := hx5 (by rintro rfl; simp at hlt)
          obtain ⟨B4, d4, q1, q2, q3, _⟩ := hc4 k hlt
          obtain ⟨B5, d5, s1, s2, s3, _⟩ := hc5 k hlt
          clear hc4 hc5 hv4 hv5
          generalize L[k].1 = x at *
          generalize L[k].2 = y at *
          have Q1 := fun W (h : Grow wr.drew W) => Grow.cell' (Grow.of_drew h) q1
          have Q2 := fun W (h : Grow wr.drew W) => Grow.cell' (Grow.of_drew h) q2
          have S1 := fun W (h : Grow wr.drew W) => Grow.cell' (Grow.of_drew h) s1
          have S2 := fun W (h : Grow wr.drew W) => Grow.cell' (Grow.of_drew h) s2
          have V4 := fun W (h : Grow wr.drew W) => conv_any d4 (q3.grow (Grow.of_drew h))
          have V5 := fun W (h : Grow wr.drew W) => conv_any d5 (s3.grow (Grow.of_drew h))
          clear q1 q2 s1 s2
          have hlti : (k : Int) < (L.length : Int) := by omega
          clear q3 s3
          go_wp2
          refine wpR_region (Grow) [] (by kernel_rfl) ?_
          refine wpR_take grow_rf grow_tr 0 rfl (by kernel_rfl) (fun _ _ _ h => h) rfl (v := ?_) ?_ ?_
          rotate_left
          · (intro w' hG; go_simp; try with_reducible rfl)
          try simp only [Act.put, List.setIfInBounds_toArray, List.set_cons_zero, List.set_cons_succ]
          refine wpR_take grow_rf grow_tr 1 rfl (by kernel_rfl) (fun _ _ _ h => h) rfl (v := ?_) ?_ ?_
          rotate_left
          · (intro w' hG; go_simp; try with_reducible rfl)
          try simp only [Act.put, List.setIfInBounds_toArray, List.set_cons_zero, List.set_cons_succ]
          refine wpR_take grow_rf grow_tr 2 rfl (by kernel_rfl) (fun _ _ _ h => h) rfl (v := ?_) ?_ ?_
          rotate_left
          · (intro w' hG; go_simp; try with_reducible rfl)
          try simp only [Act.put, List.setIfInBounds_toArray, List.set_cons_zero, List.set_cons_succ]
          refine wpR_take grow_rf grow_tr 3 rfl (by kernel_rfl) (fun _ _ _ h => h) rfl (v := ?_) ?_ ?_
          rotate_left
          · (intro w' hG; go_simp; try with_reducible rfl)
          try simp only [Act.put, List.setIfInBounds_toArray, List.set_cons_zero, List.set_cons_succ]
          refine wpR_take grow_rf grow_tr 4 rfl (by kernel_rfl) (fun _ _ _ h => h) rfl (v := ?_) ?_ ?_
          rotate_left
          · (intro w' hG; go_simp; try with_reducible rfl)
          try simp only [Act.put, List.setIfInBounds_toArray, List.set_cons_zero, List.set_cons_succ]
          refine wpR_take grow_rf grow_tr 5 rfl (by kernel_rfl) (fun _ _ _ h => h) rfl (v := ?_) ?_ ?_
          rotate_left
          · (intro w' hG; go_simp; try with_reducible rfl)
          try simp only [Act.put, List.setIfInBounds_toArray, List.set_cons_zero, List.set_cons_succ]
          refine wpR_take grow_rf grow_tr 6 rfl (by kernel_rfl) (fun _ _ _ h => h) rfl (v := ?_) ?_ ?_
          rotate_left
          · (intro w' hG; go_simp; try with_reducible rfl)
          try simp only [Act.put, List.setIfInBounds_toArray, List.set_cons_zero, List.set_cons_succ]
          refine wpR_take grow_rf grow_tr 7 rfl (by kernel_rfl) (fun _ _ _ h => h) rfl (v := ?_) ?_ ?_
          rotate_left
          · (intro w' hG; go_simp; try with_reducible rfl)
          try simp only [Act.put, List.setIfInBounds_toArray, List.set_cons_zero, List.set_cons_succ]
          refine wpR_take grow_rf grow_tr 8 rfl (by kernel_rfl) (fun _ _ _ h => h) rfl (v := ?_) ?_ ?_
          rotate_left
          · (intro w' hG; go_simp; try with_reducible rfl)
          try simp only [Act.put, List.setIfInBounds_toArray, List.set_cons_zero, List.set_cons_succ]
          refine wpR_take grow_rf grow_tr 9 rfl (by kernel_rfl) (fun _ _ _ h => h) rfl (v := ?_) ?_ ?_
          rotate_left
          · (intro w' hG; go_simp; try with_reducible rfl)
          try simp only [Act.put, List.setIfInBounds_toArray, List.set_cons_zero, List.set_cons_succ]
          refine wpR_take grow_rf grow_tr 10 rfl (by kernel_rfl) (fun _ _ _ h => h) rfl (v := ?_) ?_ ?_
          rotate_left
          · (intro w' hG; go_simp; try with_reducible rfl)
          try simp only [Act.put, List.setIfInBounds_toArray, List.set_cons_zero, List.set_cons_succ]
          refine wpR_take grow_rf grow_tr 11 rfl (by kernel_rfl) (fun _ _ _ h => h) rfl (v := ?_) ?_ ?_
          rotate_left
          · (intro w' hG; go_simp; try with_reducible rfl)
          try simp only [Act.put, List.setIfInBounds_toArray, List.set_cons_zero, List.set_cons_succ]
          refine wpR_take grow_rf grow_tr 12 rfl (by kernel_rfl) (fun _ _ _ h => h) rfl (v := ?_) ?_ ?_
          rotate_left
          · (intro w' hG; go_simp; try with_reducible rfl)
          try simp only [Act.put, List.setIfInBounds_toArray, List.set_cons_zero, List.set_cons_succ]
          refine wpR_take grow_rf grow_tr 13 rfl (by kernel_rfl) (fun _ _ _ h => h) rfl (v := ?_) ?_ ?_
          rotate_left
          · (intro w' hG; go_simp; try with_reducible rfl)
          try simp only [Act.put, List.setIfInBounds_toArray, List.set_cons_zero, List.set_cons_succ]
          refine wpR_take grow_rf grow_tr 14 rfl (by kernel_rfl) (fun _ _ _ h => h) rfl (v := ?_) ?_ ?_
          rotate_left
          · (intro w' hG; go_simp; try with_reducible rfl)
          try simp only [Act.put, List.setIfInBounds_toArray, List.set_cons_zero, List.set_cons_succ]
          refine wpR_take grow_rf grow_tr 15 rfl (by kernel_rfl) (fun _ _ _ h => h) rfl (v := ?_) ?_ ?_
          rotate_left
          · (intro w' hG; go_simp; try with_reducible rfl)
          try simp only [Act.put, List.setIfInBounds_toArray, List.set_cons_zero, List.set_cons_succ]
          refine wpR_take grow_rf grow_tr 16 rfl (by kernel_rfl) (fun _ _ _ h => h) rfl (v := ?_) ?_ ?_
          rotate_left
          · (intro w' hG; go_simp; try with_reducible rfl)
          try simp only [Act.put, List.setIfInBounds_toArray, List.set_cons_zero, List.set_cons_succ]
          refine wpR_take grow_rf grow_tr 17 rfl (by kernel_rfl) (fun _ _ _ h => h) rfl (v := ?_) ?_ ?_
          rotate_left
          · (intro w' hG; go_simp; try with_reducible rfl)
          try simp only [Act.put, List.setIfInBounds_toArray, List.set_cons_zero, List.set_cons_succ]
          refine wpR_take grow_rf grow_tr 18 rfl (by kernel_rfl) (fun _ _ _ h => h) rfl (v := ?_) ?_ ?_
          rotate_left
          · (intro w' hG; go_simp; try with_reducible rfl)
          try simp only [Act.put, List.setIfInBounds_toArray, List.set_cons_zero, List.set_cons_succ]
          refine wpR_take grow_rf grow_tr 19 rfl (by kernel_rfl) (fun _ _ _ h => h) rfl (v := ?_) ?_ ?_
          rotate_left
          · (intro w' hG; go_simp; try with_reducible rfl)
          try simp only [Act.put, List.setIfInBounds_toArray, List.set_cons_zero, List.set_cons_succ]
          refine wpR_take grow_rf grow_tr 20 rfl (by kernel_rfl) (fun _ _ _ h => h) rfl (v := ?_) ?_ ?_
          rotate_left
          · (intro w' hG; go_simp; try with_reducible rfl)
          try simp only [Act.put, List.setIfInBounds_toArray, List.set_cons_zero, List.set_cons_succ]
          refine wpR_take grow_rf grow_tr 21 rfl (by kernel_rfl) (fun _ _ _ h => h) rfl (v := ?_) ?_ ?_
          rotate_left
          · (intro w' hG; go_simp; try with_reducible rfl)
          try simp only [Act.put, List.setIfInBounds_toArray, List.set_cons_zero, List.set_cons_succ]
          refine wpR_take grow_rf grow_tr 22 rfl (by kernel_rfl) (fun _ _ _ h => h) rfl (v := ?_) ?_ ?_
          rotate_left
          · (intro w' hG; go_simp; try with_reducible rfl)
          try simp only [Act.put, List.setIfInBounds_toArray, List.set_cons_zero, List.set_cons_succ]
          refine wpR_take grow_rf grow_tr 23 rfl (by kernel_rfl) (fun _ _ _ h => h) rfl (v := ?_) ?_ ?_
          rotate_left
          · (intro w' hG; go_simp; try with_reducible rfl)
          try simp only [Act.put, List.setIfInBounds_toArray, List.set_cons_zero, List.set_cons_succ]
          refine wpR_take grow_rf grow_tr 24 rfl (by kernel_rfl) (fun _ _ _ h => h) rfl (v := ?_) ?_ ?_
          rotate_left
          · (intro w' hG; go_simp; try with_reducible rfl)
          try simp only [Act.put, List.setIfInBounds_toArray, List.set_cons_zero, List.set_cons_succ]
          refine wpR_take grow_rf grow_tr 25 rfl (by kernel_rfl) (fun _ _ _ h => h) rfl (v := ?_) ?_ ?_
          rotate_left
          · (intro w' hG; go_simp; try with_reducible rfl)
          try simp only [Act.put, List.setIfInBounds_toArray, List.set_cons_zero, List.set_cons_succ]
          refine wpR_done (by kernel_rfl) ?_ _
          clear Q1 Q2 S1 S2 V4 V5
          go_wp2
          go_roundw
          case rel => exact ⟨k + 1, by omega, by go_num, hg.drew⟩
          case measure => simp [intOf]; omega
        · obtain rfl : k = L.length := by omega
          go_wp2_with fail
          refine (works45_any _).mono ?_
          rintro r w9 ⟨rfl, hb9⟩
          go_wp2
          go_ret
          exact ⟨rfl, Grow.trans (Grow.trans HGr.out hg) hb9⟩
theorem fateArrivals_walk (f : Fate) (B : Option Addr) (b : List UInt8) (cb : Nat) (w : World) (ok : FateOk f) (hbl : b.length ≤ cb) (hbc : cb ≤ 9223372036854775807) (hb : Bytes w B b) :
    Calls Try.prog 12 #[fv f, .slice B b.length cb] w fun e w' => e = .returned (.bool true) ∧ Grow w w' :=
  fateArrivals_any f B b cb w (u32_wf ok.pos) (u32_wf ok.bits) hbl hbc hb
end Go.Proofs.Ytcghgahohmabnaa
