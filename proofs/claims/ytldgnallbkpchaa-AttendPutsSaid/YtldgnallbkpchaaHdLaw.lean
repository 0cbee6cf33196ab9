/- The walks of head.Next and head.Name, the example, and the statements HeadNext, HeadSame and HeadKinds. -/
import Derived.Test.YtldgnallbkpchaaHdPut
import Derived.Test.YtldgnallbkpchaaPulseC
namespace Go.Proofs.Ytldgnallbkpchaa
open Go.RowKit
theorem Wrote.fresh {w w1 w2 : World} {B p : Nat} {A : Option Addr} {s : Int × List UInt8} {most : Int} (h : Wrote w1 w2 B p A s most) (hg : Grow w w1) (hp : w.heap.size ≤ p) (hA : ∀ q, blk A = some q → w.heap.size ≤ q) : Grow w w2 := by
  obtain ⟨A', c', h1, h2, h3⟩ := h
  refine ((Kept.of_below hg []).trans (h2.mono hg.size fun k hk hm => ?_)).to_below
  rcases List.mem_cons.1 hm with e | e
  · omega
  · have := hA k (by simpa using e); omega
def exP : Pkt := { kind := 3, t := 300, frm := 2, seq := 7, hops := 1, no := 0, to := 0, index := 0, total := 0, stamp := 0, value := 0 }
set_option maxHeartbeats 400000 in
theorem example09_any (w : World) : Calls Try.prog 149 #[] w fun e w' => e = .returned (pv exP none 0 0) ∧ Grow w w' := by
  go_enter Try.func149, Try.ntmps149
  go_wp2
  refine bodyPost_ret (v := pv exP none 0 0) (by simp [results, Try.results149, go_sem, exP]) rfl ⟨rfl, ?_⟩
  show Below w.heap.size w _
  repeat (refine Below.setCell ?_ (by simp) _)
  exact (Grow.refl w).alloc _
theorem exS : headS 20 (0, []) exP = (0, [3, 1, 172, 2, 2, 7, 0, 0, 0]) := by decide +kernel
theorem exG : headB exP = true := by decide
set_option maxRecDepth 100000 in
set_option maxHeartbeats 1000000 in
theorem works09_any (w : World) : Calls Try.prog 62 #[] w fun e w' => e = .returned (.bool true) ∧ Grow w w' := by
  have HN := hide (new_any 20 w (by decide))
  rw [show max (20 : Int) 0 = 20 by decide] at HN
  have HG := hide (headgood_any exP none 0 0)
  rw [exG] at HG
  go_enter Try.func62, Try.ntmps62
  go_wp2_with fail
  refine HN.out.mono ?_
  rintro e w1 ⟨rfl, hw1, hg1⟩
  go_wp2_with fail
  refine (example09_any _).mono ?_
  rintro e w2 ⟨rfl, hg2⟩
  go_wp2_with fail
  have hB2 : w.heap.size ≤ w2.heap.size := Nat.le_trans hg1.size hg2.size
  refine (headput_any _ _ none 0 0 [] 20 exP none 0 0 _ (hw1.grow hg2) (by simp) hB2).mono ?_
  rw [exS]
  rintro e w3 ⟨rfl, hw3⟩
  have hg3 := hide (Wrote.fresh hw3 (Grow.trans hg1 hg2) (Nat.le_refl _) (by simp [blk]))
  obtain ⟨A3, c3, hr3, _, _⟩ := hw3
  clear hw1 hg1 hg2 HN
  go_wp2_with fail
  refine (done_ok _ _ A3 c3 _ 20 _ hr3 (by simp)).mono ?_
  rintro e w4 ⟨A4, c4, rfl, hown4, hg4⟩
  have hcv : (convert 25 9 (.slice A4 9 c4)).run Try.prog w4 = .ok (.string ⟨#[3, 1, 172, 2, 2, 7, 0, 0, 0]⟩) w4 := conv_any c4 hown4.bytes
  have hg4' := hide ((show Grow w w3 from hg3.out).trans hg4)
  clear hr3 hg4 hg3 hown4
  go_wp2_with fail
  refine (example09_any _).mono ?_
  rintro e w5 ⟨rfl, hg5⟩
  go_wp2_with fail
  refine (HG.out _).mono ?_
  rintro e w6 ⟨rfl, hg6⟩
  go_wp2
  go_ret
  exact ⟨rfl, Grow.step ((show Grow w w4 from hg4'.out).trans hg5) hg6⟩
set_option maxRecDepth 100000 in
set_option maxHeartbeats 1000000 in
theorem next_yes (p : Pkt) (A : Option Addr) (n c : Nat) (w : World) (h1 : floodB p.kind = true) (h2 : 1 ≤ p.hops) (h3 : p.hops ≤ 62) :
    Calls Try.prog 59 #[pv p A n c] w fun e w' => e = .returned (.tuple #[pv { p with hops := p.hops + 1 } A n c, .bool true]) ∧ Grow w w' := by
  have HF := hide (flood_any p.kind)
  have HH := hide (hops_any p.hops)
  rw [h1] at HF
  rw [show hopsB p.hops = true by simp [hopsB]; omega] at HH
  have k1 : (p.hops == 63) = false := by simp; omega
  clear h1
  go_enter Try.func59, Try.ntmps59
  go_wp2_with (first
    | (go_at_call 64; refine (HF.out _).mono ?_; rintro e w' ⟨rfl, rfl⟩)
    | (go_at_call 148; refine (HH.out _).mono ?_; rintro e w' ⟨rfl, rfl⟩))
  refine bodyPost_ret (v := .tuple #[pv { p with hops := p.hops + 1 } A n c, .bool true]) (by simp [results, Try.results59, go_sem]) rfl ⟨rfl, ?_⟩
  show Below w.heap.size w _
  repeat (refine Below.setCell ?_ (by simp) _)
  exact ((Grow.refl w).alloc _).alloc _
set_option maxRecDepth 100000 in
set_option maxHeartbeats 1000000 in
theorem next_no (p : Pkt) (A : Option Addr) (n c : Nat) (w : World) (h : floodB p.kind = false ∨ p.hops < 1 ∨ 62 < p.hops) :
    Calls Try.prog 59 #[pv p A n c] w fun e w' => e = .returned (.tuple #[pv noP none 0 0, .bool false]) ∧ Grow w w' := by
  have HF := hide (flood_any p.kind)
  have HH := hide (hops_any p.hops)
  cases hf : floodB p.kind with
  | false =>
    rw [hf] at HF
    clear hf h HH
    go_enter Try.func59, Try.ntmps59
    go_wp2_with (first
      | (go_at_call 64; refine (HF.out _).mono ?_; rintro e w' ⟨rfl, rfl⟩))
    refine bodyPost_ret (v := .tuple #[pv noP none 0 0, .bool false]) (by simp [results, Try.results59, go_sem]) rfl ⟨rfl, ?_⟩
    show Below w.heap.size w _
    repeat (refine Below.setCell ?_ (by simp) _)
    exact ((Grow.refl w).alloc _).alloc _
  | true =>
    rw [hf] at HF
    have h' : p.hops < 1 ∨ 62 < p.hops := by simpa [hf] using h
    clear hf h
    cases hh : hopsB p.hops with
    | false =>
      rw [hh] at HH
      clear hh h'
      go_enter Try.func59, Try.ntmps59
      go_wp2_with (first
        | (go_at_call 64; refine (HF.out _).mono ?_; rintro e w' ⟨rfl, rfl⟩)
        | (go_at_call 148; refine (HH.out _).mono ?_; rintro e w' ⟨rfl, rfl⟩))
      refine bodyPost_ret (v := .tuple #[pv noP none 0 0, .bool false]) (by simp [results, Try.results59, go_sem]) rfl ⟨rfl, ?_⟩
      show Below w.heap.size w _
      repeat (refine Below.setCell ?_ (by simp) _)
      exact ((Grow.refl w).alloc _).alloc _
    | true =>
      rw [hh] at HH
      have k1 : (p.hops == 63) = true := by simp [hopsB] at hh; simp; omega
      clear hh h'
      go_enter Try.func59, Try.ntmps59
      go_wp2_with (first
        | (go_at_call 64; refine (HF.out _).mono ?_; rintro e w' ⟨rfl, rfl⟩)
        | (go_at_call 148; refine (HH.out _).mono ?_; rintro e w' ⟨rfl, rfl⟩))
      refine bodyPost_ret (v := .tuple #[pv noP none 0 0, .bool false]) (by simp [results, Try.results59, go_sem]) rfl ⟨rfl, ?_⟩
      show Below w.heap.size w _
      repeat (refine Below.setCell ?_ (by simp) _)
      exact ((Grow.refl w).alloc _).alloc _
set_option maxRecDepth 100000 in
set_option maxHeartbeats 2000000 in
theorem headSame_any (p q : Pkt) (A B : Option Addr) (l m : List UInt8) (c d : Nat) (w : World) (hl : Bytes w A l) (hm : Bytes w B m) :
    Calls Try.prog 9 #[pv p A l.length c, pv q B m.length d] w fun e w' => e = .returned (.bool true) ∧ Grow w w' := by
  obtain ⟨hp0, hq0, hb0⟩ := two_boxes w (pcells p A l.length c) (pcells q B m.length d) 65 65 (by simp)
  have hl0 := hl.grow hb0
  have hm0 := hm.grow hb0
  have HS := hide (fun W hl hm => same_any p q A B l m c d W hl hm)
  have HR := hide (fun W hl hm => refsame_any p q A B l m c d W hl hm)
  have HT := hide (fun W hl => same_any p p A A l l c c W hl hl)
  rw [sameB_refl, beq_self_eq_true, Bool.true_and] at HT
  generalize (sameB p q && l == m) = x at HS HR
  go_enter Try.func9, Try.ntmps9
  have hpc := fun (W : World) (h : Grow ((w.alloc (.cells (pcells p A l.length c) 65)).alloc (.cells (pcells q B m.length d) 65)).drew W) => hp0.grow (by simp) (Grow.of_drew h)
  have hqc := fun (W : World) (h : Grow ((w.alloc (.cells (pcells p A l.length c) 65)).alloc (.cells (pcells q B m.length d) 65)).drew W) => hq0.grow (by simp) (Grow.of_drew h)
  unfold Holds at hpc hqc
  go_wp2_with fail
  refine wpG_region (by kernel_rfl) ?_
  refine wpG_take 0 rfl (by kernel_rfl) (fun _ _ _ h => h) rfl (v := ?_) ?_ ?_
  rotate_left
  · (intro w' hG; go_simp; try with_reducible rfl)
  try simp only [Act.put, List.setIfInBounds_toArray, List.set_cons_zero, List.set_cons_succ]
  refine wpG_take 1 rfl (by kernel_rfl) (fun _ _ _ h => h) rfl (v := ?_) ?_ ?_
  rotate_left
  · (intro w' hG; go_simp; try with_reducible rfl)
  try simp only [Act.put, List.setIfInBounds_toArray, List.set_cons_zero, List.set_cons_succ]
  refine wpG_take 3 rfl (by kernel_rfl) (fun _ _ _ h => h) rfl (v := ?_) ?_ ?_
  rotate_left
  · (intro w' hG; go_simp; try with_reducible rfl)
  try simp only [Act.put, List.setIfInBounds_toArray, List.set_cons_zero, List.set_cons_succ]
  refine wpG_take 4 rfl (by kernel_rfl) (fun _ _ _ h => h) rfl (v := ?_) ?_ ?_
  rotate_left
  · (intro w' hG; go_simp; try with_reducible rfl)
  try simp only [Act.put, List.setIfInBounds_toArray, List.set_cons_zero, List.set_cons_succ]
  refine wpG_call 2 rfl (by kernel_rfl) rfl fun K hK => ?_
  go_simp
  refine (HS.out _ hl0.drew hm0.drew).mono ?_
  rintro e w1 ⟨rfl, hb1⟩
  refine hK.out _ _ (hb1) ?_
  clear hK
  try simp only [Act.put, List.setIfInBounds_toArray, List.set_cons_zero, List.set_cons_succ]
  refine wpG_call 5 rfl (by kernel_rfl) rfl fun K hK => ?_
  go_simp
  refine (HR.out _ (hl0.drew.grow hb1) (hm0.drew.grow hb1)).mono ?_
  rintro e w2 ⟨rfl, hb2⟩
  refine hK.out _ _ (hb2) ?_
  clear hK
  try simp only [Act.put, List.setIfInBounds_toArray, List.set_cons_zero, List.set_cons_succ]
  have hpd := fun (W : World) (h : Grow w2 W) => hpc W (Grow.trans (Grow.step hb1 hb2) h)
  refine wpG_take 6 rfl (by kernel_rfl) (fun _ _ _ h => h) rfl (v := ?_) ?_ ?_
  rotate_left
  · (intro w' hG; go_simp; try with_reducible rfl)
  try simp only [Act.put, List.setIfInBounds_toArray, List.set_cons_zero, List.set_cons_succ]
  refine wpG_take 7 rfl (by kernel_rfl) (fun _ _ _ h => h) rfl (v := ?_) ?_ ?_
  rotate_left
  · (intro w' hG; go_simp; try with_reducible rfl)
  try simp only [Act.put, List.setIfInBounds_toArray, List.set_cons_zero, List.set_cons_succ]
  refine wpG_take 8 rfl (by kernel_rfl) (fun _ _ _ h => h) rfl (v := ?_) ?_ ?_
  rotate_left
  · (intro w' hG; go_simp; try with_reducible rfl)
  try simp only [Act.put, List.setIfInBounds_toArray, List.set_cons_zero, List.set_cons_succ]
  refine wpG_take 9 rfl (by kernel_rfl) (fun _ _ _ h => h) rfl (v := ?_) ?_ ?_
  rotate_left
  · (intro w' hG; go_simp; try with_reducible rfl)
  try simp only [Act.put, List.setIfInBounds_toArray, List.set_cons_zero, List.set_cons_succ]
  refine wpG_call 10 rfl (by kernel_rfl) rfl fun K hK => ?_
  go_simp
  refine (HT.out _ ((hl0.drew.grow hb1).grow hb2)).mono ?_
  rintro e w3 ⟨rfl, hb3⟩
  refine hK.out _ _ (hb3) ?_
  clear hK
  try simp only [Act.put, List.setIfInBounds_toArray, List.set_cons_zero, List.set_cons_succ]
  refine wpG_take 11 rfl (by kernel_rfl) (fun _ _ _ h => h) rfl (v := ?_) ?_ ?_
  rotate_left
  · (intro w' hG; go_simp; try with_reducible rfl)
  try simp only [Act.put, List.setIfInBounds_toArray, List.set_cons_zero, List.set_cons_succ]
  refine wpG_take 12 rfl (by kernel_rfl) (fun _ _ _ h => h) rfl (v := ?_) ?_ ?_
  rotate_left
  · (intro w' hG; go_simp; try with_reducible rfl)
  try simp only [Act.put, List.setIfInBounds_toArray, List.set_cons_zero, List.set_cons_succ]
  refine wpG_call 13 rfl (by kernel_rfl) rfl fun K hK => ?_
  go_simp
  refine (works09_any _).mono ?_
  rintro e w4 ⟨rfl, hb4⟩
  refine hK.out _ _ (hb4) ?_
  clear hK
  try simp only [Act.put, List.setIfInBounds_toArray, List.set_cons_zero, List.set_cons_succ]
  refine wpG_take 14 rfl (by kernel_rfl) (fun _ _ _ h => h) rfl (v := ?_) ?_ ?_
  rotate_left
  · (intro w' hG; go_simp; try with_reducible rfl)
  try simp only [Act.put, List.setIfInBounds_toArray, List.set_cons_zero, List.set_cons_succ]
  refine wpG_take 15 rfl (by kernel_rfl) (fun _ _ _ h => h) rfl (v := ?_) ?_ ?_
  rotate_left
  · (intro w' hG; go_simp; try with_reducible rfl)
  try simp only [Act.put, List.setIfInBounds_toArray, List.set_cons_zero, List.set_cons_succ]
  refine wpG_done (by kernel_rfl) ?_ _
  go_wp2
  go_ret
  exact ⟨rfl, Grow.trans hb0 (Grow.of_drew (Grow.trans (Grow.step (Grow.step hb1 hb2) hb3) hb4))⟩
end Go.Proofs.Ytldgnallbkpchaa
