/- snap.view (chapter 41). -/
import Derived.Test.YtbccbfmgjeknhaaLl
import Derived.Test.YtbccbfmgjeknhaaFewQ
namespace Go.Proofs.Ytbccbfmgjeknhaa
open Go.RowKit
theorem results_mid2 {P : Program} {fn : Func} {p u : Tmp} {ty : TypeId} (h : fn.results = #[.cell p ty, .tmp u]) (tmps : Array Value) (w : World) (b o : Nat) (cs : List Value) (d : TypeDesc) (hp : tmps.getD p undef = .pointer (some ⟨b, o, none⟩)) (hc : w.rangeAt b o cs)
    (hu : P.underlying ty = some d) (hd : d.isRow = true) (hi : (P.info? ty).map (·.size) = some cs.length) : (results fn tmps).run P w = .ok (.tuple #[.agg cs.toArray, tmps.getD u undef]) w := by
  rw [results_cell_tmp h, hp]
  simp [asAddr, Result.andThen, run_loadVar_mid w b o ty cs d hc hu hd hi]
theorem Below.setCells {B : Nat} {a : World} {q : Nat} (hq : B ≤ q) : ∀ (vs : List Value) (o : Nat) {b : World}, Below B a b → Below B a (b.setCells q o vs)
  | [], _, _, h => h
  | v :: r, o, _, h => Below.setCells hq r (o + 1) (h.setCell (p := ⟨q, o, none⟩) hq v)
theorem Box.there {w : World} {g : Nat} {cs : Array Value} (h : Box w g cs) : w.there g 0 cs.size := fun j hj => by
  refine ⟨?_, h.fz _⟩
  rw [h.cell, Nat.zero_add, Array.getElem?_eq_getElem hj]
  rfl
theorem rfix_lt8 (n : Int) (s : List UInt8 × Int) : (rfix n s).1 < 18446744073709551616 := by
  unfold rfix Buf.rget
  split
  · exact Buf.getFixed_lt _ _
  · exact Nat.zero_lt_of_lt (show 0 < 18446744073709551616 by omega)
def zeroLg : Lg := ⟨0, 0, List.replicate 64 0⟩
def zeroSt : St := ⟨0, 0, zeroLg⟩
theorem zero_st : Try.zeroCells42 = (scs zeroSt).toArray := by kernel_rfl
theorem st_size (s : St) (h : s.l.of.length = 64) : (Try.prog.info? 42).map (·.size) = some (scs s).length := by
  rw [show (scs s).length = 68 by simp [scs, lcs, h]]
  kernel_rfl
theorem scs_one (s : St) : ∀ v ∈ scs s, v.oneCell' = true := by
  intro v hv
  simp only [scs, lcs, List.mem_cons, List.mem_map] at hv
  rcases hv with rfl | rfl | rfl | rfl | ⟨_, _, rfl⟩ <;> rfl
def vNo (s : List UInt8 × Int) : Nat × List UInt8 × Int := rnum s
def vSet (s : List UInt8 × Int) : Nat × List UInt8 × Int := rfix 8 (rnum s).2
def vErr (s : List UInt8 × Int) (n : Nat) : Int := if (vNo s).1 > 1152921504606846976 then 2 else if (vNo s).2.2 ≠ 0 then (vNo s).2.2 else if (vSet s).2.2 ≠ 0 then (vSet s).2.2 else if 2 ^ n ≤ (vSet s).1 then 8 else 0
def vSt (s : List UInt8 × Int) (n : Nat) : St := if vErr s n = 0 then ⟨(vNo s).1, (vSet s).1, zeroLg⟩ else zeroSt
set_option maxRecDepth 100000 in
set_option maxHeartbeats 4000000 in
theorem view_any (N p : Nat) (s : List UInt8 × Int) (n : Nat) (w : World) (h : Rd w N p s) (h1 : 1 ≤ n) (h64 : n ≤ 64) :
    Calls Try.prog 48 #[.pointer (some ⟨p, 0, none⟩), .int .i64 n] w fun r w' => r = .returned (.tuple #[.agg (scs (vSt s n)).toArray, .int .i64 (vErr s n)]) ∧ (vErr s n = 0 → Rd w' N p (vSet s).2) ∧ Kept w.heap.size [p] w w' := by
  have HN := hide (fun W h => rnum_any N p s W h)
  have HF := hide (fun W h => rfix_any N p (rnum s).2 8 W h)
  have hlt := rnum_lt s
  have e1 : vNo s = rnum s := rfl
  have e2 : vSet s = rfix 8 (vNo s).2 := rfl
  rw [← e1] at HN HF hlt
  rw [← e2] at HF
  have hpw : p < w.heap.size := Nat.lt_of_lt_of_le h.lt h.size
  have hsz := hide (st_size zeroSt (by decide))
  have hone := hide (scs_one zeroSt)
  have hz := hide zero_st
  have hbx := Box.new w Try.zeroCells42 42 rfl
  have hg1 : Grow w (w.alloc (.cells Try.zeroCells42 42)) := (Grow.refl _).alloc _
  have HE1 := hide (fun W h => err_any N p (vNo s).2 W h)
  have HE2 := hide (fun W h => err_any N p (vSet s).2 W h)
  have HA := hide (fun W => all_any n W h1 h64)
  have hylt : (vSet s).1 < 18446744073709551616 := rfix_lt8 _ _
  have hmask := hide (andnot_zero (vSet s).1 n hylt h64)
  have hab := hide (u64_andNot_nat (vSet s).1 (2 ^ n - 1) hylt (by have : 2 ^ n ≤ 2 ^ 64 := Nat.pow_le_pow_right (by decide) h64; omega))
  by_cases hx : (vNo s).1 > 1152921504606846976
  · have hE : vErr s n = 2 := if_pos hx
    have hS : vSt s n = zeroSt := if_neg (by rw [hE]; decide)
    rw [hE, hS]
    clear hE hS
    generalize vSet s = Y at *
    generalize vNo s = X at *
    obtain ⟨x, s1⟩ := X
    clear e1 e2 HE1 HE2 HF hmask HA hab
    go_enter Try.func48, Try.ntmps48
    go_wp2_with fail
    refine (HN.out _ (h.grow hg1)).mono ?_
    rintro r w2 ⟨rfl, hr2, hk2⟩
    have hs1 := hg1.size
    have hb2 : Box w2 w.heap.size Try.zeroCells42 := hbx.keep (hk2.block _ hbx.lt (by simp; omega))
    have hk : Kept w.heap.size [p] w w2 := ((Kept.of_below hg1 [p])).step hk2
    have hbt := hb2.there
    have hk := hide hk
    clear hbx hb2 hk2
    go_wp2_with (refine wpList_store_mid rfl 42 (.tmp 4) (.tmp 14) rfl w.heap.size 0 _ rfl rfl hbt (by rw [hz.out, List.size_toArray]; exact hsz.out) (by rw [hz.out]; exact all_oneCell_toArray hone.out) ?_)
    rw [hz.out] at hbt ⊢
    refine bodyPost_ret (results_mid2 rfl _ _ w.heap.size 0 (scs zeroSt) _ rfl (World.rangeAt_setCells_same _ _ _ _ (by simpa using hbt)) Try.underlying42 rfl hsz.out) rfl ?_
    exact ⟨rfl, fun e => absurd e (by decide), hk.out.trans (Kept.of_below (Below.setCells (Nat.le_refl _) _ _ (Below.refl _ _)) [p])⟩
  · by_cases hq : (vNo s).2.2 = 0
    · by_cases hv : (vSet s).2.2 = 0
      · by_cases hm : (vSet s).1 < 2 ^ n
        · have hE : vErr s n = 0 := by unfold vErr; rw [if_neg hx, if_neg (by simpa using hq), if_neg (by simpa using hv), if_neg (by omega)]
          have hS : vSt s n = ⟨(vNo s).1, (vSet s).1, zeroLg⟩ := if_pos hE
          rw [hE, hS]
          clear hE hS
          rw [hq] at HE1
          rw [hv] at HE2
          generalize vSet s = Y at *
          generalize vNo s = X at *
          obtain ⟨x, s1⟩ := X
          obtain ⟨y, s2⟩ := Y
          clear e1 e2
          have hm0 : (bits BinOp.andNot IntKind.u64 (y : Int) ((2 ^ n - 1 : Nat) : Int) != 0) = false := by rw [hab.out, hmask.out.2 hm]; rfl
          clear hmask hm hab
          go_enter Try.func48, Try.ntmps48
          go_wp2_with fail
          refine (HN.out _ (h.grow hg1)).mono ?_
          rintro r w2 ⟨rfl, hr2, hk2⟩
          have hs1 := hg1.size
          have hb2 : Box w2 w.heap.size Try.zeroCells42 := hbx.keep (hk2.block _ hbx.lt (by simp; omega))
          have hk : Kept w.heap.size [p] w w2 := ((Kept.of_below hg1 [p])).step hk2
          have hbt := hb2.there
          have hk := hide hk
          go_wp2_with fail
          refine (HE1.out _ hr2).mono ?_
          rintro r w3 ⟨rfl, rfl⟩
          go_wp2_with fail
          refine (HF.out _ hr2).mono ?_
          rintro r w4 ⟨rfl, hr4, hk4⟩
          have hb4 := hide (hb2.keep (hk4.block _ hb2.lt (by simp; omega)))
          have hk := hide (hk.out.step hk4)
          have hbt := hb4.out.there
          clear hb2 hk4 hr2
          go_wp2_with fail
          refine (HE2.out _ hr4).mono ?_
          rintro r w5 ⟨rfl, rfl⟩
          go_wp2_with fail
          refine (HA.out _).mono ?_
          rintro r w6 ⟨rfl, rfl⟩
          have hag : (Try.zeroCells42.setIfInBounds 0 (Value.int IntKind.i64 x)).setIfInBounds 1 (Value.int IntKind.u64 y) = (scs ⟨x, y, zeroLg⟩).toArray := by rw [hz.out]; rfl
          have hsz2 := hide (st_size ⟨x, y, zeroLg⟩ (by show (List.replicate 64 0).length = 64; simp))
          have hone2 := hide (scs_one ⟨x, y, zeroLg⟩)
          have hbl : (scs (⟨x, y, zeroLg⟩ : St)).length = Try.zeroCells42.size := by rw [hz.out]; rfl
          rw [← hbl] at hbt
          clear hbl
          go_wp2_with (refine wpList_store_mid rfl 42 (.tmp 4) (.tmp 38) rfl w.heap.size 0 _ rfl rfl (by simpa using hbt) (by rw [List.size_toArray]; exact hsz2.out) (all_oneCell_toArray hone2.out) ?_)
          refine bodyPost_ret (results_mid2 rfl _ _ w.heap.size 0 (scs ⟨x, y, zeroLg⟩) _ rfl (World.rangeAt_setCells_same _ _ _ _ hbt) Try.underlying42 rfl hsz2.out) rfl ?_
          exact ⟨rfl, fun _ => hr4.below (Below.setCells h.size _ _ (Below.refl _ _)), hk.out.trans (Kept.of_below (Below.setCells (Nat.le_refl _) _ _ (Below.refl _ _)) [p])⟩
        · have hE : vErr s n = 8 := by unfold vErr; rw [if_neg hx, if_neg (by simpa using hq), if_neg (by simpa using hv), if_pos (by omega)]
          have hS : vSt s n = zeroSt := if_neg (by rw [hE]; decide)
          rw [hE, hS]
          clear hE hS
          rw [hq] at HE1
          rw [hv] at HE2
          generalize vSet s = Y at *
          generalize vNo s = X at *
          obtain ⟨x, s1⟩ := X
          obtain ⟨y, s2⟩ := Y
          clear e1 e2
          have hm0 : (bits BinOp.andNot IntKind.u64 (y : Int) ((2 ^ n - 1 : Nat) : Int) != 0) = true := by
            rw [hab.out]
            have : ¬ (y &&& (18446744073709551615 - (2 ^ n - 1)) = 0) := fun e => hm (hmask.out.1 e)
            simp only [bne_iff_ne, ne_eq]
            omega
          clear hmask hm hab
          go_enter Try.func48, Try.ntmps48
          go_wp2_with fail
          refine (HN.out _ (h.grow hg1)).mono ?_
          rintro r w2 ⟨rfl, hr2, hk2⟩
          have hs1 := hg1.size
          have hb2 : Box w2 w.heap.size Try.zeroCells42 := hbx.keep (hk2.block _ hbx.lt (by simp; omega))
          have hk : Kept w.heap.size [p] w w2 := ((Kept.of_below hg1 [p])).step hk2
          have hbt := hb2.there
          have hk := hide hk
          go_wp2_with fail
          refine (HE1.out _ hr2).mono ?_
          rintro r w3 ⟨rfl, rfl⟩
          go_wp2_with fail
          refine (HF.out _ hr2).mono ?_
          rintro r w4 ⟨rfl, hr4, hk4⟩
          have hb4 := hide (hb2.keep (hk4.block _ hb2.lt (by simp; omega)))
          have hk := hide (hk.out.step hk4)
          have hbt := hb4.out.there
          clear hb2 hk4 hr2
          go_wp2_with fail
          refine (HE2.out _ hr4).mono ?_
          rintro r w5 ⟨rfl, rfl⟩
          go_wp2_with fail
          refine (HA.out _).mono ?_
          rintro r w6 ⟨rfl, rfl⟩
          go_wp2_with (refine wpList_store_mid rfl 42 (.tmp 4) (.tmp 34) rfl w.heap.size 0 _ rfl rfl hbt (by rw [hz.out, List.size_toArray]; exact hsz.out) (by rw [hz.out]; exact all_oneCell_toArray hone.out) ?_)
          rw [hz.out] at hbt ⊢
          refine bodyPost_ret (results_mid2 rfl _ _ w.heap.size 0 (scs zeroSt) _ rfl (World.rangeAt_setCells_same _ _ _ _ (by simpa using hbt)) Try.underlying42 rfl hsz.out) rfl ?_
          exact ⟨rfl, fun e => absurd e (by decide), hk.out.trans (Kept.of_below (Below.setCells (Nat.le_refl _) _ _ (Below.refl _ _)) [p])⟩
      · have hE : vErr s n = (vSet s).2.2 := by unfold vErr; rw [if_neg hx, if_neg (by simpa using hq), if_pos hv]
        have hS : vSt s n = zeroSt := if_neg (by rw [hE]; exact hv)
        rw [hE, hS]
        clear hE hS
        rw [hq] at HE1
        generalize vSet s = Y at *
        generalize vNo s = X at *
        obtain ⟨x, s1⟩ := X
        obtain ⟨y, s2, ey⟩ := Y
        have hv' : (ey == 0) = false := by simpa using hv
        have hv := hide hv
        clear e1 e2 hmask HA hab
        go_enter Try.func48, Try.ntmps48
        go_wp2_with fail
        refine (HN.out _ (h.grow hg1)).mono ?_
        rintro r w2 ⟨rfl, hr2, hk2⟩
        have hs1 := hg1.size
        have hb2 : Box w2 w.heap.size Try.zeroCells42 := hbx.keep (hk2.block _ hbx.lt (by simp; omega))
        have hk : Kept w.heap.size [p] w w2 := ((Kept.of_below hg1 [p])).step hk2
        have hbt := hb2.there
        have hk := hide hk
        go_wp2_with fail
        refine (HE1.out _ hr2).mono ?_
        rintro r w3 ⟨rfl, rfl⟩
        go_wp2_with fail
        refine (HF.out _ hr2).mono ?_
        rintro r w4 ⟨rfl, hr4, hk4⟩
        have hb4 := hide (hb2.keep (hk4.block _ hb2.lt (by simp; omega)))
        have hk := hide (hk.out.step hk4)
        have hbt := hb4.out.there
        clear hb2 hk4 hr2
        go_wp2_with fail
        refine (HE2.out _ hr4).mono ?_
        rintro r w5 ⟨rfl, rfl⟩
        go_wp2_with (refine wpList_store_mid rfl 42 (.tmp 4) (.tmp 27) rfl w.heap.size 0 _ rfl rfl hbt (by rw [hz.out, List.size_toArray]; exact hsz.out) (by rw [hz.out]; exact all_oneCell_toArray hone.out) ?_)
        rw [hz.out] at hbt ⊢
        refine bodyPost_ret (results_mid2 rfl _ _ w.heap.size 0 (scs zeroSt) _ rfl (World.rangeAt_setCells_same _ _ _ _ (by simpa using hbt)) Try.underlying42 rfl hsz.out) rfl ?_
        exact ⟨rfl, fun e => absurd e hv.out, hk.out.trans (Kept.of_below (Below.setCells (Nat.le_refl _) _ _ (Below.refl _ _)) [p])⟩
    · have hE : vErr s n = (vNo s).2.2 := by unfold vErr; rw [if_neg hx, if_pos hq]
      have hS : vSt s n = zeroSt := if_neg (by rw [hE]; exact hq)
      rw [hE, hS]
      clear hE hS
      generalize vSet s = Y at *
      generalize vNo s = X at *
      obtain ⟨x, s1, ex⟩ := X
      have hq' : (ex == 0) = false := by simpa using hq
      have hq := hide hq
      clear e1 e2 hmask HA HE2 HF hab
      go_enter Try.func48, Try.ntmps48
      go_wp2_with fail
      refine (HN.out _ (h.grow hg1)).mono ?_
      rintro r w2 ⟨rfl, hr2, hk2⟩
      have hs1 := hg1.size
      have hb2 : Box w2 w.heap.size Try.zeroCells42 := hbx.keep (hk2.block _ hbx.lt (by simp; omega))
      have hk : Kept w.heap.size [p] w w2 := ((Kept.of_below hg1 [p])).step hk2
      have hbt := hb2.there
      have hk := hide hk
      go_wp2_with fail
      refine (HE1.out _ hr2).mono ?_
      rintro r w3 ⟨rfl, rfl⟩
      go_wp2_with (refine wpList_store_mid rfl 42 (.tmp 4) (.tmp 19) rfl w.heap.size 0 _ rfl rfl hbt (by rw [hz.out, List.size_toArray]; exact hsz.out) (by rw [hz.out]; exact all_oneCell_toArray hone.out) ?_)
      rw [hz.out] at hbt ⊢
      refine bodyPost_ret (results_mid2 rfl _ _ w.heap.size 0 (scs zeroSt) _ rfl (World.rangeAt_setCells_same _ _ _ _ (by simpa using hbt)) Try.underlying42 rfl hsz.out) rfl ?_
      exact ⟨rfl, fun e => absurd e hq.out, hk.out.trans (Kept.of_below (Below.setCells (Nat.le_refl _) _ _ (Below.refl _ _)) [p])⟩
end Go.Proofs.Ytbccbfmgjeknhaa
