/- snap.Decode (chapter 41). -/
import Derived.Test.YtbccbfmgjeknhaaLs
namespace Go.Proofs.Ytbccbfmgjeknhaa
open Go.RowKit
set_option maxRecDepth 100000 in
set_option maxHeartbeats 1000000 in
theorem read_fresh (A : Option Addr) (l : List UInt8) (c : Nat) (w : World) (hl : Bytes w A l) (hn : l.length ≤ 1000000000000) :
    Calls Try.prog 47 #[.slice A l.length c] w fun r w' => ∃ N p, r = .returned (.pointer (some ⟨p, 0, none⟩)) ∧ Rd w' N p (l, 0) ∧ w.heap.size ≤ p ∧ Grow w w' ∧ ∀ w'' S, Kept w'.heap.size S w' w'' → (∀ q, q ∈ S → q < w.heap.size) → Rd w'' N p (l, 0) := by
  go_enter Try.func47, Try.ntmps47
  go_wp2_with (at_builtin; refine wpList_append_bytes byteT rfl (.tmp 3) (.tmp 4) rfl (Own.made w (base := w.heap.size) #[] 0 (Nat.le_refl _) (by decide) rfl) (hl.alloc _) rfl rfl ?_ ?_ ?_)
  · simp; omega
  · simp
  intro A' c' b' w2 HL hown hg2 _
  have e : b' = l := HL.out.trans (by simp)
  subst e
  have hgr : Grow w w2 := (((Below.refl _ _).alloc (Nat.le_refl _) _).grown hg2 (by simp) (by simp [blk]))
  have hle := hown.le
  have hob := (hown.alloc (.cells #[.int .i64 0, .slice A' b'.length c'] 120))
  have hlt : ∀ q, blk A' = some q → q < w2.heap.size := fun q hq => hown.lt hq
  have hge : ∀ q, blk A' = some q → w.heap.size ≤ q := fun q hq => hown.base hq
  have hs2 := hgr.size
  have hrow := heap_alloc_new w2 (.cells #[.int .i64 0, .slice A' b'.length c'] 120)
  have hsz : (w2.alloc (.cells #[.int .i64 0, .slice A' b'.length c'] 120)).heap.size = w2.heap.size + 1 := by simp
  go_wp2
  go_ret
  refine ⟨w2.heap.size + 1, w2.heap.size, rfl, ⟨A', c', b', hrow, hle.1, hle.2, hob.bytes, Nat.lt_succ_self _, by simp, fun q hq => ⟨by have := hlt q hq; omega, by have := hlt q hq; omega⟩, fun _ => rfl, fun e => absurd rfl e⟩, hgr.size, hgr.alloc _, fun w'' S hk hS => ?_⟩
  refine ⟨A', c', b', (hk.block w2.heap.size (by omega) (fun hm => by have := hS _ hm; omega)).trans hrow, hle.1, hle.2, hob.bytes.kept hk (fun q hq hm => by have := hS q hm; have := hge q hq; omega), Nat.lt_succ_self _, by have := hk.size; omega, fun q hq => ⟨by have := hlt q hq; omega, by have := hlt q hq; omega⟩, fun _ => rfl, fun e => absurd rfl e⟩
theorem grow_kept {w W W' : World} {S : List Nat} (hg : Grow w W) (hk : Kept W.heap.size S W W') (hS : ∀ q, q ∈ S → w.heap.size ≤ q) : Grow w W' :=
  Below.trans hg (Kept.to_below (hk.mono hg.size (fun q hq hm => by have := hS q hm; omega)))
theorem range_two {w : World} {b : Nat} {x y : Value} {X Y : List Value} (h : w.rangeAt b 0 (x :: y :: X)) (hl : Y.length = X.length) (ht : w.there b 2 Y.length) : (w.setCells b 2 Y).rangeAt b 0 (x :: y :: Y) := by
  have h1 : w.rangeAt b 0 [x, y] := fun j v hv => h j v (by
    rcases j with _ | _ | j
    · exact hv
    · exact hv
    · simp at hv)
  have h2 := World.rangeAt_setCells_apart h1 b 2 Y (.inr (.inl (by simp)))
  have h3 := World.rangeAt_setCells_same w b 2 Y ht
  intro j v hv
  rcases j with _ | _ | j
  · exact h2 0 v hv
  · exact h2 1 v hv
  · have := h3 j v (by simpa using hv)
    rw [show 0 + (j + 1 + 1) = 2 + j by omega]
    exact this
theorem cell_keep {w w' : World} {b o : Nat} (hb : w'.heap[b]? = w.heap[b]?) : w'.cell? ⟨b, o, none⟩ = w.cell? ⟨b, o, none⟩ := by
  unfold World.cell?
  simp only [hb]
theorem frozen_keep {w w' : World} {b o : Nat} (hb : w'.heap[b]? = w.heap[b]?) : w'.frozen? ⟨b, o, none⟩ = w.frozen? ⟨b, o, none⟩ := by
  unfold World.frozen?
  simp only [hb]
theorem range_keep {w w' : World} {b o : Nat} {cs : List Value} (h : w.rangeAt b o cs) (hb : w'.heap[b]? = w.heap[b]?) : w'.rangeAt b o cs := fun j v hj => (cell_keep hb).trans (h j v hj)
theorem there_keep {w w' : World} {b o n : Nat} (h : w.there b o n) (hb : w'.heap[b]? = w.heap[b]?) : w'.there b o n := fun j hj => by
  rw [cell_keep hb, frozen_keep hb]
  exact h j hj
theorem vSt_len (s : List UInt8 × Int) (n : Nat) : (vSt s n).l.of.length = 64 := by
  unfold vSt
  split
  · show zeroLg.of.length = 64
    decide
  · decide
theorem lgetLg_len (s : List UInt8 × Int) (n : Nat) : (lgetLg s n).of.length = 64 := by
  unfold lgetLg
  split
  · exact gF_len _ _
  · decide
def decR (b : List UInt8) (n : Int) : St × Int :=
  if manyB n = false then (zeroSt, 1)
  else if vErr (b, 0) n.toNat ≠ 0 then (zeroSt, vErr (b, 0) n.toNat)
  else if lgetErr (vSet (b, 0)).2 n.toNat ≠ 0 then (zeroSt, lgetErr (vSet (b, 0)).2 n.toNat)
  else if rend (gF n.toNat (gS (vSet (b, 0)).2).2).2 ≠ 0 then (zeroSt, rend (gF n.toNat (gS (vSet (b, 0)).2).2).2)
  else (⟨(vNo (b, 0)).1, (vSet (b, 0)).1, lgetLg (vSet (b, 0)).2 n.toNat⟩, 0)
set_option maxRecDepth 100000 in
set_option maxHeartbeats 400000 in
theorem sdecode_any (A : Option Addr) (l : List UInt8) (c : Nat) (n : Int) (w : World) (hb : Bytes w A l) (hl : l.length ≤ 1000) :
    Calls Try.prog 20 #[.slice A l.length c, .int .i64 n] w fun r w' => r = .returned (.tuple #[.agg (scs (decR l n).1).toArray, .int .i64 (decR l n).2]) ∧ Grow w w' := by
  have HM := hide (fun W => many_any n W)
  have hsz := hide (st_size zeroSt (by decide))
  have hone := hide (scs_one zeroSt)
  have hz := hide zero_st
  have hbx := Box.new w Try.zeroCells42 42 rfl
  have hg1 : Grow w (w.alloc (.cells Try.zeroCells42 42)) := (Grow.refl _).alloc _
  cases hm : manyB n with
  | false =>
    have hE : decR l n = (zeroSt, 1) := if_pos hm
    rw [hE]
    clear hE
    rw [hm] at HM
    have hbt := hbx.there
    go_enter Try.func20, Try.ntmps20
    go_wp2_with fail
    refine (HM.out _).mono ?_
    rintro r w2 ⟨rfl, hw2⟩
    have hbt2 : w2.there w.heap.size 0 Try.zeroCells42.size := by rw [← hw2]; exact hbt
    have hg2 : Grow w w2 := by rw [← hw2]; exact hg1
    clear hw2 hbt hg1 hbx
    have hbt := hbt2
    clear hbt2
    go_wp2_with (refine wpList_store_mid rfl 42 (.tmp 4) (.tmp 12) rfl w.heap.size 0 _ rfl rfl hbt (by rw [hz.out, List.size_toArray]; exact hsz.out) (by rw [hz.out]; exact all_oneCell_toArray hone.out) ?_)
    rw [hz.out] at hbt ⊢
    refine bodyPost_ret (results_mid2 rfl _ _ w.heap.size 0 (scs zeroSt) _ rfl (World.rangeAt_setCells_same _ _ _ _ (by simpa using hbt)) Try.underlying42 rfl hsz.out) rfl ?_
    exact ⟨rfl, Below.trans hg2 (Below.setCells (Nat.le_refl _) _ _ (Below.refl _ _))⟩
  | true =>
    rw [hm] at HM
    obtain ⟨N0, rfl, hN1, hN64⟩ : ∃ N : Nat, n = (N : Int) ∧ 1 ≤ N ∧ N ≤ 64 := by
      simp [manyB] at hm
      exact ⟨n.toNat, by omega, by omega, by omega⟩
    have hD : Hid (decR l (N0 : Int) = if vErr (l, 0) N0 ≠ 0 then (zeroSt, vErr (l, 0) N0) else if lgetErr (vSet (l, 0)).2 N0 ≠ 0 then (zeroSt, lgetErr (vSet (l, 0)).2 N0) else if rend (gF N0 (gS (vSet (l, 0)).2).2).2 ≠ 0 then (zeroSt, rend (gF N0 (gS (vSet (l, 0)).2).2).2) else (⟨(vNo (l, 0)).1, (vSet (l, 0)).1, lgetLg (vSet (l, 0)).2 N0⟩, 0)) := hide (by
      unfold decR
      rw [if_neg (by rw [hm]; decide), Int.toNat_natCast])
    have HV := hide (fun N p W h => view_any N p (l, 0) N0 W h hN1 hN64)
    have hVl := vSt_len (l, 0) N0
    have hVok : vErr (l, 0) N0 = 0 → vSt (l, 0) N0 = ⟨(vNo (l, 0)).1, (vSet (l, 0)).1, zeroLg⟩ := fun e => if_pos e
    have hGl := lgetLg_len (vSet (l, 0)).2 N0
    have HG := hide (fun N p W h => lget_any N p (vSet (l, 0)).2 N0 W h hN1 hN64)
    have hEnd := hide (fun N p W h => end_any N p (gF N0 (gS (vSet (l, 0)).2).2).2 W h)
    have HR := hide (fun W hb => read_fresh A l c W hb (by omega))
    generalize vErr (l, 0) N0 = ve at *
    generalize vSt (l, 0) N0 = V at *
    generalize lgetErr (vSet (l, 0)).2 N0 = le at *
    generalize lgetLg (vSet (l, 0)).2 N0 = LG at *
    generalize gF N0 (gS (vSet (l, 0)).2).2 = F at *
    generalize vSet (l, 0) = Y at *
    generalize vNo (l, 0) = X at *
    obtain ⟨D, hDD⟩ : ∃ D, Hid (decR l (N0 : Int) = D) := ⟨_, hide rfl⟩
    rw [hDD.out] at hD ⊢
    have hszV := hide (st_size V hVl)
    have honeV := hide (scs_one V)
    have hVz : Hid ((scs V).length = (scs zeroSt).length) := hide (by simp [scs, lcs, hVl, zeroSt, zeroLg])
    have hb := hide (hb.alloc (.cells Try.zeroCells42 42))
    have hbx := hide hbx
    clear hm
    go_enter Try.func20, Try.ntmps20
    go_wp2_with fail
    refine (HM.out _).mono ?_
    rintro r w2 ⟨rfl, rfl⟩
    go_wp2_with fail
    refine (HR.out _ hb.out).mono ?_
    rintro r w3 ⟨N, p, rfl, hr3, hp3, hg3, _⟩
    have hbx3 := hide (hbx.out.grow hg3)
    have hs1 := hg1.size
    have hg3 := hide (hg1.trans hg3)
    have hr3 := hide hr3
    clear HR hb hbx HM
    go_wp2_with fail
    refine (HV.out _ _ _ hr3.out).mono ?_
    rintro r w4 ⟨rfl, hr4, hk4⟩
    have hp3' : w.heap.size < p := by simp at hp3; omega
    have hbx4 := hide (hbx3.out.keep (hk4.block _ hbx3.out.lt (by simp; omega)))
    have hg4 := hide (grow_kept hg3.out hk4 (fun q hq => by simp at hq; omega))
    have hs4 := hg4.out.size
    have hwlt := hbx4.out.lt
    clear hbx3 hk4 hg3 hg1
    have hb7 := Box.new w4 Try.zeroCells42 42 rfl
    have hb4 := hbx4.out.grow ((Grow.refl w4).alloc (.cells Try.zeroCells42 42))
    have hg5 : Grow w4 (w4.alloc (.cells Try.zeroCells42 42)) := (Grow.refl w4).alloc _
    have hzV : Try.zeroCells42.size = (scs V).length := by rw [hz.out, List.size_toArray, hVz.out]
    have ht7 := hb7.there
    rw [hzV] at ht7
    clear hzV
    by_cases hv0 : ve = 0
    · subst hv0
      rw [if_neg (by simp)] at hD
      have hV := hide (hVok rfl)
      have hst : Below w4.heap.size (w4.alloc (.cells Try.zeroCells42 42)) ((w4.alloc (.cells Try.zeroCells42 42)).setCells w4.heap.size 0 (scs V)) := Below.setCells (Nat.le_refl _) _ _ (Below.refl _ _)
      have hbx5 := hide (hb4.keep (hst.block _ hwlt))
      have hg6 := hide (Below.trans hg4.out (Below.mono (Below.trans hg5 hst) hs4))
      have hr4 := hr4 rfl
      have hr4s : N ≤ w4.heap.size := hr4.size
      have hr5 := hide (((hr4.grow hg5)).below (Below.mono hst hr4.size))
      have hra5 := hide (World.rangeAt_setCells_same _ w4.heap.size 0 (scs V) ht7)
      have hth5 := hide (World.there_setCells ht7 w4.heap.size 0 (scs V))
      clear hb4 hst hb7 hg5 hr4 hVok
      go_wp2_with (refine wpList_store_mid rfl 42 (.tmp 7) (.tmp 19) rfl w4.heap.size 0 _ rfl rfl (by rw [List.size_toArray]; exact ht7) (by rw [List.size_toArray]; exact hszV.out) (all_oneCell_toArray honeV.out) ?_)
      generalize (w4.alloc (.cells Try.zeroCells42 42)).setCells w4.heap.size 0 (scs V) = W5 at *
      refine (HG.out _ _ _ hr5.out).mono ?_
      rintro r w6 ⟨rfl, hr6, hk6⟩
      have hpN := hr5.out.lt
      have hp4 : p < w4.heap.size := by
        have := hr4s
        omega
      have hlt7 : w4.heap.size < W5.heap.size := by
        have h0 : 0 < (scs V).length := by rw [hVz.out]; decide
        have h1 := (hth5.out 0 h0).1
        obtain ⟨v, hv⟩ := Option.isSome_iff_exists.1 h1
        exact World.block_lt_of_cell? W5 _ hv
      have hkb := hk6.block w4.heap.size hlt7 (by simp; omega)
      have hra6 := hide (range_keep hra5.out hkb)
      have hth6 := hide (there_keep hth5.out hkb)
      have hbx6 := hide (hbx5.out.keep (hk6.block _ hbx5.out.lt (by simp; omega)))
      have hg7 := hide (grow_kept hg6.out hk6 (fun q hq => by simp at hq; omega))
      clear hra5 hth5 hbx5 hg6 hk6 hkb hlt7
      have hszG := hide (lg_size LG hGl)
      have honeG := hide (lcs_one LG)
      have hl66 : (scs V).length = (lcs LG).length + 2 := by simp [scs, lcs, hVl, hGl]
      have thG : w6.there w4.heap.size 2 (lcs LG).toArray.size := fun k hk => by
        have := hth6.out (2 + k) (by rw [List.size_toArray] at hk; omega)
        rw [Nat.zero_add] at this
        exact this
      have hl64 : (lcs LG).length = (lcs V.l).length := by simp [lcs, hVl, hGl]
      have hra8 := hide (range_two (x := .int .i64 V.no) (y := .int .u64 (V.set : Int)) (X := lcs V.l) hra6.out hl64 (by rw [List.size_toArray] at thG; exact thG))
      have hst8 : Below w4.heap.size w6 (w6.setCells w4.heap.size 2 (lcs LG)) := Below.setCells (Nat.le_refl _) _ _ (Below.refl _ _)
      have hbx8 := hide (hbx6.out.keep (hst8.block _ hwlt))
      have hbt := hbx8.out.there
      have hr8 := hide (hr6.below (Below.mono hst8 hr4s))
      have hg8 := hide (Below.trans hg7.out (Below.mono hst8 hs4))
      have hE2 : Hid (scs ⟨X.1, Y.1, LG⟩ = .int .i64 V.no :: .int .u64 (V.set : Int) :: lcs LG) := hide (by rw [hV.out]; rfl)
      clear hst8 hl64 hl66 hra6 hth6 hbx6 hr6 hg7 ht7 hr5
      by_cases hl0 : le = 0
      · subst hl0
        rw [if_neg (by simp)] at hD
        by_cases he0 : rend F.2 = 0
        · rw [he0] at hEnd
          rw [he0, if_neg (by simp)] at hD
          have hDe := hD.out
          subst hDe
          have hszC := hide (st_size ⟨X.1, Y.1, LG⟩ hGl)
          have honeC := hide (scs_one ⟨X.1, Y.1, LG⟩)
          have hzC : Try.zeroCells42.size = (scs ⟨X.1, Y.1, LG⟩).length := by rw [hz.out, List.size_toArray]; simp [scs, lcs, hGl, zeroSt, zeroLg]
          rw [hzC] at hbt
          rw [← hE2.out] at hra8
          obtain ⟨C, hC⟩ : ∃ C, Hid (scs ⟨X.1, Y.1, LG⟩ = C) := ⟨_, hide rfl⟩
          rw [hC.out] at hszC honeC hbt hra8
          clear hzC hE2
          go_wp2_with (refine wpList_store_mid rfl 34 (.tmp 31) (.tmp 29) rfl w4.heap.size 2 _ rfl rfl thG (by rw [List.size_toArray]; exact hszG.out) (all_oneCell_toArray honeG.out) ?_)
          refine (hEnd.out _ _ _ hr8.out).mono ?_
          rintro r w9 ⟨rfl, rfl⟩
          go_wp2_with (first | refine wpList_load_mid rfl 42 (.tmp 7) rfl w4.heap.size 0 rfl C _ hra8.out Try.underlying42 rfl hszC.out ?_ | refine wpList_store_mid rfl 42 (.tmp 4) (.tmp 42) rfl w.heap.size 0 _ rfl rfl (by rw [List.size_toArray]; exact hbt) (by rw [List.size_toArray]; exact hszC.out) (all_oneCell_toArray honeC.out) ?_)
          generalize w6.setCells w4.heap.size 2 (lcs LG) = W8 at *
          refine bodyPost_ret (results_mid2 rfl _ _ w.heap.size 0 C _ rfl (World.rangeAt_setCells_same _ _ _ _ hbt) Try.underlying42 rfl hszC.out) rfl ?_
          exact ⟨by rw [hC.out]; rfl, Below.trans hg8.out (Below.setCells (Nat.le_refl _) _ _ (Below.refl _ _))⟩
        · rw [if_pos he0] at hD
          have hDe := hD.out
          subst hDe
          obtain ⟨re, hre⟩ : ∃ re, Hid (rend F.2 = re) := ⟨_, hide rfl⟩
          rw [hre.out] at hEnd he0
          have he0' : (re == 0) = false := by simpa using he0
          clear he0
          go_wp2_with (refine wpList_store_mid rfl 34 (.tmp 31) (.tmp 29) rfl w4.heap.size 2 _ rfl rfl thG (by rw [List.size_toArray]; exact hszG.out) (all_oneCell_toArray honeG.out) ?_)
          refine (hEnd.out _ _ _ hr8.out).mono ?_
          rintro r w9 ⟨rfl, rfl⟩
          go_wp2_with (refine wpList_store_mid rfl 42 (.tmp 4) (.tmp 40) rfl w.heap.size 0 _ rfl rfl hbt (by rw [hz.out, List.size_toArray]; exact hsz.out) (by rw [hz.out]; exact all_oneCell_toArray hone.out) ?_)
          generalize w6.setCells w4.heap.size 2 (lcs LG) = W8 at *
          rw [hz.out] at hbt ⊢
          refine bodyPost_ret (results_mid2 rfl _ _ w.heap.size 0 (scs zeroSt) _ rfl (World.rangeAt_setCells_same _ _ _ _ (by simpa using hbt)) Try.underlying42 rfl hsz.out) rfl ?_
          exact ⟨by rw [hre.out]; rfl, Below.trans hg8.out (Below.setCells (Nat.le_refl _) _ _ (Below.refl _ _))⟩
      · rw [if_pos hl0] at hD
        have hDe := hD.out
        subst hDe
        have hl0' : (le == 0) = false := by simpa using hl0
        clear hl0
        go_wp2_with (first | refine wpList_store_mid rfl 34 (.tmp 31) (.tmp 29) rfl w4.heap.size 2 _ rfl rfl thG (by rw [List.size_toArray]; exact hszG.out) (all_oneCell_toArray honeG.out) ?_ | refine wpList_store_mid rfl 42 (.tmp 4) (.tmp 34) rfl w.heap.size 0 _ rfl rfl hbt (by rw [hz.out, List.size_toArray]; exact hsz.out) (by rw [hz.out]; exact all_oneCell_toArray hone.out) ?_)
        generalize w6.setCells w4.heap.size 2 (lcs LG) = W8 at *
        rw [hz.out] at hbt ⊢
        refine bodyPost_ret (results_mid2 rfl _ _ w.heap.size 0 (scs zeroSt) _ rfl (World.rangeAt_setCells_same _ _ _ _ (by simpa using hbt)) Try.underlying42 rfl hsz.out) rfl ?_
        exact ⟨rfl, Below.trans hg8.out (Below.setCells (Nat.le_refl _) _ _ (Below.refl _ _))⟩
    · rw [if_pos hv0] at hD
      have hDe := hD.out
      subst hDe
      have hv0' : (ve == 0) = false := by simpa using hv0
      clear hv0
      have hst : Below w4.heap.size (w4.alloc (.cells Try.zeroCells42 42)) ((w4.alloc (.cells Try.zeroCells42 42)).setCells w4.heap.size 0 (scs V)) := Below.setCells (Nat.le_refl _) _ _ (Below.refl _ _)
      have hbt := (hb4.keep (hst.block _ hwlt)).there
      have hg6 := hide (Below.trans hg4.out (Below.mono (Below.trans hg5 hst) hs4))
      clear hb4 hst hb7 hg5
      go_wp2_with (first | refine wpList_store_mid rfl 42 (.tmp 7) (.tmp 19) rfl w4.heap.size 0 _ rfl rfl (by rw [List.size_toArray]; exact ht7) (by rw [List.size_toArray]; exact hszV.out) (all_oneCell_toArray honeV.out) ?_ | refine wpList_store_mid rfl 42 (.tmp 4) (.tmp 23) rfl w.heap.size 0 _ rfl rfl hbt (by rw [hz.out, List.size_toArray]; exact hsz.out) (by rw [hz.out]; exact all_oneCell_toArray hone.out) ?_)
      generalize (w4.alloc (.cells Try.zeroCells42 42)).setCells w4.heap.size 0 (scs V) = W5 at hbt hg6 ⊢
      rw [hz.out] at hbt ⊢
      refine bodyPost_ret (results_mid2 rfl _ _ w.heap.size 0 (scs zeroSt) _ rfl (World.rangeAt_setCells_same _ _ _ _ (by simpa using hbt)) Try.underlying42 rfl hsz.out) rfl ?_
      exact ⟨rfl, Below.trans hg6.out (Below.setCells (Nat.le_refl _) _ _ (Below.refl _ _))⟩
end Go.Proofs.Ytbccbfmgjeknhaa
