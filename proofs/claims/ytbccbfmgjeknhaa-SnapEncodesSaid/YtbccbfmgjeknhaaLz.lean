/- Chapter 41: the walk of the document's Decode. -/
import Derived.Test.YtbccbfmgjeknhaaLy
namespace Go.Proofs.Ytbccbfmgjeknhaa
open Go.RowKit
theorem zero_rst : Try.zeroCells36 = (scs zeroSt).toArray := by kernel_rfl
theorem rst_size (s : St) (h : s.l.of.length = 64) : (Try.prog.info? 36).map (·.size) = some (scs s).length := by
  rw [show (scs s).length = 68 by simp [scs, lcs, h]]
  kernel_rfl
theorem rend_of (b : List UInt8) (n : Nat) (h : lgetErr (b, 0) n = 0) : rend (gF n (gS (b, 0)).2).2 = if restG b n = [] then 0 else 5 := by
  have h0 : (gF n (gS (b, 0)).2).2.2 = 0 := by
    by_cases h0 : (gF n (gS (b, 0)).2).2.2 = 0
    · exact h0
    · unfold lgetErr at h
      rw [if_pos h0] at h
      exact absurd h h0
  unfold rend restG
  rw [if_pos h]
  by_cases h1 : (gF n (gS (b, 0)).2).2.1 = []
  · rw [if_neg (by rintro ⟨_, h2⟩; exact h2 h1), if_pos h1, h0]
  · rw [if_pos ⟨h0, h1⟩, if_neg h1]
theorem foldl_setMany : ∀ (vs : List Value) (k off : Nat) (cells : Array Value), (vs.zipIdx k).foldl (fun cs (x : Value × Nat) => cs.setIfInBounds (off + x.2) x.1) cells = setMany cells (off + k) vs
  | [], _, _, _ => rfl
  | v :: r, k, off, cells => by
    rw [List.zipIdx_cons, List.foldl_cons, foldl_setMany r (k + 1) off]
    rfl
theorem fill_part (place : Nat → Option (Nat × Nat)) (cells : Array Value) (i off size : Nat) (v : Value) (rest : List (Nat × Value)) (hp : place i = some (off, size)) (hs : v.cells.size = size) (hle : off + size ≤ cells.size) :
    Instr.fill place cells ((i, v) :: rest) = Instr.fill place (setMany cells off v.cells.toList) rest := by
  rw [Instr.fill, hp]
  dsimp only
  rw [if_neg (by simp [hs]; omega)]
  congr 1
  have := foldl_setMany v.cells.toList 0 off cells
  rw [Nat.add_zero] at this
  rw [← this, ← Array.foldl_toList, Array.toList_zipIdx]
theorem fill_rst (place : Nat → Option (Nat × Nat)) (Z : List Value) (no set : Value) (L : List Value) (h0 : place 0 = some (0, 1)) (h1 : place 1 = some (1, 1)) (h2 : place 2 = some (2, 66)) (hz : Z.length = 68) (hL : L.length = 66) (hn : no.cells = #[no]) (hs : set.cells = #[set]) :
    Instr.fill place Z.toArray [(0, no), (1, set), (2, .agg L.toArray)] = some (no :: set :: L).toArray := by
  have e1 : setMany Z.toArray 0 [no] = (no :: Z.drop 1).toArray := by
    rw [setMany_list [no] 0 Z (by simp; omega)]
    simp
  have e2 : setMany (no :: Z.drop 1).toArray 1 [set] = (no :: set :: Z.drop 2).toArray := by
    rw [setMany_list [set] 1 _ (by simp; omega)]
    simp
  have e3 : setMany (no :: set :: Z.drop 2).toArray 2 L = (no :: set :: L).toArray := by
    have hd : (no :: set :: Z.drop 2).drop (2 + L.length) = [] := List.drop_of_length_le (by simp; omega)
    rw [setMany_list L 2 _ (by simp; omega), hd]
    simp
  rw [fill_part place _ 0 0 1 no _ h0 (by rw [hn]; rfl) (by simp; omega), hn, e1, fill_part place _ 1 1 1 set _ h1 (by rw [hs]; rfl) (by simp; omega), hs, e2, fill_part place _ 2 2 66 (.agg L.toArray) _ h2 (by show L.toArray.size = 66; simpa using hL) (by simp only [List.size_toArray, List.length_cons, List.length_drop]; omega)]
  rw [show (Value.cells (.agg L.toArray)).toList = L from rfl, e3, Instr.fill]
set_option maxRecDepth 100000 in
theorem built_rst (no : Int) (set : Nat) (l : Lg) (h : l.of.length = 64) : Try.prog.built 36 [(0, .int .i64 no), (1, .int .u64 (set : Int)), (2, .agg (lcs l).toArray)] = some (scs ⟨no, set, l⟩).toArray := by
  have hi : (Try.prog.info? 36).map (·.zero) = some (some (.agg Try.zeroCells36)) := by kernel_rfl
  have hp : (match Try.prog.underlying 36 with | some (.struct fs) => fs.toList.mapM (fun f => (Try.prog.info? f.type).map fun i => (f.offset, i.size)) | _ => none) = some [(0, 1), (1, 1), (2, 66)] := by kernel_rfl
  have hz : (scs zeroSt).length = 68 := by simp [scs, lcs, zeroSt, zeroLg]
  unfold Program.built
  cases hq : Try.prog.info? 36 with
  | none => rw [hq] at hi; cases hi
  | some it =>
    have hzz : it.zero = some (.agg Try.zeroCells36) := by
      rw [hq] at hi
      exact Option.some.inj hi
    rewrite [Try.underlying36] at hp ⊢
    dsimp only at hp ⊢
    rewrite [hzz, hp]
    dsimp only
    rewrite [show Value.cells (.agg Try.zeroCells36) = Try.zeroCells36 from rfl, zero_rst]
    exact fill_rst _ _ _ _ _ rfl rfl rfl hz (by simp [lcs, h]) rfl rfl
theorem wpList_built_rst {ops : Array Oper} {rest : List Oper} {op : Oper} {a : Act} {w : World} {Q : Exit → Act → World → Prop} (hgd : op.guard = none) (x y z : Operand) (ho : op.op = .build 36 #[(0, x), (1, y), (2, z)])
    (no : Int) (set : Nat) (l : Lg) (hl : l.of.length = 64) (hx : a.eval x = .int .i64 no) (hy : a.eval y = .int .u64 (set : Int)) (hz : a.eval z = .agg (lcs l).toArray)
    (h : wpList Try.prog ops Q rest (a.put op.dst (.agg (scs ⟨no, set, l⟩).toArray)) w) : wpList Try.prog ops Q (op :: rest) a w :=
  wpList_plain hgd fun K hK => by
    unfold Oper.wp execOp
    have e : Try.prog.built 36 (Array.map (fun (p : Nat × Operand) => (p.1, a.eval p.2)) #[(0, x), (1, y), (2, z)]).toList = some (scs ⟨no, set, l⟩).toArray := by
      simp only [List.map_toArray, List.map_cons, List.map_nil, hx, hy, hz]
      exact built_rst no set l hl
    simp only [ho, Sem.run_bind, run_build w _ _ _ e, Result.andThen_ok]
    exact hK _ _ h
set_option maxRecDepth 100000 in
set_option maxHeartbeats 800000 in
theorem refdec_any (A : Option Addr) (b : List UInt8) (c : Nat) (n : Int) (w : World) (hb : Bytes w A b) (hc : b.length ≤ c) (hcm : c ≤ 9223372036854775807) :
    Calls Try.prog 23 #[.slice A b.length c, .int .i64 n] w fun r w' => r = .returned (.tuple #[.agg (scs (decR b n).1).toArray, .int .i64 (decR b n).2]) ∧ Grow w w' := by
  have hsz := hide (rst_size zeroSt (by decide))
  have hone := hide (scs_one zeroSt)
  have hz := hide zero_rst
  have hbx := Box.new w Try.zeroCells36 36 rfl
  have hg1 : Grow w (w.alloc (.cells Try.zeroCells36 36)) := (Grow.refl _).alloc _
  cases hm : manyB n with
  | false =>
    have hE : decR b n = (zeroSt, 1) := if_pos hm
    rw [hE]
    clear hE
    have hbt := hbx.there
    have hnn : n < 1 ∨ (¬ n < 1 ∧ 64 < n) := by simp [manyB] at hm; omega
    clear hm
    rcases hnn with hn | ⟨hn, hn6⟩
    all_goals
      go_enter Try.func23, Try.ntmps23
      go_wp2_with (refine wpList_store_mid rfl 36 (.tmp 4) (.tmp 17) rfl w.heap.size 0 _ rfl rfl ?_ ?_ ?_ ?_; (exact hbt); (rw [hz.out, List.size_toArray]; exact hsz.out); (rw [hz.out]; exact all_oneCell_toArray hone.out))
      rw [hz.out] at hbt ⊢
      refine bodyPost_ret (results_mid2 rfl _ _ w.heap.size 0 (scs zeroSt) _ rfl (World.rangeAt_setCells_same _ _ _ _ (by simpa using hbt)) Try.underlying36 rfl hsz.out) rfl ?_
      exact ⟨rfl, Below.trans (by rw [hz.out] at hg1; exact hg1) (Below.setCells (Nat.le_refl _) _ _ (Below.refl _ _))⟩
  | true =>
    obtain ⟨N0, rfl, hN1, hN64⟩ : ∃ N : Nat, n = (N : Int) ∧ 1 ≤ N ∧ N ≤ 64 := by
      simp [manyB] at hm
      exact ⟨n.toNat, by omega, by omega, by omega⟩
    have hD : Hid (decR b (N0 : Int) = if vErr (b, 0) N0 ≠ 0 then (zeroSt, vErr (b, 0) N0) else if lgetErr (vSet (b, 0)).2 N0 ≠ 0 then (zeroSt, lgetErr (vSet (b, 0)).2 N0) else if rend (gF N0 (gS (vSet (b, 0)).2).2).2 ≠ 0 then (zeroSt, rend (gF N0 (gS (vSet (b, 0)).2).2).2) else (⟨(vNo (b, 0)).1, (vSet (b, 0)).1, lgetLg (vSet (b, 0)).2 N0⟩, 0)) := hide (by
      unfold decR
      rw [if_neg (by rw [hm]; decide), Int.toNat_natCast])
    have hvE : Hid (vErr (b, 0) N0 = if (vNo (b, 0)).1 > 1152921504606846976 then 2 else if (vNo (b, 0)).2.2 ≠ 0 then (vNo (b, 0)).2.2 else if (vSet (b, 0)).2.2 ≠ 0 then (vSet (b, 0)).2.2 else if 2 ^ N0 ≤ (vSet (b, 0)).1 then 8 else 0) := hide rfl
    have HX := hide (refgetnum_any A b c (w.alloc (.cells Try.zeroCells36 36)) (hb.grow hg1) hc hcm)
    have e1 : Buf.getNum b = vNo (b, 0) := rfl
    rw [e1] at HX
    have hbad : (vNo (b, 0)).2.2 ≠ 0 → (vNo (b, 0)).1 = 0 := fun h => congrArg Prod.fst (Buf.getNum_bad b h)
    have hxlt : (vNo (b, 0)).1 < 18446744073709551616 := rnum_lt _
    have e2 : vSet (b, 0) = rfix 8 (vNo (b, 0)).2 := rfl
    have hylt : (vSet (b, 0)).1 < 18446744073709551616 := rfix_lt8 _ _
    have e3 : (vNo (b, 0)).2.2 = 0 → vSet (b, 0) = Buf.getFixed (vNo (b, 0)).2.1 8 := fun h => rfix_ok0 8 _ h
    obtain ⟨D, hDD⟩ : ∃ D, Hid (decR b (N0 : Int) = D) := ⟨_, hide rfl⟩
    rw [hDD.out] at hD ⊢
    generalize vErr (b, 0) N0 = vE at *
    generalize vSet (b, 0) = Y at *
    generalize vNo (b, 0) = X at *
    obtain ⟨x, t1, e1'⟩ := X
    obtain ⟨y, t2, e2'⟩ := Y
    dsimp only at *
    clear hm e1 e2 hDD
    have hn1 : ¬ (N0 : Int) < 1 := by omega
    have hn6 : ¬ (64 : Int) < (N0 : Int) := by omega
    have hlt1 : w.heap.size < (w.alloc (.cells Try.zeroCells36 36)).heap.size := by simp
    have hbx := hide hbx
    have hg1 := hide hg1
    have hb := hide hb
    go_enter Try.func23, Try.ntmps23
    go_wp2_with fail
    generalize w.alloc (.cells Try.zeroCells36 36) = w1 at *
    refine HX.out.mono ?_
    rintro r w2 ⟨⟨A1, c1, rfl, hl1, hm1, hs1⟩, hg2⟩
    have hbx2 := hide (hbx.out.grow hg2)
    have hg2 := hide (hg1.out.trans hg2)
    have hb2 := hide (hs1 _ (hb.out.grow hg2.out))
    clear hbx hg1 HX
    have fin : ∀ (r : Ending) (e : Int), D = (zeroSt, e) → r = .returned (.tuple #[.agg (scs zeroSt).toArray, .int .i64 e]) → r = .returned (.tuple #[.agg (scs D.1).toArray, .int .i64 D.2]) := fun r e h1 h2 => by rw [h1]; exact h2
    have fin := hide fin
    by_cases hx : 1152921504606846976 < x
    · have hq : e1' = 0 := by
        rcases Classical.em (e1' = 0) with h | h
        · exact h
        · have := hbad h; omega
      subst hq
      rw [if_pos hx] at hvE
      rw [hvE.out, if_pos (by decide)] at hD
      have hbt := hbx2.out.there
      have hx' : (1152921504606846976 : Int) < (x : Int) := by omega
      clear hbad e3 hx
      go_wp2_with (refine wpList_store_mid rfl 36 (.tmp 4) (.tmp 32) rfl w.heap.size 0 _ rfl rfl ?_ ?_ ?_ ?_; (exact hbt); (rw [hz.out, List.size_toArray]; exact hsz.out); (rw [hz.out]; exact all_oneCell_toArray hone.out))
      rw [hz.out] at hbt ⊢
      refine bodyPost_ret (results_mid2 rfl _ _ w.heap.size 0 (scs zeroSt) _ rfl (World.rangeAt_setCells_same _ _ _ _ (by simpa using hbt)) Try.underlying36 rfl hsz.out) rfl ?_
      exact ⟨fin.out _ _ hD.out rfl, Below.trans hg2.out (Below.setCells (Nat.le_refl _) _ _ (Below.refl _ _))⟩
    · rw [if_neg hx] at hvE
      have hx' : ¬ (1152921504606846976 : Int) < (x : Int) := by omega
      by_cases hq : e1' = 0
      · subst hq
        rw [if_neg (by simp)] at hvE
        have e3 := hide (e3 rfl)
        have HY := hide (fun W h => refgetfixed_any A1 t1 c1 8 W h hl1 hm1)
        rw [← e3.out] at HY
        dsimp only at HY
        clear hbad e3
        go_wp2_with fail
        refine (HY.out _ hb2.out).mono ?_
        rintro r w3 ⟨⟨A2, c2, rfl, hl2, hm2, hs2⟩, hg3⟩
        have hbx3 := hide (hbx2.out.grow hg3)
        have hb3 := hide ((hs2 _ hb2.out).grow hg3)
        have hg3 := hide (hg2.out.trans hg3)
        have hs2 := hide hs2
        clear hbx2 hg2 HY
        by_cases hq2 : e2' = 0
        · subst hq2
          rw [if_neg (by simp)] at hvE
          have HB := hide (fun W => beyond_any y N0 W hylt (by omega) (by omega))
          rw [beyond_eq y N0 hN64 hylt] at HB
          by_cases hbd : 2 ^ N0 ≤ y
          · rw [if_pos hbd] at hvE
            rw [hvE.out, if_pos (by decide)] at hD
            rw [show (!decide (y < 2 ^ N0)) = true from by simp; omega] at HB
            clear hbd
            go_wp2_with fail
            refine (HB.out _).mono ?_
            rintro r w4 ⟨rfl, hg4⟩
            have hbt := (hbx3.out.grow hg4).there
            have hg4 := hide (hg3.out.trans hg4)
            go_wp2_with (refine wpList_store_mid rfl 36 (.tmp 4) (.tmp 49) rfl w.heap.size 0 _ rfl rfl ?_ ?_ ?_ ?_; (exact hbt); (rw [hz.out, List.size_toArray]; exact hsz.out); (rw [hz.out]; exact all_oneCell_toArray hone.out))
            rw [hz.out] at hbt ⊢
            refine bodyPost_ret (results_mid2 rfl _ _ w.heap.size 0 (scs zeroSt) _ rfl (World.rangeAt_setCells_same _ _ _ _ (by simpa using hbt)) Try.underlying36 rfl hsz.out) rfl ?_
            exact ⟨fin.out _ _ hD.out rfl, Below.trans hg4.out (Below.setCells (Nat.le_refl _) _ _ (Below.refl _ _))⟩
          · rw [if_neg hbd] at hvE
            rw [hvE.out, if_neg (by decide)] at hD
            rw [show (!decide (y < 2 ^ N0)) = false from by simp; omega] at HB
            have HG := hide (fun W h => refget_any A2 t2 c2 N0 W h hl2 hm2 hN1 hN64)
            have hGl := lgetLg_len (t2, 0) N0
            have hrend := hide (rend_of t2 N0)
            have hGA : Hid (∀ r, GetA A2 t2 N0 r → ∃ v, r = .returned (.tuple #[.agg (lcs (lgetLg (t2, 0) N0)).toArray, v, .int .i64 (lgetErr (t2, 0) N0)]) ∧ Sub A2 t2 v (restG t2 N0)) := hide (fun r h => h)
            generalize rend (gF N0 (gS (t2, 0)).2).2 = re at *
            generalize lgetErr (t2, 0) N0 = le at *
            generalize lgetLg (t2, 0) N0 = LG at *
            generalize restG t2 N0 = RG at *
            have hszC := hide (lg_size LG hGl)
            have honeC := hide (lcs_one LG)
            have hCl : Hid (Try.zeroCells34.size = (lcs LG).length) := hide (by rw [zero_lg, List.size_toArray]; simp [lcs, hGl, zeroLg])
            obtain ⟨C, hC⟩ : ∃ C, Hid (lcs LG = C) := ⟨_, hide rfl⟩
            rw [hC.out] at hszC honeC hCl hGA
            clear hbd hvE
            go_wp2_with fail
            refine (HB.out _).mono ?_
            rintro r w4 ⟨rfl, hg4⟩
            have hbx4 := hide (hbx3.out.grow hg4)
            have hb4 := hide (hb3.out.grow hg4)
            have hg4 := hide (hg3.out.trans hg4)
            clear hbx3 hg3 hb3 HB
            go_wp2_with fail
            refine (HG.out _ hb4.out).mono ?_
            rintro r w5 ⟨hga, hg5⟩
            obtain ⟨v, rfl, A3, c3, rfl, hl3, hm3, _⟩ := hGA.out _ hga
            have hbx5 := hbx4.out.grow hg5
            have hg5 := hg4.out.trans hg5
            have hs5 := hg5.size
            have hw5 := hbx5.lt
            have hb10 := Box.new w5 Try.zeroCells34 34 rfl
            have ht10 := hb10.there
            rw [hCl.out] at ht10
            have hg6 := (Grow.refl w5).alloc (.cells Try.zeroCells34 34)
            have hst : Below w5.heap.size (w5.alloc (.cells Try.zeroCells34 34)) ((w5.alloc (.cells Try.zeroCells34 34)).setCells w5.heap.size 0 C) := Below.setCells (Nat.le_refl _) _ _ (Below.refl _ _)
            have hg6 := Below.trans hg6 hst
            have hra := hide (World.rangeAt_setCells_same _ w5.heap.size 0 C ht10)
            have hbt := (hbx5.grow hg6).there
            have hg6 := hide (Grow.trans hg5 hg6)
            clear hbx4 hb4 hg4 HG hga hGA hbx5 hg5 hb10 hst
            by_cases hl0 : le = 0
            · subst hl0
              rw [hrend.out rfl, if_neg (by simp)] at hD
              by_cases hr : RG = []
              · subst hr
                rw [if_pos rfl, if_neg (by simp)] at hD
                have hDe := hD.out
                have hszD := hide (rst_size ⟨x, y, LG⟩ hGl)
                have honeD := hide (scs_one ⟨x, y, LG⟩)
                have hzD : Try.zeroCells36.size = (scs ⟨x, y, LG⟩).length := by rw [hz.out, List.size_toArray]; simp [scs, lcs, hGl, zeroSt, zeroLg]
                rw [hzD] at hbt
                subst hDe
                obtain ⟨E, hE⟩ : ∃ E, Hid (scs ⟨x, y, LG⟩ = E) := ⟨_, hide rfl⟩
                rw [hE.out] at hszD honeD hbt
                clear hrend hzD
                have hx8 : (x : Int) < 9223372036854775808 := by omega
                go_wp2_with (first | (refine wpList_built_rst rfl (.tmp 70) (.tmp 71) (.tmp 72) rfl x y LG hGl ?_ ?_ ?_ ?_; (rfl); (rfl); (exact (congrArg (fun l => Value.agg l.toArray) hC.out.symm)); (rewrite [hE.out])) | (refine wpList_store_mid rfl 36 (.tmp 4) (.tmp 73) rfl w.heap.size 0 _ rfl rfl ?_ ?_ ?_ ?_; (rw [List.size_toArray]; exact hbt); (rw [List.size_toArray]; exact hszD.out); (exact all_oneCell_toArray honeD.out)) | (refine wpList_store_mid rfl 34 (.tmp 10) (.tmp 55) rfl w5.heap.size 0 _ rfl rfl ?_ ?_ ?_ ?_; (rw [List.size_toArray]; exact ht10); (rw [List.size_toArray]; exact hszC.out); (exact all_oneCell_toArray honeC.out)) | (refine wpList_load_mid rfl 34 (.tmp 10) rfl w5.heap.size 0 rfl C _ hra.out Try.underlying34 rfl hszC.out ?_))
                generalize (w5.alloc (.cells Try.zeroCells34 34)).setCells w5.heap.size 0 C = w6 at *
                refine bodyPost_ret (results_mid2 rfl _ _ w.heap.size 0 E _ rfl (World.rangeAt_setCells_same _ _ _ _ hbt) Try.underlying36 rfl hszD.out) rfl ?_
                exact ⟨by rw [hE.out]; rfl, Below.trans hg6.out (Below.setCells (Nat.le_refl _) _ _ (Below.refl _ _))⟩
              · rw [if_neg hr, if_pos (by decide)] at hD
                have hrl : (0 : Int) < (RG.length : Int) := by
                  have : RG.length ≠ 0 := fun h => hr (List.length_eq_zero_iff.1 h)
                  omega
                clear hr hrend hC hra
                go_wp2_with (first | (refine wpList_store_mid rfl 34 (.tmp 10) (.tmp 55) rfl w5.heap.size 0 _ rfl rfl ?_ ?_ ?_ ?_; (rw [List.size_toArray]; exact ht10); (rw [List.size_toArray]; exact hszC.out); (exact all_oneCell_toArray honeC.out)) | (refine wpList_store_mid rfl 36 (.tmp 4) (.tmp 67) rfl w.heap.size 0 _ rfl rfl ?_ ?_ ?_ ?_; (exact hbt); (rw [hz.out, List.size_toArray]; exact hsz.out); (rw [hz.out]; exact all_oneCell_toArray hone.out)))
                generalize (w5.alloc (.cells Try.zeroCells34 34)).setCells w5.heap.size 0 C = w6 at *
                rw [hz.out] at hbt ⊢
                refine bodyPost_ret (results_mid2 rfl _ _ w.heap.size 0 (scs zeroSt) _ rfl (World.rangeAt_setCells_same _ _ _ _ (by simpa using hbt)) Try.underlying36 rfl hsz.out) rfl ?_
                exact ⟨fin.out _ _ hD.out rfl, Below.trans hg6.out (Below.setCells (Nat.le_refl _) _ _ (Below.refl _ _))⟩
            · rw [if_pos hl0] at hD
              have hl0' : (le == 0) = false := by simpa using hl0
              clear hl0 hrend hC hra
              go_wp2_with (first | (refine wpList_store_mid rfl 34 (.tmp 10) (.tmp 55) rfl w5.heap.size 0 _ rfl rfl ?_ ?_ ?_ ?_; (rw [List.size_toArray]; exact ht10); (rw [List.size_toArray]; exact hszC.out); (exact all_oneCell_toArray honeC.out)) | (refine wpList_store_mid rfl 36 (.tmp 4) (.tmp 67) rfl w.heap.size 0 _ rfl rfl ?_ ?_ ?_ ?_; (exact hbt); (rw [hz.out, List.size_toArray]; exact hsz.out); (rw [hz.out]; exact all_oneCell_toArray hone.out)))
              generalize (w5.alloc (.cells Try.zeroCells34 34)).setCells w5.heap.size 0 C = w6 at *
              rw [hz.out] at hbt ⊢
              refine bodyPost_ret (results_mid2 rfl _ _ w.heap.size 0 (scs zeroSt) _ rfl (World.rangeAt_setCells_same _ _ _ _ (by simpa using hbt)) Try.underlying36 rfl hsz.out) rfl ?_
              exact ⟨fin.out _ _ hD.out rfl, Below.trans hg6.out (Below.setCells (Nat.le_refl _) _ _ (Below.refl _ _))⟩
        · rw [if_pos hq2] at hvE
          rw [hvE.out, if_pos hq2] at hD
          have hq2' : (e2' == 0) = false := by simpa using hq2
          have hbt := hbx3.out.there
          clear hq2
          go_wp2_with (refine wpList_store_mid rfl 36 (.tmp 4) (.tmp 49) rfl w.heap.size 0 _ rfl rfl ?_ ?_ ?_ ?_; (exact hbt); (rw [hz.out, List.size_toArray]; exact hsz.out); (rw [hz.out]; exact all_oneCell_toArray hone.out))
          rw [hz.out] at hbt ⊢
          refine bodyPost_ret (results_mid2 rfl _ _ w.heap.size 0 (scs zeroSt) _ rfl (World.rangeAt_setCells_same _ _ _ _ (by simpa using hbt)) Try.underlying36 rfl hsz.out) rfl ?_
          exact ⟨fin.out _ _ hD.out rfl, Below.trans hg3.out (Below.setCells (Nat.le_refl _) _ _ (Below.refl _ _))⟩
      · rw [if_pos hq] at hvE
        rw [hvE.out, if_pos hq] at hD
        have hq' : (e1' == 0) = false := by simpa using hq
        have hbt := hbx2.out.there
        clear hbad e3 hx hq
        go_wp2_with (refine wpList_store_mid rfl 36 (.tmp 4) (.tmp 32) rfl w.heap.size 0 _ rfl rfl ?_ ?_ ?_ ?_; (exact hbt); (rw [hz.out, List.size_toArray]; exact hsz.out); (rw [hz.out]; exact all_oneCell_toArray hone.out))
        rw [hz.out] at hbt ⊢
        refine bodyPost_ret (results_mid2 rfl _ _ w.heap.size 0 (scs zeroSt) _ rfl (World.rangeAt_setCells_same _ _ _ _ (by simpa using hbt)) Try.underlying36 rfl hsz.out) rfl ?_
        exact ⟨fin.out _ _ hD.out rfl, Below.trans hg2.out (Below.setCells (Nat.le_refl _) _ _ (Below.refl _ _))⟩
end Go.Proofs.Ytbccbfmgjeknhaa
