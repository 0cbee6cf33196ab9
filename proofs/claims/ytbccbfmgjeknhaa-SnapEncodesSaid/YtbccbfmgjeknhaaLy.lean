/- Chapter 37: the walk of the document's Get. -/
import Derived.Test.YtbccbfmgjeknhaaLx
namespace Go.Proofs.Ytbccbfmgjeknhaa
open Go.RowKit
theorem rfix_ok0 (n : Int) (s : List UInt8 × Int) (h : s.2 = 0) : rfix n s = Buf.getFixed s.1 n := by
  unfold rfix Buf.rget
  rw [if_pos h]
set_option maxRecDepth 100000 in
set_option maxHeartbeats 800000 in
theorem refget_any (A : Option Addr) (b : List UInt8) (c n : Nat) (w : World) (hb : Bytes w A b) (hc : b.length ≤ c) (hcm : c ≤ 9223372036854775807) (h1 : 1 ≤ n) (h64 : n ≤ 64) :
    Calls Try.prog 56 #[.slice A b.length c, .int .i64 n] w fun r w' => GetA A b n r ∧ Grow w w' := by
  have HNo := hide (fun W => refnodes_any (n : Int) W (by omega) (by omega))
  rw [nodesR_nat n h64] at HNo
  have hn64 : (n : Int) ≤ 64 := by omega
  have hn0 : (0 : Int) ≤ (n : Int) := by omega
  have hsz := hide (lg_size zeroLg (by decide))
  have hone := hide (lcs_one zeroLg)
  have hz := hide zero_lg
  have hbx := (Box.new w Try.zeroCells34 34 rfl)
  have hg1 : Grow w (w.alloc (.cells Try.zeroCells34 34)) := (Grow.refl _).alloc _
  by_cases hs : b.length < 16 + 4 * n
  · have hE : lgetErr (b, 0) n = 3 := by unfold lgetErr; rw [lget_short b n hs]; rfl
    have hL : lgetLg (b, 0) n = zeroLg := if_neg (by rw [hE]; decide)
    have hR : restG b n = [] := if_neg (by rw [hE]; decide)
    have hfin : ∀ r, r = .returned (.tuple #[.agg (lcs zeroLg).toArray, .slice none 0 0, .int .i64 3]) → GetA A b n r := fun r h => ⟨_, by rw [hE, hL]; exact h, by rw [hR]; exact Sub.nil _ _⟩
    have hfin := hide hfin
    have hlt : decide ((b.length : Int) < 16 + 4 * (n : Int)) = true := by simp; omega
    clear hE hL hR
    have hbt := hbx.there
    go_enter Try.func56, Try.ntmps56
    go_wp2_with fail
    refine (HNo.out _).mono ?_
    rintro r w2 ⟨rfl, rfl⟩
    go_wp2_with (refine wpList_store_mid rfl 34 (.tmp 4) (.tmp 22) rfl w.heap.size 0 _ rfl rfl hbt (by rw [hz.out, List.size_toArray]; exact hsz.out) (by rw [hz.out]; exact all_oneCell_toArray hone.out) ?_)
    rw [hz.out] at hbt ⊢
    refine bodyPost_ret (results_cell_tmp2 rfl _ _ w.heap.size 0 (lcs zeroLg) _ rfl (World.rangeAt_setCells_same _ _ _ _ (by simpa using hbt)) Try.underlying34 rfl hsz.out) rfl ?_
    refine ⟨hfin.out _ rfl, Below.trans (by rw [hz.out] at hg1; exact hg1) (Below.setCells (Nat.le_refl _) _ _ (Below.refl _ _))⟩
  · have hlt : decide ((b.length : Int) < 16 + 4 * (n : Int)) = false := by simp; omega
    have hF0 := hide (fun k (hk : k ≤ n) => show (gF k (gS (b, 0)).2).2.2 = 0 by rw [lget_long b n (by omega) k hk])
    have hX0 : (gC (b, 0)).2.2 = 0 := by rw [gC_long b (by omega)]
    have hY0 : (gS (b, 0)).2.2 = 0 := by rw [gS_long b (by omega)]
    have HC := hide (fun W h => refgetfixed_any A b c 8 W h hc hcm)
    have HS := hide (fun A1 c1 W h hc hm => refgetfixed_any A1 (gC (b, 0)).2.1 c1 8 W h hc hm)
    have HF := hide (fun k A1 c1 W h hc hm => refgetfixed_any A1 (gF k (gS (b, 0)).2).2.1 c1 4 W h hc hm)
    have e1 : Buf.getFixed b 8 = gC (b, 0) := rfl
    have e2 : Buf.getFixed (gC (b, 0)).2.1 8 = gS (b, 0) := (rfix_ok0 8 (gC (b, 0)).2 hX0).symm
    rw [e1] at HC
    rw [e2] at HS
    have hc64 : (gC (b, 0)).1 < 18446744073709551616 := rfix_lt8 _ _
    have hs64 : (gS (b, 0)).1 < 18446744073709551616 := rfix_lt8 _ _
    have hER : Hid (lgetErr (b, 0) n = if (gF n (gS (b, 0)).2).2.2 ≠ 0 then (gF n (gS (b, 0)).2).2.2 else if wrap64 (gC (b, 0)).1 < 0 then 5 else if wrap64 (gC (b, 0)).1 ≠ ((gF n (gS (b, 0)).2).1.sum : Nat) then 5 else 0) := hide rfl
    have hLG : Hid (lgetLg (b, 0) n = if lgetErr (b, 0) n = 0 then ⟨wrap64 (gC (b, 0)).1, (gS (b, 0)).1, (gF n (gS (b, 0)).2).1⟩ else zeroLg) := hide rfl
    have hRG : Hid (restG b n = if lgetErr (b, 0) n = 0 then (gF n (gS (b, 0)).2).2.1 else []) := hide rfl
    have hfin : Hid (∀ r v, Sub A b v (restG b n) → r = .returned (.tuple #[.agg (lcs (lgetLg (b, 0) n)).toArray, v, .int .i64 (lgetErr (b, 0) n)]) → GetA A b n r) := hide (fun r v hv h => ⟨v, h, hv⟩)
    generalize lgetErr (b, 0) n = ER at *
    generalize lgetLg (b, 0) n = LG at *
    generalize restG b n = RG at *
    generalize gS (b, 0) = Y at *
    generalize gC (b, 0) = X at *
    obtain ⟨x, t1, e1'⟩ := X
    obtain ⟨y, t2, e2'⟩ := Y
    dsimp only at *
    subst hX0 hY0
    clear e1 e2
    have hbs : w.heap.size < (w.alloc (.cells Try.zeroCells34 34)).heap.size := by simp
    have hb := hide hb
    have hbx := hide hbx
    have hg1 := hide hg1
    go_enter Try.func56, Try.ntmps56
    go_wp2_with fail
    refine (HNo.out _).mono ?_
    rintro r w2 ⟨rfl, rfl⟩
    generalize w.alloc (.cells Try.zeroCells34 34) = w1 at *
    have hby := (Box.new w1 Try.zeroCells34 34 rfl)
    have hg12 := (Grow.refl w1).alloc (.cells Try.zeroCells34 34)
    have hbyt := hby.there
    have hby2 := hby.setCells_all Try.zeroCells34.toList (by simp)
    have hst : Below w1.heap.size (w1.alloc (.cells Try.zeroCells34 34)) ((w1.alloc (.cells Try.zeroCells34 34)).setCells w1.heap.size 0 Try.zeroCells34.toList) := Below.setCells (Nat.le_refl _) _ _ (Below.refl _ _)
    have hg12 := Below.trans hg12 hst
    have hbx2 := hide (hbx.out.grow hg12)
    have hg2 := hide (hg1.out.trans hg12)
    have hby2 := hide hby2
    clear hbx hby hg1 hst hg12
    go_wp2_with (refine wpList_store_mid rfl 34 (.tmp 7) (.tmp 23) rfl w1.heap.size 0 _ rfl rfl ?_ ?_ ?_ ?_; (exact hbyt); (rw [hz.out, List.size_toArray]; exact hsz.out); (rw [hz.out]; exact all_oneCell_toArray hone.out))
    generalize (w1.alloc (.cells Try.zeroCells34 34)).setCells w1.heap.size 0 Try.zeroCells34.toList = w2 at *
    clear hbyt
    refine (HC.out _ (hb.out.grow hg2.out)).mono ?_
    rintro r w3 ⟨⟨A1, c1, rfl, hl1, hm1, hs1⟩, hg3⟩
    have hby3 : Box w3 w1.heap.size (lcs zeroLg).toArray := by
      have := hby2.out
      rw [Array.toArray_toList] at this
      rw [← hz.out]
      exact this.grow hg3
    have hbx3 := hide (hbx2.out.grow hg3)
    have hg3 := hide (hg2.out.trans hg3)
    have hb3 := hide (hs1 _ (hb.out.grow hg3.out))
    have hs1 := hide hs1
    have hc0 : w3.cell? ⟨w1.heap.size, 0, none⟩ = some (.int .i64 0) := hby3.cell 0
    have hf0 := hby3.fz 0
    have hby3 := hide hby3
    clear hbx2 hby2 hg2 HC
    go_wp2_with fail
    generalize hW : w3.setCell ⟨w1.heap.size, 0, none⟩ (.int .i64 (wrap64 x)) = w4
    have hby4 : Box w4 w1.heap.size ((lcs zeroLg).toArray.setIfInBounds 0 (.int .i64 (wrap64 x))) := by
      subst hW
      exact Box.set hby3.out 0 _
    have hbx4 : Box w4 w.heap.size Try.zeroCells34 := by
      subst hW
      exact Box.set_ne hbx3.out (show w1.heap.size ≠ w.heap.size by omega) _
    have hg4 : Grow w w4 := by
      subst hW
      exact Below.setCell hg3.out (show w.heap.size ≤ w1.heap.size by omega) _
    have hb4 : Bytes w4 A1 t1 := hs1.out _ (hb.out.grow hg4)
    have hby4 := hide hby4
    have hbx4 := hide hbx4
    have hg4 := hide hg4
    have hb4 := hide hb4
    clear hW hby3 hbx3 hg3 hb3 hc0 hf0
    refine (HS.out _ _ _ hb4.out hl1 hm1).mono ?_
    rintro r w5 ⟨⟨A2, c2, rfl, hl2, hm2, hs2⟩, hg5⟩
    have hby5 := hby4.out.grow hg5
    have hbx5 := hide (hbx4.out.grow hg5)
    have hg5 := hide (hg4.out.trans hg5)
    have hs2 : Hid (∀ W, Bytes W A b → Bytes W A2 t2) := hide (fun W h => hs2 W (hs1.out W h))
    have hc1 : w5.cell? ⟨w1.heap.size, 1, none⟩ = some (.int .u64 0) := hby5.cell 1
    have hf1 := hby5.fz 1
    have hby5 := hide hby5
    clear hby4 hbx4 hg4 hb4 hs1 HS
    go_wp2_with fail
    generalize hW : w5.setCell ⟨w1.heap.size, 1, none⟩ (.int .u64 y) = w6
    have hby6 : Box w6 w1.heap.size (lcs ⟨wrap64 x, y, (gF 0 (t2, 0)).1⟩).toArray := by
      subst hW
      exact Box.set hby5.out 1 _
    have hbx6 : Box w6 w.heap.size Try.zeroCells34 := by
      subst hW
      exact Box.set_ne hbx5.out (show w1.heap.size ≠ w.heap.size by omega) _
    have hg6 : Grow w w6 := by
      subst hW
      exact Below.setCell hg5.out (show w.heap.size ≤ w1.heap.size by omega) _
    have hby6 := hide hby6
    have hbx6 := hide hbx6
    have hg6 := hide hg6
    clear hW hby5 hbx5 hg5 hc1 hf1
    go_wp2
    go_loopw [9, 11] (fun v i wr => ∃ k : Nat, k ≤ n ∧ i = .int .i64 k ∧ Sub A b v (gF k (t2, 0)).2.1 ∧ Hid (Box wr w1.heap.size (lcs ⟨wrap64 x, y, (gF k (t2, 0)).1⟩).toArray) ∧ Hid (Box wr w.heap.size Try.zeroCells34) ∧ Hid (Grow w wr)) (fun _ i _ => n - (intOf i).toNat)
    case atStart => exact ⟨0, by omega, rfl, ⟨A2, c2, rfl, hl2, hm2, hs2.out⟩, hby6, hbx6, hg6⟩
    case round =>
      obtain ⟨k, hkn, rfl, hsub, hby7, hbx7, hg7⟩ := hrel
      clear hby6 hbx6 hg6 hlt hs2
      obtain ⟨A3, c3, rfl, hl3, hm3, hs3⟩ := hsub
      by_cases hlt : k < n
      · have hki : (k : Int) < (n : Int) := by omega
        have hk64 : (k : Int) < 64 := by omega
        have hF1 : gF (k + 1) (t2, 0) = ((gF k (t2, 0)).1.set k ((rfix 4 (gF k (t2, 0)).2).1 % 4294967296), (rfix 4 (gF k (t2, 0)).2).2) := rfl
        have hF1 := hide hF1
        have hlen := gF_len k (t2, 0)
        have HFk := hide (HF.out k)
        have hlt4 := rfix_lt8 4 (gF k (t2, 0)).2
        rw [← rfix_ok0 4 (gF k (t2, 0)).2 (hF0.out k hkn)] at HFk
        generalize rfix 4 (gF k (t2, 0)).2 = Z at *
        generalize gF k (t2, 0) = G at *
        obtain ⟨L, sk, ek⟩ := G
        obtain ⟨z, sz, ez⟩ := Z
        dsimp only at *
        have hkL : k < L.length := by rw [hlen]; omega
        have hb7 := hide (hs3 _ (hb.out.grow hg7.out))
        have hs3 := hide hs3
        go_wp2_with fail
        refine (HNo.out _).mono ?_
        rintro r w8 ⟨rfl, rfl⟩
        go_wp2_with fail
        refine (HFk.out _ _ _ hb7.out hl3 hm3).mono ?_
        rintro r w9 ⟨⟨A4, c4, rfl, hl4, hm4, hs4⟩, hg9⟩
        have hbx9 := hide (hbx7.out.grow hg9)
        have hby9 := hby7.out.grow hg9
        have hg9 := hide (hg7.out.trans hg9)
        have hs4 : Hid (∀ W, Bytes W A b → Bytes W A4 sz) := hide (fun W h => hs4 W (hs3.out W h))
        have hcell : w9.cell? ⟨w1.heap.size, 2 + k, none⟩ = some (u32v L[k]) := by rw [hby9.cell]; exact lcs_get _ k hkL
        have hfz := hby9.fz (2 + k)
        have hby9 := hide hby9
        clear hbx7 hby7 hg7 hs3 hb7
        unfold u32v at hcell
        go_wp2
        have hbs' : w.heap.size ≤ w1.heap.size := by omega
        refine ⟨⟨k + 1, by omega, by go_num, by rw [hF1.out]; exact ⟨A4, c4, rfl, hl4, hm4, hs4.out⟩, hide ?_, hide ?_, hide ?_⟩, by simp [intOf]; omega⟩
        · rw [hF1.out, ← lcs_set ⟨wrap64 x, y, L⟩]
          have e : Value.int IntKind.u32 ((z : Int) % 4294967296) = u32v (z % 4294967296) := by unfold u32v; congr 1
          rw [e]
          exact Box.set hby9.out _ _
        · exact Box.set_ne hbx9.out (show w1.heap.size ≠ w.heap.size by omega) _
        · exact Below.setCell hg9.out hbs' _
      · obtain rfl : k = n := by omega
        clear hlt
        have hki : decide ((k : Int) < (k : Int)) = false := by simp
        have hlen := gF_len k (t2, 0)
        have hGlt := hide (gF_lt k (t2, 0))
        have hF00 := hF0.out k (Nat.le_refl _)
        obtain ⟨G, hGe⟩ : ∃ G, Hid (gF k (t2, 0) = G) := ⟨_, hide rfl⟩
        rw [hGe.out] at hlen hGlt hby7 hs3 hl3 hER hLG hRG hF00 ⊢
        clear hGe
        obtain ⟨L, sk, eF⟩ := G
        dsimp only at *
        subst hF00
        have hw0 : -9223372036854775808 ≤ wrap64 x ∧ wrap64 x ≤ 9223372036854775807 := by unfold wrap64; omega
        generalize wrap64 x = cc at *
        have hOk : Lg.Ok ⟨cc, y, L⟩ := ⟨hlen, hGlt.out, hs64, hw0.1, hw0.2⟩
        have HT := hide (fun W => refltotal_any ⟨cc, y, L⟩ W hOk)
        have hszL := hide (lg_size ⟨cc, y, L⟩ hlen)
        have honeL := hide (lcs_one ⟨cc, y, L⟩)
        have hra := hide (range_of hby7.out (lcs ⟨cc, y, L⟩) (fun j v hj => by rw [Nat.zero_add, List.getElem?_toArray]; exact hj))
        have hlcs : Hid ((lcs ⟨cc, y, L⟩).length = (lcs zeroLg).length) := hide (by simp [lcs, hlen, zeroLg])
        have hc0 : wr.cell? ⟨w1.heap.size, 0, none⟩ = some (.int .i64 cc) := hby7.out.cell 0
        obtain ⟨C, hCC⟩ : ∃ C, Hid (lcs ⟨cc, y, L⟩ = C) := ⟨_, hide rfl⟩
        rw [hCC.out] at HT hszL honeL hra hlcs
        obtain ⟨T, hT⟩ : ∃ T, Hid (T = L.sum) := ⟨_, hide rfl⟩
        have HT : Hid (∀ W, Calls Try.prog 45 #[.agg C.toArray] W fun r w' => r = .returned (.int .i64 (T : Nat)) ∧ Grow W w') := by rw [hT.out]; exact HT
        rw [if_neg (by simp)] at hER
        have hER : Hid (ER = if cc < 0 then 5 else if cc ≠ (T : Nat) then 5 else 0) := by rw [hT.out]; exact hER
        have hs3 := hide hs3
        clear hby7 HF hGlt hOk hF0
        by_cases hneg : cc < 0
        · rw [if_pos hneg] at hER
          have hE := hER.out
          rw [hE, if_neg (by decide)] at hLG hRG
          have hL := hLG.out
          have hR := hRG.out
          subst hE hL hR
          have hn0 : decide (cc < 0) = true := by simpa using hneg
          clear hneg
          go_wp2_with fail
          refine (HNo.out _).mono ?_
          rintro r w8 ⟨rfl, rfl⟩
          have C0 := fun (W : World) (h : Grow wr.drew W) => Grow.cell' (Grow.of_drew h) hc0
          go_wp2_with fail
          refine wpR_region (Grow) [] (by kernel_rfl) ?_
          refine wpR_take grow_rf grow_tr 0 rfl (by kernel_rfl) (fun _ _ _ h => h) rfl (v := ?_) ?_ ?_
          rotate_left
          · (intro w' hG; go_simp; try with_reducible rfl)
          try simp only [Act.put, List.setIfInBounds_toArray, List.set_cons_zero, List.set_cons_succ]
          refine wpR_take grow_rf grow_tr 1 rfl (by kernel_rfl) (fun _ _ _ h => h) rfl (v := ?_) ?_ ?_
          rotate_left
          · (intro w' hG; go_simp; try with_reducible rfl)
          try simp only [Act.put, List.setIfInBounds_toArray, List.set_cons_zero, List.set_cons_succ]
          refine wpR_take grow_rf grow_tr 2 rfl (by kernel_rfl) (fun _ _ _ h => h) rfl (v := ?_) ?_ ?_
          rotate_left
          · (intro w' hG; go_simp; try with_reducible rfl)
          try simp only [Act.put, List.setIfInBounds_toArray, List.set_cons_zero, List.set_cons_succ]
          refine wpR_take grow_rf grow_tr 3 rfl (by kernel_rfl) (fun _ _ _ h => h) rfl (v := ?_) ?_ ?_
          rotate_left
          · (intro w' hG; go_simp; try with_reducible rfl)
          try simp only [Act.put, List.setIfInBounds_toArray, List.set_cons_zero, List.set_cons_succ]
          refine wpR_skip grow_rf grow_tr 4 rfl (by kernel_rfl) (fun _ _ _ h => h) rfl ?_
          try simp only [Act.put, List.setIfInBounds_toArray, List.set_cons_zero, List.set_cons_succ]
          refine wpR_skip grow_rf grow_tr 5 rfl (by kernel_rfl) (fun _ _ _ h => h) rfl ?_
          try simp only [Act.put, List.setIfInBounds_toArray, List.set_cons_zero, List.set_cons_succ]
          refine wpR_skip grow_rf grow_tr 6 rfl (by kernel_rfl) (fun _ _ _ h => h) rfl ?_
          try simp only [Act.put, List.setIfInBounds_toArray, List.set_cons_zero, List.set_cons_succ]
          refine wpR_skip grow_rf grow_tr 7 rfl (by kernel_rfl) (fun _ _ _ h => h) rfl ?_
          try simp only [Act.put, List.setIfInBounds_toArray, List.set_cons_zero, List.set_cons_succ]
          refine wpR_skip grow_rf grow_tr 8 rfl (by kernel_rfl) (fun _ _ _ h => h) rfl ?_
          try simp only [Act.put, List.setIfInBounds_toArray, List.set_cons_zero, List.set_cons_succ]
          refine wpR_take grow_rf grow_tr 9 rfl (by kernel_rfl) (fun _ _ _ h => h) rfl (v := ?_) ?_ ?_
          rotate_left
          · (intro w' hG; go_simp; try with_reducible rfl)
          try simp only [Act.put, List.setIfInBounds_toArray, List.set_cons_zero, List.set_cons_succ]
          refine wpR_done (by kernel_rfl) ?_ _
          have hg9 : Grow wr wr.drew := (Grow.refl wr).drew
          have hbt := (hbx7.out.grow hg9).there
          clear C0 HT hra hc0
          go_wp2_with (refine wpList_store_mid rfl 34 (.tmp 4) (.tmp 68) rfl w.heap.size 0 _ rfl rfl ?_ ?_ ?_ ?_; (exact hbt); (rw [hz.out, List.size_toArray]; exact hsz.out); (rw [hz.out]; exact all_oneCell_toArray hone.out))
          rw [hz.out] at hbt ⊢
          refine bodyPost_ret (results_cell_tmp2 rfl _ _ w.heap.size 0 (lcs zeroLg) _ rfl (World.rangeAt_setCells_same _ _ _ _ (by simpa using hbt)) Try.underlying34 rfl hsz.out) rfl ?_
          exact ⟨hfin.out _ _ (Sub.nil _ _) rfl, Below.trans (hg7.out.trans hg9) (Below.setCells (Nat.le_refl _) _ _ (Below.refl _ _))⟩
        · rw [if_neg hneg] at hER
          have hn0 : decide (cc < 0) = false := by simpa using hneg
          clear hneg
          by_cases heq : cc = (T : Nat)
          · rw [if_neg (by simpa using heq)] at hER
            have hE := hER.out
            rw [hE, if_pos rfl] at hLG hRG
            have hL := hLG.out
            have hR := hRG.out
            subst hE hL hR
            have hnq : (cc != (T : Int)) = false := by simpa using heq
            clear heq hT
            go_wp2_with fail
            refine (HNo.out _).mono ?_
            rintro r w8 ⟨rfl, rfl⟩
            have C0 := fun (W : World) (h : Grow wr.drew W) => Grow.cell' (Grow.of_drew h) hc0
            have Rr := hide (fun (W : World) (h : Grow wr.drew W) => rangeAt_grow' hra.out (Grow.of_drew h))
            go_wp2_with fail
            refine wpR_region (Grow) [] (by kernel_rfl) ?_
            refine wpR_take grow_rf grow_tr 0 rfl (by kernel_rfl) (fun _ _ _ h => h) rfl (v := ?_) ?_ ?_
            rotate_left
            · (intro w' hG; go_simp; try with_reducible rfl)
            try simp only [Act.put, List.setIfInBounds_toArray, List.set_cons_zero, List.set_cons_succ]
            refine wpR_take grow_rf grow_tr 1 rfl (by kernel_rfl) (fun _ _ _ h => h) rfl (v := ?_) ?_ ?_
            rotate_left
            · (intro w' hG; go_simp; try with_reducible rfl)
            try simp only [Act.put, List.setIfInBounds_toArray, List.set_cons_zero, List.set_cons_succ]
            refine wpR_take grow_rf grow_tr 2 rfl (by kernel_rfl) (fun _ _ _ h => h) rfl (v := ?_) ?_ ?_
            rotate_left
            · (intro w' hG; go_simp; try with_reducible rfl)
            try simp only [Act.put, List.setIfInBounds_toArray, List.set_cons_zero, List.set_cons_succ]
            refine wpR_take grow_rf grow_tr 3 rfl (by kernel_rfl) (fun _ _ _ h => h) rfl (v := ?_) ?_ ?_
            rotate_left
            · (intro w' hG; go_simp; try with_reducible rfl)
            try simp only [Act.put, List.setIfInBounds_toArray, List.set_cons_zero, List.set_cons_succ]
            refine wpR_take grow_rf grow_tr 4 rfl (by kernel_rfl) (fun _ _ _ h => h) rfl (v := ?_) ?_ ?_
            rotate_left
            · (intro w' hG; go_simp; try with_reducible rfl)
            try simp only [Act.put, List.setIfInBounds_toArray, List.set_cons_zero, List.set_cons_succ]
            refine wpR_take grow_rf grow_tr 5 rfl (by kernel_rfl) (fun _ _ _ h => h) rfl (v := ?_) ?_ ?_
            rotate_left
            · (intro w' hG; go_simp; try with_reducible rfl)
            try simp only [Act.put, List.setIfInBounds_toArray, List.set_cons_zero, List.set_cons_succ]
            refine wpR_take grow_rf grow_tr 6 rfl (by kernel_rfl) (fun _ _ _ h => h) rfl (v := ?_) ?_ ?_
            rotate_left
            · (intro w' hG; refine exec_load_mid 34 (.tmp 7) ?_ w1.heap.size 0 ?_ C _ (Rr.out w' hG) Try.underlying34 rfl hszL.out <;> rfl)
            try simp only [Act.put, List.setIfInBounds_toArray, List.set_cons_zero, List.set_cons_succ]
            refine wpR_call 7 rfl (by kernel_rfl) rfl fun K hK => ?_
            go_simp
            refine (HT.out _).mono ?_
            rintro r0 w9 ⟨rfl, hg9⟩
            refine hK.out _ _ (.inr (hg9)) ?_
            clear hK
            try simp only [Act.put, List.setIfInBounds_toArray, List.set_cons_zero, List.set_cons_succ]
            have hg9 : Grow wr w9 := Grow.of_drew hg9
            refine wpR_take grow_rf grow_tr 8 rfl (by kernel_rfl) (fun _ _ _ h => h) rfl (v := ?_) ?_ ?_
            rotate_left
            · (intro w' hG; go_simp; try with_reducible rfl)
            try simp only [Act.put, List.setIfInBounds_toArray, List.set_cons_zero, List.set_cons_succ]
            refine wpR_take grow_rf grow_tr 9 rfl (by kernel_rfl) (fun _ _ _ h => h) rfl (v := ?_) ?_ ?_
            rotate_left
            · (intro w' hG; go_simp; try with_reducible rfl)
            try simp only [Act.put, List.setIfInBounds_toArray, List.set_cons_zero, List.set_cons_succ]
            refine wpR_done (by kernel_rfl) ?_ _
            have hbt := (hbx7.out.grow hg9).there
            have hra9 := hide (rangeAt_grow' hra.out hg9)
            clear C0 Rr HT hra hc0
            have hbl : C.length = Try.zeroCells34.size := by rw [hz.out, List.size_toArray]; exact hlcs.out
            rw [← hbl] at hbt
            go_wp2_with (first | (refine wpList_load_mid rfl 34 (.tmp 7) rfl w1.heap.size 0 rfl C _ hra9.out Try.underlying34 rfl hszL.out ?_) | (refine wpList_store_mid rfl 34 (.tmp 4) (.tmp 69) rfl w.heap.size 0 _ rfl rfl ?_ ?_ ?_ ?_; (simpa using hbt); (rw [List.size_toArray]; exact hszL.out); (exact all_oneCell_toArray honeL.out)))
            refine bodyPost_ret (results_cell_tmp2 rfl _ _ w.heap.size 0 C _ rfl (World.rangeAt_setCells_same _ _ _ _ hbt) Try.underlying34 rfl hszL.out) rfl ?_
            exact ⟨hfin.out _ _ ⟨A3, c3, rfl, hl3, hm3, hs3.out⟩ (by rw [hCC.out]; rfl), Below.trans (hg7.out.trans hg9) (Below.setCells (Nat.le_refl _) _ _ (Below.refl _ _))⟩
          · rw [if_pos (by simpa using heq)] at hER
            have hE := hER.out
            rw [hE, if_neg (by decide)] at hLG hRG
            have hL := hLG.out
            have hR := hRG.out
            subst hE hL hR
            have hnq : (cc != (T : Int)) = true := by simpa using heq
            clear heq hT
            go_wp2_with fail
            refine (HNo.out _).mono ?_
            rintro r w8 ⟨rfl, rfl⟩
            have C0 := fun (W : World) (h : Grow wr.drew W) => Grow.cell' (Grow.of_drew h) hc0
            have Rr := hide (fun (W : World) (h : Grow wr.drew W) => rangeAt_grow' hra.out (Grow.of_drew h))
            go_wp2_with fail
            refine wpR_region (Grow) [] (by kernel_rfl) ?_
            refine wpR_take grow_rf grow_tr 0 rfl (by kernel_rfl) (fun _ _ _ h => h) rfl (v := ?_) ?_ ?_
            rotate_left
            · (intro w' hG; go_simp; try with_reducible rfl)
            try simp only [Act.put, List.setIfInBounds_toArray, List.set_cons_zero, List.set_cons_succ]
            refine wpR_take grow_rf grow_tr 1 rfl (by kernel_rfl) (fun _ _ _ h => h) rfl (v := ?_) ?_ ?_
            rotate_left
            · (intro w' hG; go_simp; try with_reducible rfl)
            try simp only [Act.put, List.setIfInBounds_toArray, List.set_cons_zero, List.set_cons_succ]
            refine wpR_take grow_rf grow_tr 2 rfl (by kernel_rfl) (fun _ _ _ h => h) rfl (v := ?_) ?_ ?_
            rotate_left
            · (intro w' hG; go_simp; try with_reducible rfl)
            try simp only [Act.put, List.setIfInBounds_toArray, List.set_cons_zero, List.set_cons_succ]
            refine wpR_take grow_rf grow_tr 3 rfl (by kernel_rfl) (fun _ _ _ h => h) rfl (v := ?_) ?_ ?_
            rotate_left
            · (intro w' hG; go_simp; try with_reducible rfl)
            try simp only [Act.put, List.setIfInBounds_toArray, List.set_cons_zero, List.set_cons_succ]
            refine wpR_take grow_rf grow_tr 4 rfl (by kernel_rfl) (fun _ _ _ h => h) rfl (v := ?_) ?_ ?_
            rotate_left
            · (intro w' hG; go_simp; try with_reducible rfl)
            try simp only [Act.put, List.setIfInBounds_toArray, List.set_cons_zero, List.set_cons_succ]
            refine wpR_take grow_rf grow_tr 5 rfl (by kernel_rfl) (fun _ _ _ h => h) rfl (v := ?_) ?_ ?_
            rotate_left
            · (intro w' hG; go_simp; try with_reducible rfl)
            try simp only [Act.put, List.setIfInBounds_toArray, List.set_cons_zero, List.set_cons_succ]
            refine wpR_take grow_rf grow_tr 6 rfl (by kernel_rfl) (fun _ _ _ h => h) rfl (v := ?_) ?_ ?_
            rotate_left
            · (intro w' hG; refine exec_load_mid 34 (.tmp 7) ?_ w1.heap.size 0 ?_ C _ (Rr.out w' hG) Try.underlying34 rfl hszL.out <;> rfl)
            try simp only [Act.put, List.setIfInBounds_toArray, List.set_cons_zero, List.set_cons_succ]
            refine wpR_call 7 rfl (by kernel_rfl) rfl fun K hK => ?_
            go_simp
            refine (HT.out _).mono ?_
            rintro r0 w9 ⟨rfl, hg9⟩
            refine hK.out _ _ (.inr (hg9)) ?_
            clear hK
            try simp only [Act.put, List.setIfInBounds_toArray, List.set_cons_zero, List.set_cons_succ]
            have hg9 : Grow wr w9 := Grow.of_drew hg9
            refine wpR_take grow_rf grow_tr 8 rfl (by kernel_rfl) (fun _ _ _ h => h) rfl (v := ?_) ?_ ?_
            rotate_left
            · (intro w' hG; go_simp; try with_reducible rfl)
            try simp only [Act.put, List.setIfInBounds_toArray, List.set_cons_zero, List.set_cons_succ]
            refine wpR_take grow_rf grow_tr 9 rfl (by kernel_rfl) (fun _ _ _ h => h) rfl (v := ?_) ?_ ?_
            rotate_left
            · (intro w' hG; go_simp; try with_reducible rfl)
            try simp only [Act.put, List.setIfInBounds_toArray, List.set_cons_zero, List.set_cons_succ]
            refine wpR_done (by kernel_rfl) ?_ _
            have hbt := (hbx7.out.grow hg9).there
            clear C0 Rr HT hra hc0
            go_wp2_with (refine wpList_store_mid rfl 34 (.tmp 4) (.tmp 68) rfl w.heap.size 0 _ rfl rfl ?_ ?_ ?_ ?_; (exact hbt); (rw [hz.out, List.size_toArray]; exact hsz.out); (rw [hz.out]; exact all_oneCell_toArray hone.out))
            rw [hz.out] at hbt ⊢
            refine bodyPost_ret (results_cell_tmp2 rfl _ _ w.heap.size 0 (lcs zeroLg) _ rfl (World.rangeAt_setCells_same _ _ _ _ (by simpa using hbt)) Try.underlying34 rfl hsz.out) rfl ?_
            exact ⟨hfin.out _ _ (Sub.nil _ _) rfl, Below.trans (hg7.out.trans hg9) (Below.setCells (Nat.le_refl _) _ _ (Below.refl _ _))⟩
end Go.Proofs.Ytbccbfmgjeknhaa
