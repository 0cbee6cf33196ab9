/- ledger.Get (chapter 41). -/
import Derived.Test.YtbccbfmgjeknhaaLr
import Derived.Test.YtbccbfmgjeknhaaLk
namespace Go.Proofs.Ytbccbfmgjeknhaa
open Go.RowKit
theorem zero_lg : Try.zeroCells34 = (lcs zeroLg).toArray := by kernel_rfl
theorem lg_size (l : Lg) (h : l.of.length = 64) : (Try.prog.info? 34).map (·.size) = some (lcs l).length := by
  rw [show (lcs l).length = 66 by simp [lcs, h]]
  kernel_rfl
theorem lcs_one (l : Lg) : ∀ v ∈ lcs l, v.oneCell' = true := by
  intro v hv
  simp only [lcs, List.mem_cons, List.mem_map] at hv
  rcases hv with rfl | rfl | ⟨_, _, rfl⟩ <;> rfl
def gC (s : List UInt8 × Int) : Nat × List UInt8 × Int := rfix 8 s
def gS (s : List UInt8 × Int) : Nat × List UInt8 × Int := rfix 8 (gC s).2
def gF : Nat → List UInt8 × Int → List Nat × List UInt8 × Int
  | 0, s => (List.replicate 64 0, s)
  | k + 1, s => ((gF k s).1.set k ((rfix 4 (gF k s).2).1 % 4294967296), (rfix 4 (gF k s).2).2)
theorem gF_len : ∀ k s, (gF k s).1.length = 64
  | 0, _ => by simp [gF]
  | k + 1, s => by simp [gF, gF_len k s]
theorem gF_lt : ∀ k s x, x ∈ (gF k s).1 → x < 4294967296
  | 0, _, x, h => by
    simp only [gF, List.mem_replicate] at h
    omega
  | k + 1, s, x, h => by
    rcases List.mem_or_eq_of_mem_set h with h | h
    · exact gF_lt k s x h
    · omega
def lgetErr (s : List UInt8 × Int) (n : Nat) : Int := if (gF n (gS s).2).2.2 ≠ 0 then (gF n (gS s).2).2.2 else if wrap64 (gC s).1 < 0 then 5 else if wrap64 (gC s).1 ≠ ((gF n (gS s).2).1.sum : Nat) then 5 else 0
def lgetLg (s : List UInt8 × Int) (n : Nat) : Lg := if lgetErr s n = 0 then ⟨wrap64 (gC s).1, (gS s).1, (gF n (gS s).2).1⟩ else zeroLg
theorem lcs_set (l : Lg) (k x : Nat) : (lcs l).toArray.setIfInBounds (2 + k) (u32v x) = (lcs { l with of := l.of.set k x }).toArray := by
  rw [List.setIfInBounds_toArray]
  unfold lcs
  rw [show 2 + k = k + 1 + 1 by omega, List.set_cons_succ, List.set_cons_succ, List.map_set]
theorem lcs_get (l : Lg) (k : Nat) (hk : k < l.of.length) : (lcs l).toArray[2 + k]? = some (u32v l.of[k]) := by
  rw [List.getElem?_toArray]
  unfold lcs
  rw [show 2 + k = k + 1 + 1 by omega, List.getElem?_cons_succ, List.getElem?_cons_succ, List.getElem?_map, List.getElem?_eq_getElem hk]
  rfl
set_option maxRecDepth 100000 in
set_option maxHeartbeats 800000 in
theorem lget_any (N p : Nat) (s : List UInt8 × Int) (n : Nat) (w : World) (h : Rd w N p s) (h1 : 1 ≤ n) (h64 : n ≤ 64) :
    Calls Try.prog 49 #[.pointer (some ⟨p, 0, none⟩), .int .i64 n] w fun r w' => r = .returned (.tuple #[.agg (lcs (lgetLg s n)).toArray, .int .i64 (lgetErr s n)]) ∧ Rd w' N p (gF n (gS s).2).2 ∧ Kept w.heap.size [p] w w' := by
  have HC := hide (fun W h => rfix_any N p s 8 W h)
  have HS := hide (fun W h => rfix_any N p (gC s).2 8 W h)
  have HF := hide (fun k W h => rfix_any N p (gF k (gS s).2).2 4 W h)
  have HE := hide (fun W h => err_any N p (gF n (gS s).2).2 W h)
  have HNo := hide (fun W => lnodes_any n h64 W)
  have e1 : gC s = rfix 8 s := rfl
  have e2 : gS s = rfix 8 (gC s).2 := rfl
  rw [← e1] at HC
  rw [← e2] at HS
  have hc64 : (gC s).1 < 18446744073709551616 := rfix_lt8 _ _
  have hs64 : (gS s).1 < 18446744073709551616 := rfix_lt8 _ _
  have hER : Hid (lgetErr s n = if (gF n (gS s).2).2.2 ≠ 0 then (gF n (gS s).2).2.2 else if wrap64 (gC s).1 < 0 then 5 else if wrap64 (gC s).1 ≠ ((gF n (gS s).2).1.sum : Nat) then 5 else 0) := hide rfl
  have hLG : Hid (lgetLg s n = if lgetErr s n = 0 then ⟨wrap64 (gC s).1, (gS s).1, (gF n (gS s).2).1⟩ else zeroLg) := hide rfl
  have hpw : p < w.heap.size := Nat.lt_of_lt_of_le h.lt h.size
  have hNw := h.size
  have hsz := hide (lg_size zeroLg (by decide))
  have hone := hide (lcs_one zeroLg)
  have hz := hide zero_lg
  have hbx := (Box.new w Try.zeroCells34 34 rfl)
  have hg1 : Grow w (w.alloc (.cells Try.zeroCells34 34)) := (Grow.refl _).alloc _
  have hby := (Box.new (w.alloc (.cells Try.zeroCells34 34)) Try.zeroCells34 34 rfl)
  have hg2 := hg1.alloc (.cells Try.zeroCells34 34)
  have hbx := hbx.grow ((Grow.refl _).alloc (.cells Try.zeroCells34 34))
  have hbs : (w.alloc (.cells Try.zeroCells34 34)).heap.size = w.heap.size + 1 := by simp
  rw [hbs] at hby
  clear hbs
  have hbx := hide hbx
  have hby := hide hby
  generalize lgetErr s n = ER at *
  generalize lgetLg s n = LG at *
  generalize gS s = Y at *
  generalize gC s = X at *
  obtain ⟨x, s1⟩ := X
  obtain ⟨y, s2⟩ := Y
  clear e1 e2
  have h := hide h
  have hg2 := hide hg2
  go_enter Try.func49, Try.ntmps49
  go_wp2_with fail
  refine (HC.out _ (h.out.grow hg2.out)).mono ?_
  rintro r w2 ⟨rfl, hr2, hk2⟩
  have hs2 := hg2.out.size
  have hl2 := hby.out.lt
  have hbx2 := hide (hbx.out.keep (hk2.block _ hbx.out.lt (by simp; omega)))
  have hby2 := hide (hby.out.keep (hk2.block _ hby.out.lt (by simp; omega)))
  have hk := hide ((Kept.of_below hg2.out [p]).step hk2)
  have hr2 := hide hr2
  clear hbx hby hk2 hg1 hg2 h hs2 hl2
  go_wp2_with fail
  refine (HS.out _ hr2.out).mono ?_
  rintro r w3 ⟨rfl, hr3, hk3⟩
  have hbx3 := hide (hbx2.out.keep (hk3.block _ hbx2.out.lt (by simp; omega)))
  have hby3 : Box w3 (w.heap.size + 1) (lcs zeroLg).toArray := by
    rw [← hz.out]
    exact hby2.out.keep (hk3.block _ hby2.out.lt (by simp; omega))
  have hk3 := hide (hk.out.step hk3)
  have hc0 : w3.cell? ⟨w.heap.size + 1, 0, none⟩ = some (.int .i64 0) := hby3.cell 0
  have hc1 : w3.cell? ⟨w.heap.size + 1, 1, none⟩ = some (.int .u64 0) := hby3.cell 1
  have hf0 := hby3.fz 0
  have hf1 := hby3.fz 1
  have hby3 := hide hby3
  have hr3 := hide hr3
  clear hbx2 hby2 hr2 hk HC HS
  go_wp2_with fail
  generalize hW : (w3.setCell ⟨w.heap.size + 1, 0, none⟩ (.int .i64 (wrap64 x))).setCell ⟨w.heap.size + 1, 1, none⟩ (.int .u64 y) = w5
  have hby5 : Box w5 (w.heap.size + 1) (lcs ⟨wrap64 x, y, (gF 0 s2).1⟩).toArray := by
    subst hW
    exact (Box.set (Box.set hby3.out 0 _) 1 _)
  have hbx5 : Box w5 w.heap.size Try.zeroCells34 := by
    subst hW
    exact Box.set_ne (Box.set_ne hbx3.out (by simp) _) (by simp) _
  have hr5 : Rd w5 N p (gF 0 s2).2 := by
    subst hW
    exact (hr3.out.setOther (show N ≤ w.heap.size + 1 by omega) _).setOther (show N ≤ w.heap.size + 1 by omega) _
  have hk5 : Kept w.heap.size [p] w w5 := by
    subst hW
    exact (hk3.out.setCell (.inl (show w.heap.size ≤ w.heap.size + 1 by omega)) _).setCell (.inl (show w.heap.size ≤ w.heap.size + 1 by omega)) _
  have hby5 := hide hby5
  have hbx5 := hide hbx5
  have hr5 := hide hr5
  have hk5 := hide hk5
  clear hW hby3 hbx3 hr3 hk3 hc0 hc1 hf0 hf1
  refine (HNo.out _).mono ?_
  rintro r w4 ⟨rfl, rfl⟩
  go_wp2
  go_loopw [18] (fun i wr => ∃ k : Nat, k ≤ n ∧ i = .int .i64 k ∧ Hid (Box wr (w.heap.size + 1) (lcs ⟨wrap64 x, y, (gF k s2).1⟩).toArray) ∧ Hid (Box wr w.heap.size Try.zeroCells34) ∧ Hid (Rd wr N p (gF k s2).2) ∧ Hid (Kept w.heap.size [p] w wr)) (fun i _ => n - (intOf i).toNat)
  case atStart => exact ⟨0, by omega, rfl, hby5, hbx5, hr5, hk5⟩
  case round =>
    obtain ⟨k, hkn, rfl, hby6, hbx6, hr6, hk6⟩ := hrel
    clear hby5 hbx5 hr5 hk5
    by_cases hlt : k < n
    · have hki : (k : Int) < (n : Int) := by omega
      have hk64 : (k : Int) < 64 := by omega
      have hF1 : gF (k + 1) s2 = ((gF k s2).1.set k ((rfix 4 (gF k s2).2).1 % 4294967296), (rfix 4 (gF k s2).2).2) := rfl
      have hF1 := hide hF1
      have hlen := gF_len k s2
      have HFk := hide (HF.out k)
      have hlt4 := rfix_lt8 4 (gF k s2).2
      generalize rfix 4 (gF k s2).2 = Z at *
      generalize gF k s2 = G at *
      obtain ⟨L, sk⟩ := G
      obtain ⟨z, sz⟩ := Z
      have hkL : k < L.length := by rw [hlen]; omega
      go_wp2_with fail
      refine (HFk.out _ hr6.out).mono ?_
      rintro r w7 ⟨rfl, hr7, hk7⟩
      have hbx7 := hide (hbx6.out.keep (hk7.block _ hbx6.out.lt (by simp; omega)))
      have hby7 := hby6.out.keep (hk7.block _ hby6.out.lt (by simp; omega))
      have hk7 := hide (hk6.out.step hk7)
      have hcell : w7.cell? ⟨w.heap.size + 1, 2 + k, none⟩ = some (u32v L[k]) := by rw [hby7.cell]; exact lcs_get _ k hkL
      have hfz := hby7.fz (2 + k)
      have hby7 := hide hby7
      have hr7 := hide hr7
      clear hbx6 hby6 hr6 hk6
      unfold u32v at hcell
      go_wp2
      have hk8 : w.heap.size ≤ w.heap.size + 1 := by omega
      refine ⟨⟨k + 1, by omega, by go_num, hide ?_, hide ?_, hide ?_, hide ?_⟩, by simp [intOf]; omega⟩
      · rw [hF1.out, ← lcs_set ⟨wrap64 x, y, L⟩]
        have e : Value.int IntKind.u32 ((z : Int) % 4294967296) = u32v (z % 4294967296) := by unfold u32v; congr 1
        rw [e]
        exact Box.set hby7.out _ _
      · exact Box.set_ne hbx7.out (by simp) _
      · rw [hF1.out]
        exact hr7.out.setOther (show N ≤ w.heap.size + 1 by omega) _
      · exact hk7.out.setCell (.inl hk8) _
    · obtain rfl : k = n := by omega
      clear hlt
      have hlen := gF_len k s2
      have hGlt := hide (gF_lt k s2)
      obtain ⟨G, hGe⟩ : ∃ G, Hid (gF k s2 = G) := ⟨_, hide rfl⟩
      rw [hGe.out] at hlen hGlt hby6 hr6 HE hER hLG
      obtain ⟨L, sk, eF⟩ := G
      have hw0 : -9223372036854775808 ≤ wrap64 x ∧ wrap64 x ≤ 9223372036854775807 := by unfold wrap64; omega
      generalize wrap64 x = cc at *
      have hOk : Lg.Ok ⟨cc, y, L⟩ := ⟨hlen, hGlt.out, hs64, hw0.1, hw0.2⟩
      have HT := hide (fun W => ltotal_any ⟨cc, y, L⟩ W hOk)
      have hszL := hide (lg_size ⟨cc, y, L⟩ hlen)
      have honeL := hide (lcs_one ⟨cc, y, L⟩)
      have hra := hide (range_of hby6.out (lcs ⟨cc, y, L⟩) (fun j v hj => by rw [Nat.zero_add, List.getElem?_toArray]; exact hj))
      have hlcs : Hid ((lcs ⟨cc, y, L⟩).length = (lcs zeroLg).length) := hide (by simp [lcs, hlen, zeroLg])
      have hc0 : wr.cell? ⟨w.heap.size + 1, 0, none⟩ = some (.int .i64 cc) := hby6.out.cell 0
      obtain ⟨C, hCC⟩ : ∃ C, Hid (lcs ⟨cc, y, L⟩ = C) := ⟨_, hide rfl⟩
      rw [hCC.out] at HT hszL honeL hra hlcs
      obtain ⟨T, hT⟩ : ∃ T, Hid (T = L.sum) := ⟨_, hide rfl⟩
      have HT : Hid (∀ W, Calls Try.prog 74 #[.agg C.toArray] W fun r w' => r = .returned (.int .i64 (T : Nat)) ∧ Grow W w') := by rw [hT.out]; exact HT
      have hER : Hid (ER = if eF ≠ 0 then eF else if cc < 0 then 5 else if cc ≠ (T : Nat) then 5 else 0) := by rw [hT.out]; exact hER
      have hLG : Hid (LG = if ER = 0 then ⟨cc, y, L⟩ else zeroLg) := hLG
      clear hby6 HF HNo hGlt hOk
      by_cases hq : eF = 0
      · subst hq
        rw [if_neg (by simp)] at hER
        by_cases hneg : cc < 0
        · rw [if_pos hneg] at hER
          have hE := hER.out
          rw [hE, if_neg (by decide)] at hLG
          have hL := hLG.out
          subst hE hL
          have hn0 : decide (cc < 0) = true := by simpa using hneg
          clear hneg
          go_wp2_with fail
          refine (HE.out _ hr6.out).mono ?_
          rintro r w9 ⟨rfl, rfl⟩
          have C0 := fun (W : World) (h : Grow wr.drew W) => Grow.cell' (Grow.of_drew h) hc0
          go_wp2_with fail
          refine wpR_region (Grow) [] (by kernel_rfl) ?_
          refine wpR_take grow_rf grow_tr 0 rfl (by kernel_rfl) (fun _ _ _ h => h) rfl (v := ?_) ?_ ?_
          rotate_left
          · (intro w' hG; go_simp; try with_reducible rfl)
          try simp only [Act.put, List.setIfInBounds_toArray, List.set_cons_zero, List.set_cons_succ]
          refine wpR_take grow_rf grow_tr 1 rfl (by kernel_rfl) (fun _ _ _ h => h) rfl (v := ?_) ?_ ?_
          rotate_left
          · (intro w' hG; go_simp; try with_reducible rfl)
          try simp only [Act.put, List.setIfInBounds_toArray, List.set_cons_zero, List.set_cons_succ]
          refine wpR_take grow_rf grow_tr 2 rfl (by kernel_rfl) (fun _ _ _ h => h) rfl (v := ?_) ?_ ?_
          rotate_left
          · (intro w' hG; go_simp; try with_reducible rfl)
          try simp only [Act.put, List.setIfInBounds_toArray, List.set_cons_zero, List.set_cons_succ]
          refine wpR_take grow_rf grow_tr 3 rfl (by kernel_rfl) (fun _ _ _ h => h) rfl (v := ?_) ?_ ?_
          rotate_left
          · (intro w' hG; go_simp; try with_reducible rfl)
          try simp only [Act.put, List.setIfInBounds_toArray, List.set_cons_zero, List.set_cons_succ]
          refine wpR_skip grow_rf grow_tr 4 rfl (by kernel_rfl) (fun _ _ _ h => h) rfl ?_
          try simp only [Act.put, List.setIfInBounds_toArray, List.set_cons_zero, List.set_cons_succ]
          refine wpR_skip grow_rf grow_tr 5 rfl (by kernel_rfl) (fun _ _ _ h => h) rfl ?_
          try simp only [Act.put, List.setIfInBounds_toArray, List.set_cons_zero, List.set_cons_succ]
          refine wpR_skip grow_rf grow_tr 6 rfl (by kernel_rfl) (fun _ _ _ h => h) rfl ?_
          try simp only [Act.put, List.setIfInBounds_toArray, List.set_cons_zero, List.set_cons_succ]
          refine wpR_skip grow_rf grow_tr 7 rfl (by kernel_rfl) (fun _ _ _ h => h) rfl ?_
          try simp only [Act.put, List.setIfInBounds_toArray, List.set_cons_zero, List.set_cons_succ]
          refine wpR_skip grow_rf grow_tr 8 rfl (by kernel_rfl) (fun _ _ _ h => h) rfl ?_
          try simp only [Act.put, List.setIfInBounds_toArray, List.set_cons_zero, List.set_cons_succ]
          refine wpR_take grow_rf grow_tr 9 rfl (by kernel_rfl) (fun _ _ _ h => h) rfl (v := ?_) ?_ ?_
          rotate_left
          · (intro w' hG; go_simp; try with_reducible rfl)
          try simp only [Act.put, List.setIfInBounds_toArray, List.set_cons_zero, List.set_cons_succ]
          refine wpR_done (by kernel_rfl) ?_ _
          have hg9 : Grow wr wr.drew := (Grow.refl wr).drew
          have hbt := (hbx6.out.grow hg9).there
          clear C0 HT hra hc0
          go_wp2_with (refine wpList_store_mid rfl 34 (.tmp 4) (.tmp 44) rfl w.heap.size 0 _ rfl rfl hbt (by rw [hz.out, List.size_toArray]; exact hsz.out) (by rw [hz.out]; exact all_oneCell_toArray hone.out) ?_)
          rw [hz.out] at hbt ⊢
          refine bodyPost_ret (results_mid2 rfl _ _ w.heap.size 0 (lcs zeroLg) _ rfl (World.rangeAt_setCells_same _ _ _ _ (by simpa using hbt)) Try.underlying34 rfl hsz.out) rfl ?_
          exact ⟨rfl, by rw [hGe.out]; exact (hr6.out.grow hg9).below (Below.setCells hNw _ _ (Below.refl _ _)), (hk6.out.grow hg9).trans (Kept.of_below (Below.setCells (Nat.le_refl _) _ _ (Below.refl _ _)) [p])⟩
        · rw [if_neg hneg] at hER
          have hn0 : decide (cc < 0) = false := by simpa using hneg
          clear hneg
          by_cases heq : cc = (T : Nat)
          · rw [if_neg (by simpa using heq)] at hER
            have hE := hER.out
            rw [hE, if_pos rfl] at hLG
            have hL := hLG.out
            subst hE hL
            have hnq : (cc != (T : Int)) = false := by simpa using heq
            clear heq hT
            go_wp2_with fail
            refine (HE.out _ hr6.out).mono ?_
            rintro r w9 ⟨rfl, rfl⟩
            have C0 := fun (W : World) (h : Grow wr.drew W) => Grow.cell' (Grow.of_drew h) hc0
            have Rr := hide (fun (W : World) (h : Grow wr.drew W) => rangeAt_grow' hra.out (Grow.of_drew h))
            go_wp2_with fail
            refine wpR_region (Grow) [] (by kernel_rfl) ?_
            refine wpR_take grow_rf grow_tr 0 rfl (by kernel_rfl) (fun _ _ _ h => h) rfl (v := ?_) ?_ ?_
            rotate_left
            · (intro w' hG; go_simp; try with_reducible rfl)
            try simp only [Act.put, List.setIfInBounds_toArray, List.set_cons_zero, List.set_cons_succ]
            refine wpR_take grow_rf grow_tr 1 rfl (by kernel_rfl) (fun _ _ _ h => h) rfl (v := ?_) ?_ ?_
            rotate_left
            · (intro w' hG; go_simp; try with_reducible rfl)
            try simp only [Act.put, List.setIfInBounds_toArray, List.set_cons_zero, List.set_cons_succ]
            refine wpR_take grow_rf grow_tr 2 rfl (by kernel_rfl) (fun _ _ _ h => h) rfl (v := ?_) ?_ ?_
            rotate_left
            · (intro w' hG; go_simp; try with_reducible rfl)
            try simp only [Act.put, List.setIfInBounds_toArray, List.set_cons_zero, List.set_cons_succ]
            refine wpR_take grow_rf grow_tr 3 rfl (by kernel_rfl) (fun _ _ _ h => h) rfl (v := ?_) ?_ ?_
            rotate_left
            · (intro w' hG; go_simp; try with_reducible rfl)
            try simp only [Act.put, List.setIfInBounds_toArray, List.set_cons_zero, List.set_cons_succ]
            refine wpR_take grow_rf grow_tr 4 rfl (by kernel_rfl) (fun _ _ _ h => h) rfl (v := ?_) ?_ ?_
            rotate_left
            · (intro w' hG; go_simp; try with_reducible rfl)
            try simp only [Act.put, List.setIfInBounds_toArray, List.set_cons_zero, List.set_cons_succ]
            refine wpR_take grow_rf grow_tr 5 rfl (by kernel_rfl) (fun _ _ _ h => h) rfl (v := ?_) ?_ ?_
            rotate_left
            · (intro w' hG; go_simp; try with_reducible rfl)
            try simp only [Act.put, List.setIfInBounds_toArray, List.set_cons_zero, List.set_cons_succ]
            refine wpR_take grow_rf grow_tr 6 rfl (by kernel_rfl) (fun _ _ _ h => h) rfl (v := ?_) ?_ ?_
            rotate_left
            · (intro w' hG; refine exec_load_mid 34 (.tmp 6) ?_ (w.heap.size + 1) 0 ?_ C _ (Rr.out w' hG) Try.underlying34 rfl hszL.out <;> rfl)
            try simp only [Act.put, List.setIfInBounds_toArray, List.set_cons_zero, List.set_cons_succ]
            refine wpR_call 7 rfl (by kernel_rfl) rfl fun K hK => ?_
            go_simp
            refine (HT.out _).mono ?_
            rintro r0 w9 ⟨rfl, hg9⟩
            refine hK.out _ _ (.inr (hg9)) ?_
            clear hK
            try simp only [Act.put, List.setIfInBounds_toArray, List.set_cons_zero, List.set_cons_succ]
            have hg9 : Grow wr w9 := Grow.of_drew hg9
            refine wpR_take grow_rf grow_tr 8 rfl (by kernel_rfl) (fun _ _ _ h => h) rfl (v := ?_) ?_ ?_
            rotate_left
            · (intro w' hG; go_simp; try with_reducible rfl)
            try simp only [Act.put, List.setIfInBounds_toArray, List.set_cons_zero, List.set_cons_succ]
            refine wpR_take grow_rf grow_tr 9 rfl (by kernel_rfl) (fun _ _ _ h => h) rfl (v := ?_) ?_ ?_
            rotate_left
            · (intro w' hG; go_simp; try with_reducible rfl)
            try simp only [Act.put, List.setIfInBounds_toArray, List.set_cons_zero, List.set_cons_succ]
            refine wpR_done (by kernel_rfl) ?_ _
            have hbt := (hbx6.out.grow hg9).there
            have hra9 := hide (rangeAt_grow' hra.out hg9)
            clear C0 Rr HT hra hc0
            have hbl : C.length = Try.zeroCells34.size := by rw [hz.out, List.size_toArray]; exact hlcs.out
            rw [← hbl] at hbt
            go_wp2_with (first | refine wpList_load_mid rfl 34 (.tmp 6) rfl (w.heap.size + 1) 0 rfl C _ hra9.out Try.underlying34 rfl hszL.out ?_ | refine wpList_store_mid rfl 34 (.tmp 4) (.tmp 45) rfl w.heap.size 0 _ rfl rfl (by simpa using hbt) (by rw [List.size_toArray]; exact hszL.out) (all_oneCell_toArray honeL.out) ?_)
            refine bodyPost_ret (results_mid2 rfl _ _ w.heap.size 0 C _ rfl (World.rangeAt_setCells_same _ _ _ _ hbt) Try.underlying34 rfl hszL.out) rfl ?_
            exact ⟨by rw [hCC.out]; rfl, by rw [hGe.out]; exact (hr6.out.grow hg9).below (Below.setCells hNw _ _ (Below.refl _ _)), (hk6.out.grow hg9).trans (Kept.of_below (Below.setCells (Nat.le_refl _) _ _ (Below.refl _ _)) [p])⟩
          · rw [if_pos (by simpa using heq)] at hER
            have hE := hER.out
            rw [hE, if_neg (by decide)] at hLG
            have hL := hLG.out
            subst hE hL
            have hnq : (cc != (T : Int)) = true := by simpa using heq
            clear heq hT
            go_wp2_with fail
            refine (HE.out _ hr6.out).mono ?_
            rintro r w9 ⟨rfl, rfl⟩
            have C0 := fun (W : World) (h : Grow wr.drew W) => Grow.cell' (Grow.of_drew h) hc0
            have Rr := hide (fun (W : World) (h : Grow wr.drew W) => rangeAt_grow' hra.out (Grow.of_drew h))
            go_wp2_with fail
            refine wpR_region (Grow) [] (by kernel_rfl) ?_
            refine wpR_take grow_rf grow_tr 0 rfl (by kernel_rfl) (fun _ _ _ h => h) rfl (v := ?_) ?_ ?_
            rotate_left
            · (intro w' hG; go_simp; try with_reducible rfl)
            try simp only [Act.put, List.setIfInBounds_toArray, List.set_cons_zero, List.set_cons_succ]
            refine wpR_take grow_rf grow_tr 1 rfl (by kernel_rfl) (fun _ _ _ h => h) rfl (v := ?_) ?_ ?_
            rotate_left
            · (intro w' hG; go_simp; try with_reducible rfl)
            try simp only [Act.put, List.setIfInBounds_toArray, List.set_cons_zero, List.set_cons_succ]
            refine wpR_take grow_rf grow_tr 2 rfl (by kernel_rfl) (fun _ _ _ h => h) rfl (v := ?_) ?_ ?_
            rotate_left
            · (intro w' hG; go_simp; try with_reducible rfl)
            try simp only [Act.put, List.setIfInBounds_toArray, List.set_cons_zero, List.set_cons_succ]
            refine wpR_take grow_rf grow_tr 3 rfl (by kernel_rfl) (fun _ _ _ h => h) rfl (v := ?_) ?_ ?_
            rotate_left
            · (intro w' hG; go_simp; try with_reducible rfl)
            try simp only [Act.put, List.setIfInBounds_toArray, List.set_cons_zero, List.set_cons_succ]
            refine wpR_take grow_rf grow_tr 4 rfl (by kernel_rfl) (fun _ _ _ h => h) rfl (v := ?_) ?_ ?_
            rotate_left
            · (intro w' hG; go_simp; try with_reducible rfl)
            try simp only [Act.put, List.setIfInBounds_toArray, List.set_cons_zero, List.set_cons_succ]
            refine wpR_take grow_rf grow_tr 5 rfl (by kernel_rfl) (fun _ _ _ h => h) rfl (v := ?_) ?_ ?_
            rotate_left
            · (intro w' hG; go_simp; try with_reducible rfl)
            try simp only [Act.put, List.setIfInBounds_toArray, List.set_cons_zero, List.set_cons_succ]
            refine wpR_take grow_rf grow_tr 6 rfl (by kernel_rfl) (fun _ _ _ h => h) rfl (v := ?_) ?_ ?_
            rotate_left
            · (intro w' hG; refine exec_load_mid 34 (.tmp 6) ?_ (w.heap.size + 1) 0 ?_ C _ (Rr.out w' hG) Try.underlying34 rfl hszL.out <;> rfl)
            try simp only [Act.put, List.setIfInBounds_toArray, List.set_cons_zero, List.set_cons_succ]
            refine wpR_call 7 rfl (by kernel_rfl) rfl fun K hK => ?_
            go_simp
            refine (HT.out _).mono ?_
            rintro r0 w9 ⟨rfl, hg9⟩
            refine hK.out _ _ (.inr (hg9)) ?_
            clear hK
            try simp only [Act.put, List.setIfInBounds_toArray, List.set_cons_zero, List.set_cons_succ]
            have hg9 : Grow wr w9 := Grow.of_drew hg9
            refine wpR_take grow_rf grow_tr 8 rfl (by kernel_rfl) (fun _ _ _ h => h) rfl (v := ?_) ?_ ?_
            rotate_left
            · (intro w' hG; go_simp; try with_reducible rfl)
            try simp only [Act.put, List.setIfInBounds_toArray, List.set_cons_zero, List.set_cons_succ]
            refine wpR_take grow_rf grow_tr 9 rfl (by kernel_rfl) (fun _ _ _ h => h) rfl (v := ?_) ?_ ?_
            rotate_left
            · (intro w' hG; go_simp; try with_reducible rfl)
            try simp only [Act.put, List.setIfInBounds_toArray, List.set_cons_zero, List.set_cons_succ]
            refine wpR_done (by kernel_rfl) ?_ _
            have hbt := (hbx6.out.grow hg9).there
            have hra9 := hide (rangeAt_grow' hra.out hg9)
            clear C0 Rr HT hra hc0
            go_wp2_with (refine wpList_store_mid rfl 34 (.tmp 4) (.tmp 44) rfl w.heap.size 0 _ rfl rfl hbt (by rw [hz.out, List.size_toArray]; exact hsz.out) (by rw [hz.out]; exact all_oneCell_toArray hone.out) ?_)
            rw [hz.out] at hbt ⊢
            refine bodyPost_ret (results_mid2 rfl _ _ w.heap.size 0 (lcs zeroLg) _ rfl (World.rangeAt_setCells_same _ _ _ _ (by simpa using hbt)) Try.underlying34 rfl hsz.out) rfl ?_
            exact ⟨rfl, by rw [hGe.out]; exact (hr6.out.grow hg9).below (Below.setCells hNw _ _ (Below.refl _ _)), (hk6.out.grow hg9).trans (Kept.of_below (Below.setCells (Nat.le_refl _) _ _ (Below.refl _ _)) [p])⟩
      · rw [if_pos (by simpa using hq)] at hER
        have hE := hER.out
        subst hE
        rw [if_neg hq] at hLG
        have hL := hLG.out
        subst hL
        have hq' : (ER == 0) = false := by simpa using hq
        have hg9 := Grow.refl wr
        have hbt := hbx6.out.there
        clear hq
        go_wp2_with fail
        refine (HE.out _ hr6.out).mono ?_
        rintro r w9 ⟨rfl, rfl⟩
        go_wp2_with (refine wpList_store_mid rfl 34 (.tmp 4) (.tmp 32) rfl w.heap.size 0 _ rfl rfl hbt (by rw [hz.out, List.size_toArray]; exact hsz.out) (by rw [hz.out]; exact all_oneCell_toArray hone.out) ?_)
        rw [hz.out] at hbt ⊢
        refine bodyPost_ret (results_mid2 rfl _ _ w.heap.size 0 (lcs zeroLg) _ rfl (World.rangeAt_setCells_same _ _ _ _ (by simpa using hbt)) Try.underlying34 rfl hsz.out) rfl ?_
        exact ⟨rfl, by rw [hGe.out]; exact (hr6.out.grow hg9).below (Below.setCells hNw _ _ (Below.refl _ _)), (hk6.out.grow hg9).trans (Kept.of_below (Below.setCells (Nat.le_refl _) _ _ (Below.refl _ _)) [p])⟩
end Go.Proofs.Ytbccbfmgjeknhaa
