/- The walk of SnapEncodes (chapter 41). -/
import Derived.Test.YtbccbfmgjeknhaaNj
import Derived.Test.YtbccbfmgjeknhaaNg
import Derived.Test.YtbccbfmgjeknhaaNh
import Derived.Test.YtbccbfmgjeknhaaLw
import Derived.Test.YtbccbfmgjeknhaaLn
namespace Go.Proofs.Ytbccbfmgjeknhaa
open Go.RowKit
set_option maxRecDepth 100000 in
set_option maxHeartbeats 2000000 in
theorem snapEncodes_any (s : St) (n : Int) (w : World) (h : s.Ok) (hn0 : -9223372036854775808 ≤ n) (hn1 : n ≤ 9223372036854775807) :
    Calls Try.prog 5 #[.agg (scs s).toArray, .int .i64 n] w fun e w' => e = .returned (.bool true) ∧ Grow w w' := by
  have hbx := Box.new w (scs s).toArray 36 rfl
  have hra := hide (range_of hbx (scs s) (fun j v hj => by rw [Nat.zero_add, List.getElem?_toArray]; exact hj))
  have hg := hide ((Grow.refl w).alloc (.cells (scs s).toArray 36))
  have HO := hide (fun W => ours_any s W h)
  have HE := hide (fun W => sencode_any s n W h)
  have HG := hide (fun W => refgood41_any s n W h hn0 hn1)
  have hsz := hide (rst_size s h.l.len)
  have hsz42 := hide (st_size s h.l.len)
  have hocs := hide (scs_one s)
  have HS := hide (fun W => same41_any s W h)
  have hCz : Try.zeroCells42.size = (scs s).length := by rw [zero_st, List.size_toArray, scs_len s h]; decide
  replace hCz := hide hCz
  cases hgd : goodB s n with
  | false =>
    rw [hgd] at HG
    rw [show encS s n = ([], 1) from by unfold encS; rw [hgd]; rfl] at HE
    clear hgd hbx
    generalize hC : scs s = C at *
    generalize hW : w.alloc (.cells C.toArray 36) = w1 at *
    clear hC
    go_enter Try.func5, Try.ntmps5
    go_wp2_with (refine wpList_load_mid rfl 36 (.tmp 2) rfl w.heap.size 0 rfl C _ hra.out Try.underlying36 rfl hsz.out ?_)
    clear hW
    refine (HO.out _).mono ?_
    rintro r w2 ⟨rfl, hg2⟩
    go_wp2_with fail
    refine (HE.out _).mono ?_
    rintro r w3 ⟨⟨A3, c3, rfl, _⟩, hg3⟩
    have hra3 := hide (rangeAt_grow' hra.out (hg2.trans hg3))
    have hg3 := hide (hg.out.trans (hg2.trans hg3))
    clear hg2 hra
    go_wp2_with (refine wpList_load_mid rfl 36 (.tmp 2) rfl w.heap.size 0 rfl C _ hra3.out Try.underlying36 rfl hsz.out ?_)
    refine (HG.out _).mono ?_
    rintro r w4 ⟨rfl, hg4⟩
    go_wp2_with fail
    refine (works41_any _).mono ?_
    rintro r w5 ⟨rfl, hg5⟩
    go_wp2
    go_ret
    exact ⟨rfl, (hg3.out.trans hg4).trans hg5⟩
  | true =>
    obtain ⟨N, rfl, hN1, hN64, hno, _, _, hsum⟩ := good_parts s n hgd
    have hcnt := (sums_parts s.l N hsum).2.1
    have hback := hide (dec_back s N h hgd)
    have HB := hide (fun W => refstbytes_any s N W h hno hcnt hN64)
    have HD := hide (fun A c W hb hl => sdecode_any A (stBytes s N) c N W hb hl)
    rw [Int.toNat_natCast] at hback
    rw [hback.out] at HD
    have hlen : (stBytes s N).length ≤ 1000 := by
      unfold stBytes
      rw [List.length_append, List.length_append, Buf.fixed_length, lgBytes_len s.l N h.l hN64]
      have := Buf.sevens_len s.no.toNat
      omega
    rw [hgd] at HG
    rw [show encS s (N : Int) = (stBytes s N, 0) from by unfold encS; rw [hgd, Int.toNat_natCast]; rfl] at HE
    dsimp only at HD HE
    replace hlen := hide hlen
    clear hgd hbx hsum hcnt hno hback hn0 hn1
    generalize stBytes s N = SB at *
    generalize hC : scs s = C at *
    generalize hW : w.alloc (.cells C.toArray 36) = w1 at *
    clear hC
    go_enter Try.func5, Try.ntmps5
    go_wp2_with (refine wpList_load_mid rfl 36 (.tmp 2) rfl w.heap.size 0 rfl C _ hra.out Try.underlying36 rfl hsz.out ?_)
    clear hW
    refine (HO.out _).mono ?_
    rintro r w2 ⟨rfl, hg2⟩
    go_wp2_with fail
    refine (HE.out _).mono ?_
    rintro r w3 ⟨⟨A3, c3, rfl, hown3⟩, hg3⟩
    have hra3 := hide (rangeAt_grow' hra.out (hg2.trans hg3))
    have hg3 := hide (hg.out.trans (hg2.trans hg3))
    have hb3 := hide hown3.bytes
    clear hg2 hra hown3 HO HE hg
    go_wp2_with (refine wpList_load_mid rfl 36 (.tmp 2) rfl w.heap.size 0 rfl C _ hra3.out Try.underlying36 rfl hsz.out ?_)
    refine (HG.out _).mono ?_
    rintro r w4 ⟨rfl, hg4⟩
    have hra4 := hide (rangeAt_grow' hra3.out hg4)
    have hb4 := hide (hb3.out.grow hg4)
    have hg4 := hide (hg3.out.trans hg4)
    clear hra3 hb3 hg3 HG
    go_wp2_with (refine wpList_load_mid rfl 36 (.tmp 2) rfl w.heap.size 0 rfl C _ hra4.out Try.underlying36 rfl hsz.out ?_)
    refine (HB.out _).mono ?_
    rintro r w5 ⟨A5, c5, rfl, hown5, hg5⟩
    have hra5 := hide (rangeAt_grow' hra4.out hg5)
    have hb5 := hide (hb4.out.grow hg5)
    have hg5 := hide (hg4.out.trans hg5)
    clear hra4 hb4 hg4
    go_wp2_with fail
    refine (HD.out _ _ _ hown5.bytes hlen.out).mono ?_
    rintro r w6 ⟨rfl, hg6⟩
    have hra6 := rangeAt_grow' hra5.out hg6
    have hb6 := hb5.out.grow hg6
    have hg6 := hg5.out.trans hg6
    have hbt := (Box.new w6 Try.zeroCells42 42 rfl).there
    rw [hCz.out] at hbt
    have hg7 : Grow w6 (w6.alloc (.cells Try.zeroCells42 42)) := (Grow.refl w6).alloc _
    have hst : Below w6.heap.size (w6.alloc (.cells Try.zeroCells42 42)) ((w6.alloc (.cells Try.zeroCells42 42)).setCells w6.heap.size 0 C) := Below.setCells (Nat.le_refl _) _ _ (Below.refl _ _)
    have hg7 := Below.trans hg7 hst
    have hra7 := hide (rangeAt_grow' hra6 hg7)
    have hra8 := hide (World.rangeAt_setCells_same _ w6.heap.size 0 C hbt)
    have hb7 := hide (hb6.grow hg7)
    have hg8 := hide (hg6.trans hg7)
    clear hra6 hb6 hg6 hg7 hst hra5 hb5 hg5 hown5 HD hCz
    go_wp2_with (refine wpList_store_mid rfl 42 (.tmp 7) (.tmp 36) rfl w6.heap.size 0 _ rfl rfl ?_ ?_ ?_ ?_; (rw [List.size_toArray]; exact hbt); (rw [List.size_toArray]; exact hsz42.out); (exact all_oneCell_toArray hocs.out))
    generalize (w6.alloc (.cells Try.zeroCells42 42)).setCells w6.heap.size 0 C = w7 at *
    have V1 := fun (W : World) (h : Grow w7.drew W) => conv_any c3 (hb7.out.grow (Grow.of_drew h))
    have R36 := hide (fun (W : World) (h : Grow w7.drew W) => rangeAt_grow' hra7.out (Grow.of_drew h))
    have R42 := hide (fun (W : World) (h : Grow w7.drew W) => rangeAt_grow' hra8.out (Grow.of_drew h))
    refine wpR_region (Grow) [] (by kernel_rfl) ?_
    refine wpR_take grow_rf grow_tr 0 rfl (by kernel_rfl) (fun _ _ _ h => h) rfl (v := ?_) ?_ ?_
    rotate_left
    · (intro w' hG; go_simp; try with_reducible rfl)
    try simp only [Act.put, List.setIfInBounds_toArray, List.set_cons_zero, List.set_cons_succ]
    refine wpR_take grow_rf grow_tr 1 rfl (by kernel_rfl) (fun _ _ _ h => h) rfl (v := ?_) ?_ ?_
    rotate_left
    · (intro w' hG; go_simp; try with_reducible rfl)
    try simp only [Act.put, List.setIfInBounds_toArray, List.set_cons_zero, List.set_cons_succ]
    refine wpR_take grow_rf grow_tr 2 rfl (by kernel_rfl) (fun _ _ _ h => h) rfl (v := ?_) ?_ ?_
    rotate_left
    · (intro w' hG; go_simp; try with_reducible rfl)
    try simp only [Act.put, List.setIfInBounds_toArray, List.set_cons_zero, List.set_cons_succ]
    refine wpR_take grow_rf grow_tr 3 rfl (by kernel_rfl) (fun _ _ _ h => h) rfl (v := ?_) ?_ ?_
    rotate_left
    · (intro w' hG; go_simp; try with_reducible rfl)
    try simp only [Act.put, List.setIfInBounds_toArray, List.set_cons_zero, List.set_cons_succ]
    refine wpR_take grow_rf grow_tr 4 rfl (by kernel_rfl) (fun _ _ _ h => h) rfl (v := ?_) ?_ ?_
    rotate_left
    · (intro w' hG; go_simp; try with_reducible rfl)
    try simp only [Act.put, List.setIfInBounds_toArray, List.set_cons_zero, List.set_cons_succ]
    refine wpR_take grow_rf grow_tr 5 rfl (by kernel_rfl) (fun _ _ _ h => h) rfl (v := ?_) ?_ ?_
    rotate_left
    · (intro w' hG; refine exec_load_mid 36 (.tmp 2) ?_ w.heap.size 0 ?_ C _ (R36.out w' hG) Try.underlying36 rfl hsz.out <;> rfl)
    try simp only [Act.put, List.setIfInBounds_toArray, List.set_cons_zero, List.set_cons_succ]
    refine wpR_take grow_rf grow_tr 6 rfl (by kernel_rfl) (fun _ _ _ h => h) rfl (v := ?_) ?_ ?_
    rotate_left
    · (intro w' hG; go_simp; try with_reducible rfl)
    try simp only [Act.put, List.setIfInBounds_toArray, List.set_cons_zero, List.set_cons_succ]
    refine wpR_call 7 rfl (by kernel_rfl) rfl fun K hK => ?_
    go_simp
    refine (HB.out _).mono ?_
    rintro r w9 ⟨A9, c9, rfl, hown9, hg9⟩
    refine hK.out _ _ (.inr (hg9)) ?_
    clear hK
    try simp only [Act.put, List.setIfInBounds_toArray, List.set_cons_zero, List.set_cons_succ]
    have R42 := hide (fun (W : World) (h : Grow w9 W) => R42.out W (hg9.trans h))
    have R36 := hide (fun (W : World) (h : Grow w9 W) => R36.out W (hg9.trans h))
    have V2 := fun (W : World) (h : Grow w9 W) => conv_any c9 (hown9.bytes.grow h)
    refine wpR_take grow_rf grow_tr 8 rfl (by kernel_rfl) (fun _ _ _ h => h) rfl (v := ?_) ?_ ?_
    rotate_left
    · (intro w' hG; go_simp; try with_reducible rfl)
    try simp only [Act.put, List.setIfInBounds_toArray, List.set_cons_zero, List.set_cons_succ]
    refine wpR_take grow_rf grow_tr 9 rfl (by kernel_rfl) (fun _ _ _ h => h) rfl (v := ?_) ?_ ?_
    rotate_left
    · (intro w' hG; go_simp; try with_reducible rfl)
    try simp only [Act.put, List.setIfInBounds_toArray, List.set_cons_zero, List.set_cons_succ]
    refine wpR_take grow_rf grow_tr 10 rfl (by kernel_rfl) (fun _ _ _ h => h) rfl (v := ?_) ?_ ?_
    rotate_left
    · (intro w' hG; go_simp; try with_reducible rfl)
    try simp only [Act.put, List.setIfInBounds_toArray, List.set_cons_zero, List.set_cons_succ]
    refine wpR_take grow_rf grow_tr 11 rfl (by kernel_rfl) (fun _ _ _ h => h) rfl (v := ?_) ?_ ?_
    rotate_left
    · (intro w' hG; go_simp; try with_reducible rfl)
    try simp only [Act.put, List.setIfInBounds_toArray, List.set_cons_zero, List.set_cons_succ]
    refine wpR_take grow_rf grow_tr 12 rfl (by kernel_rfl) (fun _ _ _ h => h) rfl (v := ?_) ?_ ?_
    rotate_left
    · (intro w' hG; go_simp; try with_reducible rfl)
    try simp only [Act.put, List.setIfInBounds_toArray, List.set_cons_zero, List.set_cons_succ]
    refine wpR_take grow_rf grow_tr 13 rfl (by kernel_rfl) (fun _ _ _ h => h) rfl (v := ?_) ?_ ?_
    rotate_left
    · (intro w' hG; go_simp; try with_reducible rfl)
    try simp only [Act.put, List.setIfInBounds_toArray, List.set_cons_zero, List.set_cons_succ]
    refine wpR_take grow_rf grow_tr 14 rfl (by kernel_rfl) (fun _ _ _ h => h) rfl (v := ?_) ?_ ?_
    rotate_left
    · (intro w' hG; go_simp; try with_reducible rfl)
    try simp only [Act.put, List.setIfInBounds_toArray, List.set_cons_zero, List.set_cons_succ]
    refine wpR_take grow_rf grow_tr 15 rfl (by kernel_rfl) (fun _ _ _ h => h) rfl (v := ?_) ?_ ?_
    rotate_left
    · (intro w' hG; go_simp; try with_reducible rfl)
    try simp only [Act.put, List.setIfInBounds_toArray, List.set_cons_zero, List.set_cons_succ]
    refine wpR_take grow_rf grow_tr 16 rfl (by kernel_rfl) (fun _ _ _ h => h) rfl (v := ?_) ?_ ?_
    rotate_left
    · (intro w' hG; refine exec_load_mid 42 (.tmp 7) ?_ w6.heap.size 0 ?_ C _ (R42.out w' hG) Try.underlying42 rfl hsz42.out <;> rfl)
    try simp only [Act.put, List.setIfInBounds_toArray, List.set_cons_zero, List.set_cons_succ]
    refine wpR_take grow_rf grow_tr 17 rfl (by kernel_rfl) (fun _ _ _ h => h) rfl (v := ?_) ?_ ?_
    rotate_left
    · (intro w' hG; refine exec_load_mid 36 (.tmp 2) ?_ w.heap.size 0 ?_ C _ (R36.out w' hG) Try.underlying36 rfl hsz.out <;> rfl)
    try simp only [Act.put, List.setIfInBounds_toArray, List.set_cons_zero, List.set_cons_succ]
    refine wpR_call 18 rfl (by kernel_rfl) rfl fun K hK => ?_
    go_simp
    refine (HS.out _).mono ?_
    rintro r w10 ⟨rfl, hg10⟩
    refine hK.out _ _ (.inr (hg10)) ?_
    clear hK
    try simp only [Act.put, List.setIfInBounds_toArray, List.set_cons_zero, List.set_cons_succ]
    refine wpR_take grow_rf grow_tr 19 rfl (by kernel_rfl) (fun _ _ _ h => h) rfl (v := ?_) ?_ ?_
    rotate_left
    · (intro w' hG; go_simp; try with_reducible rfl)
    try simp only [Act.put, List.setIfInBounds_toArray, List.set_cons_zero, List.set_cons_succ]
    refine wpR_take grow_rf grow_tr 20 rfl (by kernel_rfl) (fun _ _ _ h => h) rfl (v := ?_) ?_ ?_
    rotate_left
    · (intro w' hG; go_simp; try with_reducible rfl)
    try simp only [Act.put, List.setIfInBounds_toArray, List.set_cons_zero, List.set_cons_succ]
    refine wpR_call 21 rfl (by kernel_rfl) rfl fun K hK => ?_
    go_simp
    refine (works41_any _).mono ?_
    rintro r w11 ⟨rfl, hg11⟩
    refine hK.out _ _ (.inr (hg11)) ?_
    clear hK
    try simp only [Act.put, List.setIfInBounds_toArray, List.set_cons_zero, List.set_cons_succ]
    refine wpR_take grow_rf grow_tr 22 rfl (by kernel_rfl) (fun _ _ _ h => h) rfl (v := ?_) ?_ ?_
    rotate_left
    · (intro w' hG; go_simp; try with_reducible rfl)
    try simp only [Act.put, List.setIfInBounds_toArray, List.set_cons_zero, List.set_cons_succ]
    refine wpR_take grow_rf grow_tr 23 rfl (by kernel_rfl) (fun _ _ _ h => h) rfl (v := ?_) ?_ ?_
    rotate_left
    · (intro w' hG; go_simp; try with_reducible rfl)
    try simp only [Act.put, List.setIfInBounds_toArray, List.set_cons_zero, List.set_cons_succ]
    refine wpR_done (by kernel_rfl) ?_ _
    go_wp2
    go_ret
    exact ⟨rfl, hg8.out.trans (((Grow.of_drew hg9).trans hg10).trans hg11)⟩
end Go.Proofs.Ytbccbfmgjeknhaa
