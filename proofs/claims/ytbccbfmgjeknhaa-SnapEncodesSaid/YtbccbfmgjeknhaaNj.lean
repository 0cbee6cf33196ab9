/- Chapter 41: the document's Bytes. -/
import Derived.Test.YtbccbfmgjeknhaaNi
import Derived.Test.YtbccbfmgjeknhaaLt
namespace Go.Proofs.Ytbccbfmgjeknhaa
open Go.RowKit
set_option maxRecDepth 100000 in
set_option maxHeartbeats 2000000 in
theorem refstbytes_any (s : St) (n : Nat) (w : World) (h : s.Ok) (hn0 : 0 ≤ s.no) (hc : 0 ≤ s.l.count) (hn : n ≤ 64) :
    Calls Try.prog 21 #[.agg (scs s).toArray, .int .i64 n] w fun r w' => ∃ A c, r = .returned (.slice A (stBytes s n).length c) ∧ Own w' w.heap.size A c (stBytes s n) ∧ Grow w w' := by
  have hLG := hide (fun W => reflgbytes_any s.l n W h.l hc hn)
  have hXl := lgBytes_len s.l n h.l hn
  have p0 := Box.new w (scs s).toArray 36 rfl
  have hra := hide (range_of p0 _ (scs_l s))
  have hszL := hide (lg_size s.l h.l.len)
  have hg0 := (Grow.refl w).alloc (.cells (scs s).toArray 36)
  have hwz : (w.alloc (.cells (scs s).toArray 36)).heap.size = w.heap.size + 1 := by simp
  have hA0 : (scs s).toArray[0]? = some (.int .i64 s.no) := rfl
  have hA1 : (scs s).toArray[1]? = some (.int .u64 (s.set : Int)) := rfl
  have hX : Hid (stBytes s n = Buf.sevens s.no.toNat ++ Buf.fixed s.set 8 ++ lgBytes s.l n) := hide rfl
  have hn1 := h.n1
  have hsl := h.set
  clear h
  generalize (scs s).toArray = C at *
  generalize stBytes s n = X at *
  generalize lgBytes s.l n = LB at *
  generalize lcs s.l = D at *
  generalize hno : s.no = no at *
  generalize s.set = set at *
  clear hno hc
  obtain ⟨cn, rfl⟩ : ∃ cn : Nat, no = (cn : Int) := ⟨no.toNat, by omega⟩
  rw [Int.toNat_natCast] at hX
  have hF1 := hide (fun W => refnum_any cn W (by omega))
  have hF2 := hide (fun W => reffixed_any set 8 W (by omega) hsl)
  have L1 : (Buf.sevens cn).length ≤ 10 := Buf.sevens_len _
  have L2 : (Buf.fixed set 8).length = 8 := Buf.fixed_length _ _
  generalize Buf.sevens cn = x1 at *
  generalize Buf.fixed set 8 = x2 at *
  have hwr : IntKind.u64.wrap (cn : Int) = (cn : Int) := IntWalk.u64_in _ (by omega)
  replace hXl := hide hXl
  have hL1 := hide L1
  have hL2 := hide L2
  clear L1 L2
  go_enter Try.func21, Try.ntmps21
  go_wp2_with fail
  generalize hW : w.alloc (.cells C 36) = wx at *
  have d0 : wx.cell? ⟨w.heap.size, 0, none⟩ = some (.int .i64 (cn : Int)) := (p0.cell 0).trans hA0
  have d1 : wx.cell? ⟨w.heap.size, 1, none⟩ = some (.int .u64 (set : Int)) := (p0.cell 1).trans hA1
  have hlw : w.heap.size < wx.heap.size := by omega
  replace hwz := hide hwz
  clear hW
  have C0 := fun (W : World) (h : Below wx.heap.size wx.drew W) => ((p0.keep (h.block _ p0.lt)).cell 0).trans hA0
  have C1 := fun (W : World) (h : Below wx.heap.size wx.drew W) => ((p0.keep (h.block _ p0.lt)).cell 1).trans hA1
  have hrf : ∀ w, Below wx.heap.size w w := Below.refl _
  have htr : ∀ a b c, Below wx.heap.size a b → Below wx.heap.size b c → Below wx.heap.size a c := fun _ _ _ h k => h.trans k
  refine wpR_region (Below wx.heap.size) [] (by kernel_rfl) ?_
  refine wpR_take hrf htr 0 rfl (by kernel_rfl) (fun _ _ _ h => h) rfl (v := ?_) ?_ ?_
  rotate_left
  · (intro w' hG; go_simp; try with_reducible rfl)
  try simp only [Act.put, List.setIfInBounds_toArray, List.set_cons_zero, List.set_cons_succ]
  refine wpR_take hrf htr 1 rfl (by kernel_rfl) (fun _ _ _ h => h) rfl (v := ?_) ?_ ?_
  rotate_left
  · (intro w' hG; go_simp; try with_reducible rfl)
  try simp only [Act.put, List.setIfInBounds_toArray, List.set_cons_zero, List.set_cons_succ]
  refine wpR_take hrf htr 2 rfl (by kernel_rfl) (fun _ _ _ h => h) rfl (v := ?_) ?_ ?_
  rotate_left
  · (intro w' hG; go_simp; try with_reducible rfl)
  try simp only [Act.put, List.setIfInBounds_toArray, List.set_cons_zero, List.set_cons_succ]
  refine wpR_take hrf htr 4 rfl (by kernel_rfl) (fun _ _ _ h => h) rfl (v := ?_) ?_ ?_
  rotate_left
  · (intro w' hG; go_simp; try with_reducible rfl)
  try simp only [Act.put, List.setIfInBounds_toArray, List.set_cons_zero, List.set_cons_succ]
  refine wpR_take hrf htr 5 rfl (by kernel_rfl) (fun _ _ _ h => h) rfl (v := ?_) ?_ ?_
  rotate_left
  · (intro w' hG; go_simp; try with_reducible rfl)
  try simp only [Act.put, List.setIfInBounds_toArray, List.set_cons_zero, List.set_cons_succ]
  refine wpR_call 3 rfl (by kernel_rfl) rfl fun K hK => ?_
  go_simp
  refine (hF1.out _).mono ?_
  rintro r w1 ⟨A1, c1, rfl, hown1, hg1⟩
  refine hK.out _ _ (.inr (hg1)) ?_
  clear hK
  try simp only [Act.put, List.setIfInBounds_toArray, List.set_cons_zero, List.set_cons_succ]
  have C1 := fun (W : World) (h : Below wx.heap.size w1 W) => C1 W (Below.trans hg1 h)
  refine wpR_call 6 rfl (by kernel_rfl) rfl fun K hK => ?_
  go_simp
  refine (hF2.out _).mono ?_
  rintro r w2 ⟨A2, c2, rfl, hown2, hg2⟩
  refine hK.out _ _ (.inr (Below.mono hg2 hg1.size)) ?_
  clear hK
  try simp only [Act.put, List.setIfInBounds_toArray, List.set_cons_zero, List.set_cons_succ]
  have hown1 := hown1.below hg2
  refine wpR_call 7 rfl (by kernel_rfl) rfl fun K hK => ?_
  refine oper_append_bytes byteT (.tmp 9) (.tmp 12) rfl hown1 hown2.bytes rfl rfl (by have := hL1.out; have := hL2.out; omega) (Nat.le_trans hg1.size hg2.size) ?_
  intro A3 c3 l3 w3 HL hown3 hg3 _
  refine hK.out _ _ (.inr ((Below.refl _ _).grown hg3 (Nat.le_trans hg1.size hg2.size) (fun q hq => hown1.base hq))) ?_
  clear hK
  try simp only [Act.put, List.setIfInBounds_toArray, List.set_cons_zero, List.set_cons_succ]
  refine wpR_take hrf htr 8 rfl (by kernel_rfl) (fun _ _ _ h => h) rfl (v := ?_) ?_ ?_
  rotate_left
  · (intro w' hG; go_simp; try with_reducible rfl)
  try simp only [Act.put, List.setIfInBounds_toArray, List.set_cons_zero, List.set_cons_succ]
  refine wpR_done (by kernel_rfl) ?_ _
  have hl3 : l3.length ≤ 18 := by rw [HL.out, List.length_append]; have := hL1.out; have := hL2.out; omega
  have hgr := hide (show Below wx.heap.size wx w3 from Below.trans (Below.undrew' hg1) (Below.grown (Below.mono hg2 hg1.size) hg3 (Nat.le_trans hg1.size hg2.size) (fun q hq => hown1.base hq)))
  have hown3 := hide hown3
  have hra3 := hide (show w3.rangeAt w.heap.size 2 D from range_keep hra.out (hgr.out.block _ p0.lt))
  have hg0' := hide hg0
  clear C0 C1 hrf htr hg1 hg2 hg3 hown1 hown2 p0 hg0 hA0 hA1 d0 d1 hwr hF1 hF2 hra
  go_wp2_with (refine wpList_load_mid rfl 34 (.tmp 15) rfl w.heap.size 2 rfl D _ hra3.out Try.underlying34 rfl hszL.out ?_)
  refine (hLG.out _).mono ?_
  rintro r w4 ⟨A4, c4, rfl, hown4, hg4⟩
  have hs3 := hgr.out.size
  have hown3 := hide (hown3.out.below hg4)
  have hgr4 := hide (Below.trans hgr.out (Below.mono hg4 hs3))
  have hb4 := hide hown4.bytes
  clear hown4 hg4 hgr hra3
  go_wp2_with (at_builtin; refine wpList_append_bytes byteT rfl (.tmp 14) (.tmp 18) rfl hown3.out hb4.out rfl rfl ?_ ?_ ?_)
  · have := hXl.out
    omega
  · exact hgr4.out.size
  intro A5 c5 l5 w5 HL5 hown5 hg5 _
  have hgr5 := hide (Below.grown hgr4.out hg5 hgr4.out.size (fun q hq => hown3.out.base hq))
  have e : l5 = X := by rw [HL5.out, HL.out, hX.out]
  subst e
  go_wp2
  go_ret
  exact ⟨A5, c5, rfl, hown5.mono (Nat.le_of_lt hlw), Grow.trans hg0'.out hgr5.out⟩
end Go.Proofs.Ytbccbfmgjeknhaa
