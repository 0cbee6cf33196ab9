/- Chapter 37: the document's Bytes. -/
import Derived.Test.YtbccbfmgjeknhaaLq
import Derived.Test.YtbccbfmgjeknhaaLk
import Derived.Test.YtbccbfmgjeknhaaFewQ
namespace Go.Proofs.Ytbccbfmgjeknhaa
open Go.RowKit
theorem Below.undrew' {B : Nat} {a b : World} (h : Below B a.drew b) : Below B a b := ⟨h.os, h.tape, h.output, h.size, h.block⟩
set_option maxRecDepth 100000 in
set_option maxHeartbeats 2000000 in
theorem reflgbytes_any (l : Lg) (n : Nat) (w : World) (h : l.Ok) (hc : 0 ≤ l.count) (hn : n ≤ 64) :
    Calls Try.prog 53 #[.agg (lcs l).toArray, .int .i64 n] w fun r w' => ∃ A c, r = .returned (.slice A (lgBytes l n).length c) ∧ Own w' w.heap.size A c (lgBytes l n) ∧ Grow w w' := by
  obtain ⟨count, sum, L⟩ := l
  obtain ⟨hlen, hlt, hs64, hcm0, hcm⟩ := h
  dsimp only at *
  obtain ⟨cn, rfl⟩ : ∃ cn : Nat, count = (cn : Int) := ⟨count.toNat, by omega⟩
  have HNo := hide (fun W => refnodes_any (n : Int) W (by omega) (by omega))
  rw [show nodesR (n : Int) = n from by unfold nodesR; rw [if_neg (by omega), if_neg (by omega), Int.toNat_natCast]] at HNo
  have p0 := Box.new w (lcs ⟨(cn : Int), sum, L⟩).toArray 34 rfl
  have hg0 := (Grow.refl w).alloc (.cells (lcs ⟨(cn : Int), sum, L⟩).toArray 34)
  have hwz : (w.alloc (.cells (lcs ⟨(cn : Int), sum, L⟩).toArray 34)).heap.size = w.heap.size + 1 := by simp
  have hF1 := hide (fun W => reffixed_any cn 8 W (by omega) (by omega))
  have hF2 := hide (fun W => reffixed_any sum 8 W (by omega) hs64)
  have hF3 := hide (fun k (hk : k < L.length) W => reffixed_any L[k] 4 W (by omega) (by have := hlt _ (List.getElem_mem hk); omega))
  have hcells := hide (fun k (hk : k < L.length) => lcs_at ⟨(cn : Int), sum, L⟩ k hk)
  have hA0 : (lcs ⟨(cn : Int), sum, L⟩).toArray[0]? = some (.int .i64 (cn : Int)) := rfl
  have hA1 : (lcs ⟨(cn : Int), sum, L⟩).toArray[1]? = some (.int .u64 (sum : Int)) := rfl
  have hX : Hid (lgBytes ⟨(cn : Int), sum, L⟩ n = Buf.fixed cn 8 ++ Buf.fixed sum 8 ++ ofBytes (L.take n)) := hide rfl
  have hlen4 := hide (fun x => Buf.fixed_length 4 x)
  have hofl := hide (fun k (hk : k ≤ 64) => show (ofBytes (L.take k)).length ≤ 256 from by rw [ofBytes_len, List.length_take]; omega)
  have hofs := hide (ofBytes_succ L)
  have L1 : (Buf.fixed cn 8).length = 8 := Buf.fixed_length _ _
  have L2 : (Buf.fixed sum 8).length = 8 := Buf.fixed_length _ _
  generalize lgBytes ⟨(cn : Int), sum, L⟩ n = X at *
  generalize Buf.fixed cn 8 = x1 at *
  generalize Buf.fixed sum 8 = x2 at *
  generalize (lcs ⟨(cn : Int), sum, L⟩).toArray = C at *
  have hwr : IntKind.u64.wrap (cn : Int) = (cn : Int) := IntWalk.u64_in _ (by omega)
  have hL1 := hide L1
  have hL2 := hide L2
  replace hlen := hide hlen
  have hLt := hide hlt
  clear L1 L2 hlt hcm0
  go_enter Try.func53, Try.ntmps53
  go_wp2_with fail
  generalize hW : w.alloc (.cells C 34) = wx at *
  have d0 : wx.cell? ⟨w.heap.size, 0, none⟩ = some (.int .i64 (cn : Int)) := (p0.cell 0).trans hA0
  have d1 : wx.cell? ⟨w.heap.size, 1, none⟩ = some (.int .u64 (sum : Int)) := (p0.cell 1).trans hA1
  have hlw : w.heap.size < wx.heap.size := by omega
  replace hwz := hide hwz
  clear hW
  have C0 := fun (W : World) (h : Below wx.heap.size wx.drew W) => ((p0.keep (h.block _ p0.lt)).cell 0).trans hA0
  have C1 := fun (W : World) (h : Below wx.heap.size wx.drew W) => ((p0.keep (h.block _ p0.lt)).cell 1).trans hA1
  have hrf : ∀ w, Below wx.heap.size w w := Below.refl _
  have htr : ∀ a b c, Below wx.heap.size a b → Below wx.heap.size b c → Below wx.heap.size a c := fun _ _ _ h k => h.trans k
  refine wpR_region (Below wx.heap.size) [] (by kernel_rfl) ?_
  refine wpR_take hrf htr 0 rfl (by kernel_rfl) (fun _ _ _ h => h) rfl (v := ?_) ?_ ?_
  rotate_left
  · (intro w' hG; go_simp; try with_reducible rfl)
  try simp only [Act.put, List.setIfInBounds_toArray, List.set_cons_zero, List.set_cons_succ]
  refine wpR_take hrf htr 1 rfl (by kernel_rfl) (fun _ _ _ h => h) rfl (v := ?_) ?_ ?_
  rotate_left
  · (intro w' hG; go_simp; try with_reducible rfl)
  try simp only [Act.put, List.setIfInBounds_toArray, List.set_cons_zero, List.set_cons_succ]
  refine wpR_take hrf htr 2 rfl (by kernel_rfl) (fun _ _ _ h => h) rfl (v := ?_) ?_ ?_
  rotate_left
  · (intro w' hG; go_simp; try with_reducible rfl)
  try simp only [Act.put, List.setIfInBounds_toArray, List.set_cons_zero, List.set_cons_succ]
  refine wpR_take hrf htr 4 rfl (by kernel_rfl) (fun _ _ _ h => h) rfl (v := ?_) ?_ ?_
  rotate_left
  · (intro w' hG; go_simp; try with_reducible rfl)
  try simp only [Act.put, List.setIfInBounds_toArray, List.set_cons_zero, List.set_cons_succ]
  refine wpR_take hrf htr 5 rfl (by kernel_rfl) (fun _ _ _ h => h) rfl (v := ?_) ?_ ?_
  rotate_left
  · (intro w' hG; go_simp; try with_reducible rfl)
  try simp only [Act.put, List.setIfInBounds_toArray, List.set_cons_zero, List.set_cons_succ]
  refine wpR_call 3 rfl (by kernel_rfl) rfl fun K hK => ?_
  go_simp
  refine (hF1.out _).mono ?_
  rintro r w1 ⟨A1, c1, rfl, hown1, hg1⟩
  refine hK.out _ _ (.inr (hg1)) ?_
  clear hK
  try simp only [Act.put, List.setIfInBounds_toArray, List.set_cons_zero, List.set_cons_succ]
  have C1 := fun (W : World) (h : Below wx.heap.size w1 W) => C1 W (Below.trans hg1 h)
  refine wpR_call 6 rfl (by kernel_rfl) rfl fun K hK => ?_
  go_simp
  refine (hF2.out _).mono ?_
  rintro r w2 ⟨A2, c2, rfl, hown2, hg2⟩
  refine hK.out _ _ (.inr (Below.mono hg2 hg1.size)) ?_
  clear hK
  try simp only [Act.put, List.setIfInBounds_toArray, List.set_cons_zero, List.set_cons_succ]
  have hl1 := hL1.out
  have hl2 := hL2.out
  have hown1 := hown1.below hg2
  refine wpR_call 7 rfl (by kernel_rfl) rfl fun K hK => ?_
  refine oper_append_bytes byteT (.tmp 10) (.tmp 13) rfl hown1 hown2.bytes rfl rfl (by omega) (Nat.le_trans hg1.size hg2.size) ?_
  intro A3 c3 l3 w3 HL hown3 hg3 _
  refine hK.out _ _ (.inr ((Below.refl _ _).grown hg3 (Nat.le_trans hg1.size hg2.size) (fun q hq => hown1.base hq))) ?_
  clear hK
  try simp only [Act.put, List.setIfInBounds_toArray, List.set_cons_zero, List.set_cons_succ]
  refine wpR_take hrf htr 8 rfl (by kernel_rfl) (fun _ _ _ h => h) rfl (v := ?_) ?_ ?_
  rotate_left
  · (intro w' hG; go_simp; try with_reducible rfl)
  try simp only [Act.put, List.setIfInBounds_toArray, List.set_cons_zero, List.set_cons_succ]
  refine wpR_done (by kernel_rfl) ?_ _
  have hl3 : l3.length ≤ 16 := by rw [HL.out, List.length_append]; have := hL1.out; have := hL2.out; omega
  have hgr := hide (show Below wx.heap.size wx w3 from Below.trans (Below.undrew' hg1) (Below.grown (Below.mono hg2 hg1.size) hg3 (Nat.le_trans hg1.size hg2.size) (fun q hq => hown1.base hq)))
  have hown3 := hide hown3
  have hp0 := hide p0
  have hg0' := hide hg0
  clear C0 C1 hrf htr hg1 hg2 hg3 hown1 hown2 p0 hg0 hA0 hA1 d0 d1 hwr hF1 hF2 hl1 hl2
  go_wp2
  go_loopw [5, 6] (fun v i wr => ∃ (k : Nat) (A : Option Addr) (c : Nat) (b : List UInt8), k ≤ n ∧ v = .slice A b.length c ∧ i = .int .i64 k ∧ Hid (b = x1 ++ x2 ++ ofBytes (L.take k)) ∧ b.length ≤ 272 ∧ Hid (Own wr wx.heap.size A c b) ∧ Hid (Below wx.heap.size wx wr)) (fun _ i _ => n - (intOf i).toNat)
  case atStart => exact ⟨0, A3, c3, l3, by omega, rfl, rfl, hide (by rw [HL.out]; simp [ofBytes]), by omega, hown3, hgr⟩
  case round =>
    obtain ⟨k, A4, c4, b4, hk, rfl, rfl, hb4, hl4, hown4, hg4⟩ := hrel
    clear hown3 hgr
    by_cases hlt : k < n
    · have hki : (k : Int) < (n : Int) := by omega
      have hkL : k < L.length := by have := hlen.out; omega
      have hF := hide (hF3.out k hkL)
      have hx4 := hide (hlen4.out L[k])
      have hsn := hide (hofs.out k hkL)
      have hcell : wr.cell? ⟨w.heap.size, 2 + k, none⟩ = some (u32v L[k]) := ((hp0.out.keep (hg4.out.block _ hp0.out.lt)).cell (2 + k)).trans (hcells.out k hkL)
      have hxlt : (L[k] : Int) < 4294967296 := by have := hLt.out _ (List.getElem_mem hkL); omega
      generalize Buf.fixed L[k] 4 = y4 at *
      generalize L[k] = x at *
      unfold u32v at hcell
      go_wp2_with fail
      refine (HNo.out _).mono ?_
      rintro r w5 ⟨rfl, rfl⟩
      have hwx : IntKind.u64.wrap (x : Int) = (x : Int) := IntWalk.u64_in _ (by omega)
      go_wp2_with fail
      refine (hF.out _).mono ?_
      rintro r w6 ⟨A5, c5, rfl, hown5, hg5⟩
      have hg45 := hg4.out.size
      have hown6 := hide (hown4.out.below hg5)
      have hg6 := hide (Below.trans hg4.out (Below.mono hg5 hg45))
      have hb5 := hide hown5.bytes
      clear hown4 hown5 hg4 hg5 hF hwx hcell
      go_wp2_with (at_builtin; refine wpList_append_bytes byteT rfl (.tmp 21) (.tmp 27) rfl hown6.out hb5.out rfl rfl ?_ ?_ ?_)
      · have := hx4.out
        omega
      · exact hg6.out.size
      intro A7 c7 l7 w7 HL hown7 hg7 _
      have hl7 : l7.length ≤ 272 := by
        have h1 := congrArg List.length HL.out
        have h2 := hb4.out
        have h3 := congrArg List.length h2
        rw [List.length_append] at h1
        rw [List.length_append, List.length_append, ofBytes_len, List.length_take] at h3
        have := hL1.out
        have := hL2.out
        have := hlen.out
        have := hx4.out
        omega
      have hgr7 := hide (Below.grown hg6.out hg7 hg6.out.size (fun q hq => hown6.out.base hq))
      have hown7 := hide hown7
      have hb7 : Hid (l7 = x1 ++ x2 ++ ofBytes (L.take (k + 1))) := hide (by rw [HL.out, hb4.out, hsn.out, ← List.append_assoc])
      clear hg7 hg6 hown6 HL hb4
      go_wp2
      go_roundw
      case rel => exact ⟨k + 1, A7, c7, l7, by omega, rfl, by go_num, hb7, hl7, hown7, hgr7⟩
      case measure => simp [intOf]; omega
    · obtain rfl : k = n := by omega
      have e := hX.out.trans hb4.out.symm
      subst e
      go_wp2_with fail
      refine (HNo.out _).mono ?_
      rintro r w5 ⟨rfl, rfl⟩
      go_wp2
      go_ret
      exact ⟨A4, c4, rfl, hown4.out.mono (Nat.le_of_lt hlw), Grow.trans hg0'.out (Below.mono hg4.out (Nat.le_refl _))⟩
end Go.Proofs.Ytbccbfmgjeknhaa
