/- The walk of SnapOwn (chapter 41). -/
import Derived.Test.YtbccbfmgjeknhaaLn
namespace Go.Proofs.Ytbccbfmgjeknhaa
open Go.RowKit
set_option maxRecDepth 100000 in
theorem run_append_full (w : World) {ty : Nat} {A A2 : Option Addr} {c2 : Nat} {l l2 : List UInt8} (hA : Bytes w A l) (hb : Bytes w A2 l2) (hn : 0 < l2.length) (hm : l.length + l2.length ≤ 1000000) :
    ∃ v' w', (Builtin.append_ #[22, 22] ty #[.slice A l.length l.length, .slice A2 l2.length c2]).run Try.prog w = .ok v' w' ∧ Grow w w' := by
  cases A with
  | none =>
    have hl : l = [] := by
      rcases List.eq_nil_or_concat l with h | ⟨_, _, h⟩
      · exact h
      · obtain ⟨_, _, h2, _⟩ := hA (by rw [h]; simp)
        cases h2
    subst hl
    obtain ⟨A', c', w', h1, _, h3, _⟩ := run_append_bytes byteT w (ty := ty) (Own.nil_ w w.heap.size) (c2 := c2) hb (by simp; omega) (Nat.le_refl _)
    exact ⟨_, w', h1, ⟨h3.os, h3.tape, h3.output, h3.size, fun k hk => h3.block k hk (by simp [blk])⟩⟩
  | some ad =>
    obtain ⟨i, hi, hz, hs, hby⟩ := byteT.info
    obtain ⟨b, o, rfl, hc⟩ := hb (by intro e; rw [e] at hn; simp at hn)
    obtain ⟨v', w', h1, _, h3⟩ := run_append_arg_grows (P := Try.prog) w 22 ty 5 i (.int .u8 0) 1 1 byteT.und hi hz hs hby rfl (by omega) ad l.length l.length (l.map u8) (by simp) (fun j u hu => by
        have hj : j < l.length := by
          rcases Nat.lt_or_ge j l.length with h | h
          · exact h
          · rw [List.getElem?_eq_none (by simpa using h)] at hu; cases hu
        obtain ⟨b', o', h1, h2⟩ := hA (by intro e; rw [e] at hj; simp at hj)
        injection h1 with h1
        subst h1
        rw [u8_map_get l j hj] at hu
        injection hu with hu
        subst hu
        have e : (⟨b', o', none⟩ : Addr).add j = ⟨b', o' + j, none⟩ := by unfold Addr.add; split <;> simp_all
        rw [e, h2 j hj])
      ⟨b, o, none⟩ l2.length c2 (l2.map u8) (by simp) (fun j u hu => by
        have hj : j < l2.length := by
          rcases Nat.lt_or_ge j l2.length with h | h
          · exact h
          · rw [List.getElem?_eq_none (by simpa using h)] at hu; cases hu
        rw [u8_map_get l2 j hj] at hu
        injection hu with hu
        subst hu
        have e : (⟨b, o, none⟩ : Addr).add j = ⟨b, o + j, none⟩ := by unfold Addr.add; split <;> simp_all
        rw [e, hc j hj]) (by omega) (by unfold maxLen; omega) (by omega)
    exact ⟨_, w', h1, ⟨h3.os, h3.tape, h3.output, h3.size, fun k hk => h3.block k hk (by simp)⟩⟩
set_option maxRecDepth 100000 in
theorem wpList_append_full {ops : Array Oper} {rest : List Oper} {o : Oper} {a : Act} {w : World} {Q : Exit → Act → World → Prop} (hgd : o.guard = none) (s x : Operand)
    (ho : o.op = .call { callee := .builtin .append, args := #[s, x], argTypes := #[22, 22] }) {A A2 : Option Addr} {c2 : Nat} {l l2 : List UInt8} (hA : Bytes w A l) (hb : Bytes w A2 l2) (hn : 0 < l2.length) (hm : l.length + l2.length ≤ 1000000)
    (hs : a.eval s = .slice A l.length l.length) (hx : a.eval x = .slice A2 l2.length c2)
    (h : ∀ v' w', Grow w w' → wpList Try.prog ops Q rest (a.put o.dst v') w') : wpList Try.prog ops Q (o :: rest) a w :=
  wpList_plain hgd fun K hK => by
    obtain ⟨v', w', hr, h1⟩ := run_append_full w (ty := o.type) hA (c2 := c2) hb hn hm
    unfold Oper.wp execOp
    simp only [ho, resolve, invoke, builtin, Sem.run_bind, Sem.run_pure, Result.andThen_ok, List.map_toArray, List.map_cons, List.map_nil, hs, hx, hr]
    exact hK _ _ (h v' w' h1)
set_option maxRecDepth 100000 in
set_option maxHeartbeats 4000000 in
theorem snapOwn_any (A : Option Addr) (l : List UInt8) (c : Nat) (z x : UInt8) (w : World) (hl : l.length ≤ c) (hc : c ≤ 9223372036854775807) (hb : Bytes w A l) :
    Calls Try.prog 3 #[.slice A l.length c, .int .u8 (z.toNat : Int), .int .u8 (x.toNat : Int)] w fun e w' => e = .returned (.bool true) ∧ Grow w w' := by
  obtain ⟨m, hm⟩ : ∃ m, m = l.take 200 := ⟨_, rfl⟩
  have hmm : m.length = min 200 l.length := by rw [hm, List.length_take]
  have hb := hm ▸ hb.take 200
  have hmin : (if 200 < (l.length : Int) then (200 : Int) else (l.length : Int)) = ((m.length : Nat) : Int) := by split <;> omega
  have hmin2 : (if (l.length : Int) < 200 then (l.length : Int) else (200 : Int)) = ((m.length : Nat) : Int) := by split <;> omega
  have hmc : m.length ≤ c := by omega
  have hmN : m.length ≤ 200 := by omega
  clear hm hmm hl
  have HW := hide works41_any
  obtain ⟨s, hsz⟩ : ∃ s, s = z.toNat % 16 := ⟨_, rfl⟩
  have hs16 : s < 16 := by omega
  have hz8 := u8_lt z
  have hx8 := u8_lt x
  have hrem : ((z.toNat : Int)).tmod 16 = (s : Int) := by rw [Int.tmod_eq_emod_of_nonneg (by omega)]; omega
  have HS := hide (fun A c W hb => ssplit_any A m c (s + 1) W (by omega) (by omega) (by omega) hb)
  have HR := hide (fun A c W hb => refsplit_any A m c (s + 1) W (by omega) (by omega) hb)
  have hmost := (splitR_most (s + 1) (by omega) m).1
  have hpart := hide (splitR_part (s + 1) (by omega) m)
  generalize splitR (s + 1) m = S at *
  rw [show (((s + 1 : Nat)) : Int) = (s : Int) + 1 from by omega] at HS HR
  clear hsz
  go_enter Try.func3, Try.ntmps3
  go_wp2_with (at_builtin; refine wpList_append_fresh byteT rfl (.tmp 11) (.tmp 16) rfl (Own.made' _ (w.heap.size) (w.heap.size) (by simp) (by omega)) (by simp <;> omega) (hb.alloc _) rfl rfl (by omega) ?_)
  intro A1 c1 w1 hown1 hb1
  have hg1 := Grow.trans ((Grow.refl _).alloc _) hb1
  have hb1' := hide hown1.bytes
  clear hb hb1 hmin hmin2 hmc hc hown1
  go_wp2_with fail
  refine (HS.out _ _ _ hb1'.out).mono ?_
  rintro r w2 ⟨⟨A2, c2, Y, rfl, hYS, hV, hYb⟩, hg2⟩
  go_wp2_with fail
  refine (HR.out A1 c1 w2 (hb1'.out.grow hg2)).mono ?_
  rintro r w3 ⟨⟨A3, c3, rfl, hS3⟩, hg3⟩
  have hV3 := hide (hV.grow hg3)
  have hYb3 := hide (show ∀ x, x ∈ Y → Bytes w3 x.A x.l ∧ x.c = x.l.length ∧ x.l.length ≤ s + 1 from fun x hx => ⟨(hYb x hx).1.grow hg3, (hYb x hx).2, hpart.out _ (by rw [← hYS]; exact List.mem_map_of_mem hx)⟩)
  have hYl : Y.length = S.length := by rw [← hYS]; simp
  have hS2 : Sls w3 A2 S := by
    rw [← hYS]
    exact (hV.grow hg3).sls (fun x hx => (hYb x hx).1.grow hg3)
  have hg3 := (hg1.trans hg2).trans hg3
  have hS2 := hide hS2
  have hS3 := hide hS3
  have hg33 := Grow.refl w3
  have hYl := hide hYl
  clear hg1 hg2 hb1' hV hYb hYS HS HR hpart
  go_wp2
  go_loopw [37] (fun i wr => (∃ k : Nat, k ≤ S.length ∧ i = .int .i64 k) ∧ Grow w3 wr) (fun i _ => S.length - (intOf i).toNat)
  case atStart => exact ⟨⟨0, by omega, rfl⟩, hg33⟩
  case round =>
    clear hg33
    obtain ⟨⟨k, hk, rfl⟩, hgr⟩ := hrel
    by_cases hlt : k < S.length
    · have hkY : k < Y.length := by rw [hYl.out]; exact hlt
      obtain ⟨g2, hA2, _, hc2⟩ := (hV3.out.grow hgr).at (by intro e; rw [e] at hkY; cases hkY)
      subst hA2
      have hcell := hc2 k hkY
      obtain ⟨hb5, hc5, hl5⟩ := hYb3.out _ (List.getElem_mem hkY)
      have hb5 := hide (hb5.grow hgr)
      rw [show sbv Y[k] = .slice Y[k].A Y[k].l.length Y[k].l.length from by unfold sbv; rw [hc5]] at hcell
      generalize Y[k].l = l5 at *
      generalize Y[k].A = A5 at *
      have hgl := World.block_lt_of_cell? wr _ hcell
      clear hc2 hc5 hkY
      have hgr := hide hgr
      go_wp2_with (at_builtin; refine wpList_append_full rfl (.tmp 43) (.tmp 46) rfl (hb5.out.alloc _) (l2 := [x, x]) (Bytes.lit' _ _ (by simp) [x, x] #[.int .u8 (x.toNat : Int), .int .u8 (x.toNat : Int)] 5 (0, 0) rfl) (by simp) (by simp; omega) rfl rfl ?_)
      intro v5 w5 hg5
      have hg5 := hide (hgr.out.trans (((Grow.refl _).alloc _).trans hg5))
      go_wp2
      go_roundw
      case rel => exact ⟨⟨k + 1, by omega, by go_num⟩, hg5.out⟩
      case measure => simp [intOf]; omega
    · obtain rfl : k = S.length := by omega
      have hS2 := hide (hS2.out.grow hgr)
      have hS3 := hide (hS3.out.grow hgr)
      have hg3 := hg3.trans hgr
      clear hgr hlt hV3 hYb3
      have hgr := Grow.refl wr
      obtain ⟨w4, hw4⟩ : ∃ w4, w4 = wr := ⟨_, rfl⟩
      subst hw4
      go_wp2
      go_loopw [51] (fun i wx => (∃ k : Nat, k ≤ S.length ∧ i = .int .i64 k) ∧ Grow w4 wx) (fun i _ => S.length - (intOf i).toNat)
      case atStart => exact ⟨⟨0, by omega, rfl⟩, hgr⟩
      case round =>
        clear hgr hk
        obtain ⟨⟨k, hk, rfl⟩, hgr⟩ := hrel
        have hS2 := hide (hS2.out.grow hgr)
        have hS3 := hide (hS3.out.grow hgr)
        have hgr0 := hide hgr
        have hgr := hide (hg3.trans hgr)
        by_cases hlt : k < S.length
        · obtain ⟨b2, o2, hA2, hc2⟩ := hS2.out (by intro e; rw [e] at hlt; cases hlt)
          obtain ⟨b3, o3, hA3, hc3⟩ := hS3.out (by intro e; rw [e] at hlt; cases hlt)
          subst hA2 hA3
          obtain ⟨A4, c4, hcell4, hb4⟩ := hc2 k hlt
          obtain ⟨A5, c5, hcell5, hb5⟩ := hc3 k hlt
          have C4 := fun (W : World) (h : Grow wr.drew W) => Grow.cell' (Grow.of_drew h) hcell4
          have C5 := fun (W : World) (h : Grow wr.drew W) => Grow.cell' (Grow.of_drew h) hcell5
          have V4 := fun (W : World) (h : Grow wr.drew W) => conv_any c4 (hb4.grow (Grow.of_drew h))
          have V5 := fun (W : World) (h : Grow wr.drew W) => conv_any c5 (hb5.grow (Grow.of_drew h))
          clear hc2 hc3 hb4 hb5 hcell4 hcell5
          generalize S[k] = y at *
          go_wp2
          refine wpR_region (Grow) [] (by kernel_rfl) ?_
          refine wpR_take grow_rf grow_tr 0 rfl (by kernel_rfl) (fun _ _ _ h => h) rfl (v := ?_) ?_ ?_
          rotate_left
          · (intro w' hG; go_simp; try with_reducible rfl)
          try simp only [Act.put, List.setIfInBounds_toArray, List.set_cons_zero, List.set_cons_succ]
          refine wpR_take grow_rf grow_tr 1 rfl (by kernel_rfl) (fun _ _ _ h => h) rfl (v := ?_) ?_ ?_
          rotate_left
          · (intro w' hG; go_simp; try with_reducible rfl)
          try simp only [Act.put, List.setIfInBounds_toArray, List.set_cons_zero, List.set_cons_succ]
          refine wpR_take grow_rf grow_tr 2 rfl (by kernel_rfl) (fun _ _ _ h => h) rfl (v := ?_) ?_ ?_
          rotate_left
          · (intro w' hG; go_simp; try with_reducible rfl)
          try simp only [Act.put, List.setIfInBounds_toArray, List.set_cons_zero, List.set_cons_succ]
          refine wpR_take grow_rf grow_tr 3 rfl (by kernel_rfl) (fun _ _ _ h => h) rfl (v := ?_) ?_ ?_
          rotate_left
          · (intro w' hG; go_simp; try with_reducible rfl)
          try simp only [Act.put, List.setIfInBounds_toArray, List.set_cons_zero, List.set_cons_succ]
          refine wpR_take grow_rf grow_tr 4 rfl (by kernel_rfl) (fun _ _ _ h => h) rfl (v := ?_) ?_ ?_
          rotate_left
          · (intro w' hG; go_simp; try with_reducible rfl)
          try simp only [Act.put, List.setIfInBounds_toArray, List.set_cons_zero, List.set_cons_succ]
          refine wpR_take grow_rf grow_tr 5 rfl (by kernel_rfl) (fun _ _ _ h => h) rfl (v := ?_) ?_ ?_
          rotate_left
          · (intro w' hG; go_simp; try with_reducible rfl)
          try simp only [Act.put, List.setIfInBounds_toArray, List.set_cons_zero, List.set_cons_succ]
          refine wpR_take grow_rf grow_tr 6 rfl (by kernel_rfl) (fun _ _ _ h => h) rfl (v := ?_) ?_ ?_
          rotate_left
          · (intro w' hG; go_simp; try with_reducible rfl)
          try simp only [Act.put, List.setIfInBounds_toArray, List.set_cons_zero, List.set_cons_succ]
          refine wpR_take grow_rf grow_tr 7 rfl (by kernel_rfl) (fun _ _ _ h => h) rfl (v := ?_) ?_ ?_
          rotate_left
          · (intro w' hG; go_simp; try with_reducible rfl)
          try simp only [Act.put, List.setIfInBounds_toArray, List.set_cons_zero, List.set_cons_succ]
          refine wpR_take grow_rf grow_tr 8 rfl (by kernel_rfl) (fun _ _ _ h => h) rfl (v := ?_) ?_ ?_
          rotate_left
          · (intro w' hG; go_simp; try with_reducible rfl)
          try simp only [Act.put, List.setIfInBounds_toArray, List.set_cons_zero, List.set_cons_succ]
          refine wpR_take grow_rf grow_tr 9 rfl (by kernel_rfl) (fun _ _ _ h => h) rfl (v := ?_) ?_ ?_
          rotate_left
          · (intro w' hG; go_simp; try with_reducible rfl)
          try simp only [Act.put, List.setIfInBounds_toArray, List.set_cons_zero, List.set_cons_succ]
          refine wpR_take grow_rf grow_tr 10 rfl (by kernel_rfl) (fun _ _ _ h => h) rfl (v := ?_) ?_ ?_
          rotate_left
          · (intro w' hG; go_simp; try with_reducible rfl)
          try simp only [Act.put, List.setIfInBounds_toArray, List.set_cons_zero, List.set_cons_succ]
          refine wpR_done (by kernel_rfl) ?_ _
          go_wp2
          go_roundw
          case rel => exact ⟨⟨k + 1, by omega, by go_num⟩, hgr0.out.drew⟩
          case measure => simp [intOf]; omega
        · obtain rfl : k = S.length := by omega
          clear hlt
          go_wp2_with fail
          refine (HW.out _).mono ?_
          rintro r w7 ⟨rfl, hg7⟩
          go_wp2
          go_ret
          exact ⟨rfl, hgr.out.trans hg7⟩
theorem snapOwn_all (A : Option Addr) (l : List UInt8) (c : Nat) (a b : Int) (w : World) (hl : l.length ≤ c) (hc : c ≤ 9223372036854775807) (hb : Bytes w A l) (a0 : 0 ≤ a) (a1 : a < 256) (b0 : 0 ≤ b) (b1 : b < 256) :
    Calls Try.prog 3 #[.slice A l.length c, .int .u8 a, .int .u8 b] w fun e w' => e = .returned (.bool true) ∧ Grow w w' := by
  have ea : (((UInt8.ofNat a.toNat).toNat : Nat) : Int) = a := by rw [UInt8.toNat_ofNat']; omega
  have eb : (((UInt8.ofNat b.toNat).toNat : Nat) : Int) = b := by rw [UInt8.toNat_ofNat']; omega
  have h := snapOwn_any A l c (UInt8.ofNat a.toNat) (UInt8.ofNat b.toNat) w hl hc hb
  rw [ea, eb] at h
  exact h
end Go.Proofs.Ytbccbfmgjeknhaa
