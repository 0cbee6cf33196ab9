/- Acts (chapter 46): whether two lists are the same; the walks of the statements ScriptDecodes and ScriptOnce. -/
import Derived.Test.YtcghgahohmabnaaScD
import Derived.Test.YtcghgahohmabnaaSc6
namespace Go.Proofs.Ytcghgahohmabnaa
open Go.RowKit
theorem actEq_refl (p : ActP) : actEq p p = true := by simp [actEq, fateEq_refl]
set_option maxRecDepth 100000 in
set_option maxHeartbeats 4000000 in
theorem all46_any (A C : Option Addr) (L M : List AB) (c d : Nat) (w : World) (hL : Acts w A L) (hM : Acts w C M) (he : L.map xa = M.map xa) (hn : L.length ≤ 1000000) :
    Calls Try.prog 78 #[.slice A L.length c, .slice C M.length d] w fun r w' => r = .returned (.bool true) ∧ Grow w w' := by
  have hml : M.length = L.length := by have := congrArg List.length he; simpa using this.symm
  have he := hide he
  rw [hml]
  have hg0 := Grow.refl w
  go_enter Try.func78, Try.ntmps78
  go_wp2
  go_loopw [13] (fun i wr => ∃ k : Nat, k ≤ L.length ∧ i = .int .i64 k ∧ Grow w wr) (fun i _ => L.length - (intOf i).toNat)
  case atStart => exact ⟨0, by omega, rfl, hg0⟩
  case round =>
    obtain ⟨k, hk, rfl, hgr⟩ := hrel
    clear hg0
    by_cases hlt : k < L.length
    · obtain ⟨b1, o1, hA1, hcs, hok⟩ := (hL.grow hgr).at_ k hlt
      obtain ⟨b2, o2, hC2, hcs2, hok2⟩ := (hM.grow hgr).at_ k (by omega)
      have hxx : xa L[k] = xa (M[k]'(by omega)) := by
        have := he.out
        have h1 : (L.map xa)[k]? = (M.map xa)[k]? := by rw [this]
        rw [List.getElem?_map, List.getElem?_map, List.getElem?_eq_getElem hlt, List.getElem?_eq_getElem (by omega)] at h1
        simpa using h1
      generalize L[k] = x at *
      generalize M[k]'(by omega) = y at *
      obtain ⟨p, Ax, l, cx⟩ := x
      obtain ⟨p', Ay, l', cy⟩ := y
      obtain ⟨rfl, rfl⟩ : p = p' ∧ l = l' := by simpa using hxx
      clear hxx
      subst hA1 hC2
      have HS := hide (fun W h1 h2 => refasame_any p p Ax Ay l l cx cy W h1 h2)
      rw [actEq_refl, show (l == l) = true by simp, Bool.and_self] at HS
      have hok := hide hok.bytes
      have hok2 := hide hok2.bytes
      have d0 := hcs 0 (by omega)
      have f0 := hcs2 0 (by omega)
      have d1 := hcs 1 (by omega)
      have f1 := hcs2 1 (by omega)
      have d2 := hcs 2 (by omega)
      have f2 := hcs2 2 (by omega)
      have d3 := hcs 3 (by omega)
      have f3 := hcs2 3 (by omega)
      have d4 := hcs 4 (by omega)
      have f4 := hcs2 4 (by omega)
      have d5 := hcs 5 (by omega)
      have f5 := hcs2 5 (by omega)
      have d6 := hcs 6 (by omega)
      have f6 := hcs2 6 (by omega)
      have d7 := hcs 7 (by omega)
      have f7 := hcs2 7 (by omega)
      have d8 := hcs 8 (by omega)
      have f8 := hcs2 8 (by omega)
      simp at d0 f0 d1 f1 d2 f2 d3 f3 d4 f4 d5 f5 d6 f6 d7 f7 d8 f8
      clear hcs hcs2
      have D0 := fun W (h : Grow wr.drew W) => Grow.cell' (Grow.of_drew h) d0
      have F0 := fun W (h : Grow wr.drew W) => Grow.cell' (Grow.of_drew h) f0
      have D1 := fun W (h : Grow wr.drew W) => Grow.cell' (Grow.of_drew h) d1
      have F1 := fun W (h : Grow wr.drew W) => Grow.cell' (Grow.of_drew h) f1
      have D2 := fun W (h : Grow wr.drew W) => Grow.cell' (Grow.of_drew h) d2
      have F2 := fun W (h : Grow wr.drew W) => Grow.cell' (Grow.of_drew h) f2
      have D3 := fun W (h : Grow wr.drew W) => Grow.cell' (Grow.of_drew h) d3
      have F3 := fun W (h : Grow wr.drew W) => Grow.cell' (Grow.of_drew h) f3
      have D4 := fun W (h : Grow wr.drew W) => Grow.cell' (Grow.of_drew h) d4
      have F4 := fun W (h : Grow wr.drew W) => Grow.cell' (Grow.of_drew h) f4
      have D5 := fun W (h : Grow wr.drew W) => Grow.cell' (Grow.of_drew h) d5
      have F5 := fun W (h : Grow wr.drew W) => Grow.cell' (Grow.of_drew h) f5
      have D6 := fun W (h : Grow wr.drew W) => Grow.cell' (Grow.of_drew h) d6
      have F6 := fun W (h : Grow wr.drew W) => Grow.cell' (Grow.of_drew h) f6
      have D7 := fun W (h : Grow wr.drew W) => Grow.cell' (Grow.of_drew h) d7
      have F7 := fun W (h : Grow wr.drew W) => Grow.cell' (Grow.of_drew h) f7
      have D8 := fun W (h : Grow wr.drew W) => Grow.cell' (Grow.of_drew h) d8
      have F8 := fun W (h : Grow wr.drew W) => Grow.cell' (Grow.of_drew h) f8
      clear d0 f0 d1 f1 d2 f2 d3 f3 d4 f4 d5 f5 d6 f6 d7 f7 d8 f8
      have hlti : (k : Int) < (L.length : Int) := by omega
      go_wp2
      refine wpR_region (Grow) [] (by kernel_rfl) ?_
      refine wpR_take grow_rf grow_tr 0 rfl (by kernel_rfl) (fun _ _ _ h => h) rfl (v := ?_) ?_ ?_
      rotate_left
      · (intro w' hG; go_simp; try with_reducible rfl)
      try simp only [Act.put, List.setIfInBounds_toArray, List.set_cons_zero, List.set_cons_succ]
      refine wpR_take grow_rf grow_tr 1 rfl (by kernel_rfl) (fun _ _ _ h => h) rfl (v := ?_) ?_ ?_
      rotate_left
      · (intro w' hG; go_simp; try with_reducible rfl)
      try simp only [Act.put, List.setIfInBounds_toArray, List.set_cons_zero, List.set_cons_succ]
      refine wpR_take grow_rf grow_tr 2 rfl (by kernel_rfl) (fun _ _ _ h => h) rfl (v := ?_) ?_ ?_
      rotate_left
      · (intro w' hG; go_simp; try with_reducible rfl)
      try simp only [Act.put, List.setIfInBounds_toArray, List.set_cons_zero, List.set_cons_succ]
      refine wpR_take grow_rf grow_tr 3 rfl (by kernel_rfl) (fun _ _ _ h => h) rfl (v := ?_) ?_ ?_
      rotate_left
      · (intro w' hG; go_simp; try with_reducible rfl)
      try simp only [Act.put, List.setIfInBounds_toArray, List.set_cons_zero, List.set_cons_succ]
      refine wpR_take grow_rf grow_tr 4 rfl (by kernel_rfl) (fun _ _ _ h => h) rfl (v := ?_) ?_ ?_
      rotate_left
      · (intro w' hG; go_simp; try with_reducible rfl)
      try simp only [Act.put, List.setIfInBounds_toArray, List.set_cons_zero, List.set_cons_succ]
      refine wpR_take grow_rf grow_tr 5 rfl (by kernel_rfl) (fun _ _ _ h => h) rfl (v := ?_) ?_ ?_
      rotate_left
      · (intro w' hG; go_simp; try with_reducible rfl)
      try simp only [Act.put, List.setIfInBounds_toArray, List.set_cons_zero, List.set_cons_succ]
      refine wpR_take grow_rf grow_tr 6 rfl (by kernel_rfl) (fun _ _ _ h => h) rfl (v := ?_) ?_ ?_
      rotate_left
      · (intro w' hG; go_simp; try with_reducible rfl)
      try simp only [Act.put, List.setIfInBounds_toArray, List.set_cons_zero, List.set_cons_succ]
      refine wpR_take grow_rf grow_tr 7 rfl (by kernel_rfl) (fun _ _ _ h => h) rfl (v := ?_) ?_ ?_
      rotate_left
      · (intro w' hG; go_simp; try with_reducible rfl)
      try simp only [Act.put, List.setIfInBounds_toArray, List.set_cons_zero, List.set_cons_succ]
      refine wpR_call 8 rfl (by kernel_rfl) rfl fun K hK => ?_
      go_simp
      refine (HS.out _ (hok.out.grow (Grow.of_drew (Grow.refl _))) (hok2.out.grow (Grow.of_drew (Grow.refl _)))).mono ?_
      rintro r w4 ⟨rfl, hb4⟩
      refine hK.out _ _ (.inr (hb4)) ?_
      clear hK
      try simp only [Act.put, List.setIfInBounds_toArray, List.set_cons_zero, List.set_cons_succ]
      have hg4 : Grow w w4 := Grow.trans hgr (Grow.of_drew hb4)
      refine wpR_take grow_rf grow_tr 9 rfl (by kernel_rfl) (fun _ _ _ h => h) rfl (v := ?_) ?_ ?_
      rotate_left
      · (intro w' hG; go_simp; try with_reducible rfl)
      try simp only [Act.put, List.setIfInBounds_toArray, List.set_cons_zero, List.set_cons_succ]
      refine wpR_done (by kernel_rfl) ?_ _
      clear D0 F0 D1 F1 D2 F2 D3 F3 D4 F4 D5 F5 D6 F6 D7 F7 D8 F8
      go_wp2
      go_roundw
      case rel => exact ⟨k + 1, by omega, by go_num, hg4⟩
      case measure => simp [intOf]; omega
    · obtain rfl : k = L.length := by omega
      clear hlt
      go_wp2
      go_ret
      exact ⟨rfl, hgr⟩
set_option maxRecDepth 100000 in
set_option maxHeartbeats 2000000 in
theorem scriptDecodes_any (B : Option Addr) (b : List UInt8) (cb : Nat) (w : World) (hbl : b.length ≤ cb) (_hbc : cb ≤ 9223372036854775807) (hb : Bytes w B b) :
    Calls Try.prog 19 #[.slice B b.length cb] w fun e w' => e = .returned (.bool true) ∧ Grow w w' := by
  obtain ⟨m, hm⟩ : ∃ m, m = b.take 1500 := ⟨_, rfl⟩
  have hmm : m.length = min 1500 b.length := by rw [hm, List.length_take]
  have hb := hm ▸ hb.take 1500
  have hmin : (if 1500 < (b.length : Int) then (1500 : Int) else (b.length : Int)) = ((m.length : Nat) : Int) := by split <;> omega
  have hmc : m.length ≤ cb := by omega
  have hmN : m.length ≤ 1500 := by omega
  clear hm hmm hbl
  go_enter Try.func19, Try.ntmps19
  go_wp2_with (at_builtin; refine wpList_append_fresh byteT rfl (.tmp 7) (.tmp 12) rfl (Own.made' _ (w.heap.size) (w.heap.size) (by simp) (by omega)) (by simp <;> omega) (hb.alloc _) rfl rfl (by omega) ?_)
  intro A1 c1 w1 hown1 hb1
  have hg1 := Grow.trans ((Grow.refl _).alloc _) hb1
  have h1 := hown1.bytes
  have hc1 := hown1.le
  clear hb1 hown1 hb
  go_wp2_with fail
  refine (adec_any A1 m c1 _ h1 (by omega)).mono ?_
  rintro r w2 ⟨⟨L, A2, c2, rfl, _, _, ha2, hx2, hn2⟩, hb2⟩
  have h2 := h1.grow hb2
  have hg2 := Grow.trans hg1 hb2
  have HR := hide (refadec_any A1 m c1 w2 h2 hc1.1 hc1.2)
  have hx2 := hide hx2
  go_wp2_with fail
  refine HR.out.mono ?_
  rintro r w3 ⟨⟨M, A3, c3, rfl, _, _, ha3, hx3, _⟩, hb3⟩
  have hg3 := Grow.trans hg2 hb3
  have HA := hide (all46_any A2 A3 L M c2 c3 w3 (ha2.grow hb3) ha3 (hx2.out.trans hx3.symm) (by omega))
  clear HR hx2 hx3
  generalize decA m = D at *
  go_wp2_with fail
  refine HA.out.mono ?_
  rintro r w4 ⟨rfl, hb4⟩
  go_wp2_with fail
  refine (works46_any _).mono ?_
  rintro r w5 ⟨rfl, hb5⟩
  go_wp2
  go_ret
  exact ⟨rfl, Grow.trans (Grow.trans hg3 hb4) hb5⟩
set_option maxRecDepth 100000 in
set_option maxHeartbeats 2000000 in
theorem scriptOnce_any (B : Option Addr) (b : List UInt8) (cb : Nat) (w : World) (hbl : b.length ≤ cb) (_hbc : cb ≤ 9223372036854775807) (hb : Bytes w B b) :
    Calls Try.prog 20 #[.slice B b.length cb] w fun e w' => e = .returned (.bool true) ∧ Grow w w' := by
  obtain ⟨m, hm⟩ : ∃ m, m = b.take 1500 := ⟨_, rfl⟩
  have hmm : m.length = min 1500 b.length := by rw [hm, List.length_take]
  have hb := hm ▸ hb.take 1500
  have hmin : (if 1500 < (b.length : Int) then (1500 : Int) else (b.length : Int)) = ((m.length : Nat) : Int) := by split <;> omega
  have hmc : m.length ≤ cb := by omega
  have hmN : m.length ≤ 1500 := by omega
  clear hm hmm hbl
  go_enter Try.func20, Try.ntmps20
  go_wp2_with (at_builtin; refine wpList_append_fresh byteT rfl (.tmp 7) (.tmp 12) rfl (Own.made' _ (w.heap.size) (w.heap.size) (by simp) (by omega)) (by simp <;> omega) (hb.alloc _) rfl rfl (by omega) ?_)
  intro A1 c1 w1 hown1 hb1
  have hg1 := Grow.trans ((Grow.refl _).alloc _) hb1
  have h1 := hown1.bytes
  have hc1 := hown1.le
  clear hb1 hown1 hb
  go_wp2_with fail
  refine (adec_any A1 m c1 _ h1 (by omega)).mono ?_
  rintro r w2 ⟨⟨L, A2, c2, rfl, _, _, ha2, hx2, hn2⟩, hb2⟩
  have h2 := h1.grow hb2
  have hg2 := Grow.trans hg1 hb2
  obtain ⟨⟨D, e⟩, hD⟩ : ∃ T, decA m = T := ⟨_, rfl⟩
  rw [hD] at hx2
  have hx2h := hide (show L.map xa = D from hx2)
  clear hx2
  rw [hD]
  have hDh := hide hD
  clear hD
  dsimp only
  by_cases he : e = 0
  rotate_left
  · have he' : (e != 0) = true := by simpa using he
    clear he
    go_wp2_with fail
    refine (works46_any _).mono ?_
    rintro r w5 ⟨rfl, hb5⟩
    go_wp2
    go_ret
    exact ⟨rfl, Grow.trans hg2 hb5⟩
  subst he
  have hone := hide (dec_once m L (by rw [hDh.out, hx2h.out]))
  have HE := hide (encode_any A2 L c2 w2 ha2 (by omega))
  rw [hone.out] at HE
  dsimp only at HE
  go_wp2_with fail
  refine HE.out.mono ?_
  rintro r w3 ⟨⟨A3, c3, rfl, _, _, hby, _⟩, hb3⟩
  have hg3 := Grow.trans hg2 hb3
  have V : (convert 22 9 (.slice A1 m.length c1)).run Try.prog w3 = .ok (.string ⟨m.toArray⟩) w3 := conv_any c1 (h2.grow hb3)
  have V2 : (convert 22 9 (.slice A3 m.length c3)).run Try.prog w3 = .ok (.string ⟨m.toArray⟩) w3 := conv_any c3 hby
  clear hby
  go_wp2_with fail
  refine (works46_any _).mono ?_
  rintro r w5 ⟨rfl, hb5⟩
  go_wp2
  go_ret
  exact ⟨rfl, Grow.trans hg3 hb5⟩
end Go.Proofs.Ytcghgahohmabnaa
