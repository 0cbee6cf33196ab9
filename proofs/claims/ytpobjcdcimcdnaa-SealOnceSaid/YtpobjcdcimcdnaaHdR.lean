/- The walks of the document of head.Get and of head.Put. -/
import Derived.Test.YtpobjcdcimcdnaaHdG
import Derived.Test.YtpobjcdcimcdnaaR05
namespace Go.Proofs.Ytpobjcdcimcdnaa
open Go.RowKit
theorem Box.store3 {w w' : World} {g : Nat} {a0 a1 a2 a3 a4 a5 a6 a7 a8 a9 a10 a11 b1 b2 b3 : Value} (h : Box w g #[a0, a1, a2, a3, a4, a5, a6, a7, a8, a9, a10, a11]) (hW : World.setCell (World.setCell (World.setCell w ⟨g, 1, none⟩ b1) ⟨g, 2, none⟩ b2) ⟨g, 3, none⟩ b3 = w') :
    Box w' g #[a0, b1, b2, b3, a4, a5, a6, a7, a8, a9, a10, a11] := by
  subst hW
  exact ((Box.set h 1 b1).set 2 b2).set 3 b3
theorem Kept.store3 {w w' : World} {g : Nat} {b1 b2 b3 : Value} (hW : World.setCell (World.setCell (World.setCell w ⟨g, 1, none⟩ b1) ⟨g, 2, none⟩ b2) ⟨g, 3, none⟩ b3 = w') : Kept w.heap.size [g] w w' := by
  subst hW
  exact Kept.setCell (p := ⟨g, 3, none⟩) (Kept.setCell (p := ⟨g, 2, none⟩) (Kept.setCell (p := ⟨g, 1, none⟩) (Kept.refl _ _ _) (.inr (by simp)) b1) (.inr (by simp)) b2) (.inr (by simp)) b3
/-- a result of the document: a head, what is left, what is wrong -/
def GotH3 (B : Option Addr) (b : List UInt8) (r : Ending) (q : Pkt) (rest : List UInt8) (e : Int) : Prop := ∃ A c, r = .returned (.tuple #[pv q none 0 0, .slice A rest.length c, .int .i64 e]) ∧ rest.length ≤ c ∧ c ≤ 9223372036854775807 ∧ ∀ W, Bytes W B b → Bytes W A rest
theorem goth3_bad {B : Option Addr} {b : List UInt8} {e : Int} : GotH3 B b (.returned (.tuple #[pv noP none 0 0, .slice none 0 0, .int .i64 e])) noP [] e := ⟨none, 0, rfl, Nat.le_refl _, by decide, fun _ _ => Bytes.nil _ _⟩
set_option maxRecDepth 100000 in
set_option maxHeartbeats 2000000 in
theorem refheadget_any (B : Option Addr) (b : List UInt8) (cb : Nat) (w : World) (hb : Bytes w B b) (hc : b.length ≤ cb) (hcm : cb ≤ 9223372036854775807) :
    Calls Try.prog 51 #[.slice B b.length cb] w fun r w' => GotH3 B b r (hg b).1 (hg b).2.1 (hg b).2.2 ∧ Grow w w' := by
  obtain ⟨Q, HQ_⟩ : ∃ Q, Q = hg b := ⟨_, rfl⟩
  have HQ := hide HQ_
  clear HQ_
  rw [← HQ.out]
  by_cases h0 : b.length = 0
  · have h00 : b = [] := List.eq_nil_of_length_eq_zero h0
    have HP : Hid (Q = (noP, [], 3)) := hide (HQ.out.trans (by rw [h00]; exact hg_nil))
    clear h00 HQ
    go_enter Try.func51, Try.ntmps51
    go_wp2
    refine bodyPost_ret (v := .tuple #[pv (noP) none 0 0, .slice none 0 0, .int .i64 3]) (by simp [results, Try.results51, go_sem, noP]) rfl ?_
    rw [HP.out]
    refine ⟨goth3_bad, ?_⟩
    show Below w.heap.size w _
    repeat (with_reducible refine Below.setCell ?_ (by simp; try omega) _)
    exact (Grow.refl w).alloc _
  have h1 : 1 ≤ b.length := by omega
  have h01 : (b.length == 0) = false := by simpa using h0
  clear h0
  have hr1 := hide (getD_one h1)
  obtain ⟨bb, oo, hA, hcell0⟩ := hb.get 0 h1
  subst hA
  rw [Nat.add_zero] at hcell0
  have hbb : bb < w.heap.size := World.block_lt_of_cell? w _ hcell0
  have C0 := fun o => Grow.cell' ((Grow.refl w).alloc o) hcell0
  by_cases hk : knownB ((b.getD 0 0).toNat : Int) = true
  rotate_left
  · have hk : knownB ((b.getD 0 0).toNat : Int) = false := by simpa using hk
    have HP : Hid (Q = (noP, [], 7)) := by
      obtain ⟨a, r, hl, h00, _⟩ := hr1.out
      rw [h00] at hk
      exact hide (HQ.out.trans (by rw [hl]; exact hg_kind hk))
    clear hr1 HQ
    have ha0 : (b.getD 0 0).toNat < 256 := (b.getD 0 0).toNat_lt
    generalize (b.getD 0 0).toNat = a0 at *
    have hks : (a0 : Int) < 1 ∨ (1 ≤ (a0 : Int) ∧ 6 < (a0 : Int)) := by simp [knownB] at hk; omega
    clear hk
    rcases hks with hks | ⟨hks0, hks⟩
    all_goals
      go_enter Try.func51, Try.ntmps51
      go_wp2
      refine bodyPost_ret (v := .tuple #[pv (noP) none 0 0, .slice none 0 0, .int .i64 7]) (by simp [results, Try.results51, go_sem, noP]) rfl ?_
      rw [HP.out]
      refine ⟨goth3_bad, ?_⟩
      show Below w.heap.size w _
      repeat (with_reducible refine Below.setCell ?_ (by simp; try omega) _)
      exact ((Grow.refl w).alloc _).alloc _
  have hk1 : 1 ≤ ((b.getD 0 0).toNat : Int) ∧ ((b.getD 0 0).toNat : Int) ≤ 6 := by simpa [knownB] using hk
  obtain ⟨hk1, hk2⟩ := hk1
  have HF := hide (fun W => refflood_any ((b.getD 0 0).toNat : Int) W)
  cases hf : floodB ((b.getD 0 0).toNat : Int) with
  | false =>
    have HP : Hid (Q = (hdP ((b.getD 0 0).toNat : Int) 0 0 0 0, b.drop 1, 0)) := by
      obtain ⟨a, r, hl, h00, h11⟩ := hr1.out
      rw [h00] at hk hf ⊢
      rw [h11]
      exact hide (HQ.out.trans (by rw [hl]; exact hg_bare hk hf))
    rw [hf] at HF
    clear hr1 HQ hk hf
    generalize (b.getD 0 0).toNat = a0 at *
    obtain ⟨A2, c2, hsl, hc2, hcm2, hsb⟩ := slice_from (some ⟨bb, oo, none⟩) b cb 1 1 rfl h1 hc
    have hd1 : (b.drop 1).length = b.length - 1 := List.length_drop
    generalize b.drop 1 = rest at *
    go_enter Try.func51, Try.ntmps51
    go_wp2_with fail
    generalize hW1 : World.alloc (World.alloc w _) _ = w1
    have hb1 := Grow.of_eq hW1
    clear hW1
    obtain ⟨q0, p0, hg1⟩ := peel2 hb1
    have q0_ := hide q0
    clear q0
    have q0 := q0_
    clear q0_
    have p0_ := hide p0
    clear p0
    have p0 := p0_
    clear p0_
    have HG1 := hide (show Grow w w1 from hg1)
    have hsz1 : w.heap.size ≤ w1.heap.size := HG1.out.size
    have hq1 : w.heap.size ≤ w1.heap.size := hg1.size
    have HS1 := hide hg1
    clear hb1 hg1
    obtain ⟨cq0, fq0, lq0⟩ := (show Box w1 _ _ from q0.out).rules
    obtain ⟨cp0, fp0, lp0⟩ := (show Box w1 _ _ from p0.out).rules
    refine (HF.out _).mono ?_
    rintro r w' ⟨rfl, rfl⟩
    go_wp2_with fail
    have hrf : ∀ a, Kept w1.heap.size [w.heap.size] a a := fun a => Kept.refl _ _ a
    have htr : ∀ a b c, Kept w1.heap.size [w.heap.size] a b → Kept w1.heap.size [w.heap.size] b c → Kept w1.heap.size [w.heap.size] a c := fun _ _ _ h k => h.trans k
    have Rp0 := fun (W : World) (h : Kept w1.heap.size [w.heap.size] w1.drew W) => ((show Box w1 _ _ from p0.out).drew.kept h (by simp; try omega)).cell
    have Fp0 := fun (W : World) (h : Kept w1.heap.size [w.heap.size] w1.drew W) => ((show Box w1 _ _ from p0.out).drew.kept h (by simp; try omega)).fz
    refine wpR_region (Kept w1.heap.size [w.heap.size]) [] (by kernel_rfl) ?_
    refine wpR_take hrf htr 0 rfl (by kernel_rfl) (fun _ _ _ h => h) rfl (v := ?_) ?_ ?_
    rotate_left
    · (intro w' hG; go_simp; try with_reducible rfl)
    try simp only [Act.put, List.setIfInBounds_toArray, List.set_cons_zero, List.set_cons_succ]
    refine wpR_take hrf htr 1 rfl (by kernel_rfl) (fun _ _ _ h => h) rfl (v := ?_) ?_ ?_
    rotate_left
    · (intro w' hG; go_simp; try with_reducible rfl)
    try simp only [Act.put, List.setIfInBounds_toArray, List.set_cons_zero, List.set_cons_succ]
    refine wpR_take hrf htr 2 rfl (by kernel_rfl) (fun _ _ _ h => h) rfl (v := ?_) ?_ ?_
    rotate_left
    · (intro w' hG; go_simp; try with_reducible rfl)
    try simp only [Act.put, List.setIfInBounds_toArray, List.set_cons_zero, List.set_cons_succ]
    refine wpR_call 3 rfl (by kernel_rfl) rfl fun K hK => ?_
    go_simp
    skip
    refine hK.out _ _ (.inr (by refine Kept.drew2 ?_; (repeat (with_reducible refine Kept.setCell ?_ (.inr (by simp)) _)); exact Kept.refl _ _ _)) ?_
    clear hK
    try simp only [Act.put, List.setIfInBounds_toArray, List.set_cons_zero, List.set_cons_succ]
    refine wpR_take hrf htr 4 rfl (by kernel_rfl) (fun _ _ _ h => h) rfl (v := ?_) ?_ ?_
    rotate_left
    · (intro w' hG; go_simp; try with_reducible rfl)
    try simp only [Act.put, List.setIfInBounds_toArray, List.set_cons_zero, List.set_cons_succ]
    refine wpR_take hrf htr 5 rfl (by kernel_rfl) (fun _ _ _ h => h) rfl (v := ?_) ?_ ?_
    rotate_left
    · (intro w' hG; go_simp; try with_reducible rfl)
    try simp only [Act.put, List.setIfInBounds_toArray, List.set_cons_zero, List.set_cons_succ]
    refine wpR_done (by kernel_rfl) ?_ _
    clear Rp0 Fp0
    go_wp2
    refine bodyPost_ret (v := .tuple #[pv (hdP a0 0 0 0 0) none 0 0, .slice A2 rest.length c2, .int .i64 0]) (by simp [results, Try.results51, go_sem, hdP, cp0, cq0, hd1]) rfl ?_
    rw [HP.out]
    refine ⟨⟨A2, c2, rfl, hc2, by omega, hsb⟩, ?_⟩
    refine Grow.drew (show Grow w _ from ?_)
    show Below w.heap.size w _
    repeat (with_reducible refine Below.setCell ?_ (by simp; try omega) _)
    exact HG1.out
  | true =>
    rw [hf] at HF
    by_cases h2 : b.length = 1
    · have HP : Hid (Q = (noP, [], 3)) := by
        obtain ⟨a, r, hl, h00, _⟩ := hr1.out
        rw [h00] at hk hf
        have hr0 : r = [] := by rw [hl] at h2; simpa using h2
        exact hide (HQ.out.trans (by rw [hl, hr0]; exact hg_one hk hf))
      have h2' : (b.length == 1) = true := by simpa using h2
      clear hr1 HQ hk hf
      have a0lt : (b.getD 0 0).toNat < 256 := u8_lt _
      generalize (b.getD 0 0).toNat = a0 at *
      go_enter Try.func51, Try.ntmps51
      go_wp2_with fail
      generalize hW1 : World.alloc (World.alloc w _) _ = w1
      have hb1 := Grow.of_eq hW1
      clear hW1
      obtain ⟨q0, p0, hg1⟩ := peel2 hb1
      have q0_ := hide q0
      clear q0
      have q0 := q0_
      clear q0_
      have p0_ := hide p0
      clear p0
      have p0 := p0_
      clear p0_
      have hb := hb.grow hg1
      have HG1 := hide (show Grow w w1 from hg1)
      have hsz1 : w.heap.size ≤ w1.heap.size := HG1.out.size
      have hq1 : w.heap.size ≤ w1.heap.size := hg1.size
      have HS1 := hide hg1
      clear hb1 hg1
      obtain ⟨cq0, fq0, lq0⟩ := (show Box w1 _ _ from q0.out).rules
      obtain ⟨cp0, fp0, lp0⟩ := (show Box w1 _ _ from p0.out).rules
      refine (HF.out _).mono ?_
      rintro r w' ⟨rfl, rfl⟩
      go_wp2
      refine bodyPost_ret (v := .tuple #[pv (noP) none 0 0, .slice none 0 0, .int .i64 3]) (by simp [results, Try.results51, go_sem, noP, cq0]) rfl ?_
      rw [HP.out]
      refine ⟨goth3_bad, ?_⟩
      show Below w.heap.size w _
      repeat (with_reducible refine Below.setCell ?_ (by simp; try omega) _)
      exact HG1.out
    have h21 : (b.length == 1) = false := by simpa using h2
    have h2' : 2 ≤ b.length := by omega
    clear h2
    have hr2 := hide (getD_two h2')
    by_cases hh : hopsB ((b.getD 1 0).toNat : Int) = true
    rotate_left
    · have hh : hopsB ((b.getD 1 0).toNat : Int) = false := by simpa using hh
      have HP : Hid (Q = (noP, [], 9)) := by
        obtain ⟨a, k, r, hl, h00, h11, _⟩ := hr2.out
        rw [h00] at hk hf
        rw [h11] at hh
        exact hide (HQ.out.trans (by rw [hl]; exact hg_hops hk hf hh))
      clear hr1 hr2 HQ hk hf
      have hks : ((b.getD 1 0).toNat : Int) < 1 ∨ (1 ≤ ((b.getD 1 0).toNat : Int) ∧ 63 < ((b.getD 1 0).toNat : Int)) := by
        generalize ((b.getD 1 0).toNat : Int) = z at hh ⊢
        simp [hopsB] at hh; omega
      clear hh
      have a1lt : (b.getD 1 0).toNat < 256 := u8_lt _
      have alt0 : (b.getD 0 0).toNat < 256 := u8_lt _
      generalize ea0_ : (b.getD 0 0).toNat = a0 at *
      have ea0 := hide ea0_
      clear ea0_
      have alt1 : (b.getD 1 0).toNat < 256 := u8_lt _
      generalize ea1_ : (b.getD 1 0).toNat = a1 at *
      have ea1 := hide ea1_
      clear ea1_
      go_enter Try.func51, Try.ntmps51
      go_wp2_with fail
      generalize hW1 : World.alloc (World.alloc w _) _ = w1
      have hb1 := Grow.of_eq hW1
      clear hW1
      obtain ⟨q0, p0, hg1⟩ := peel2 hb1
      have q0_ := hide q0
      clear q0
      have q0 := q0_
      clear q0_
      have p0_ := hide p0
      clear p0
      have p0 := p0_
      clear p0_
      have hb := hb.grow hg1
      have HG1 := hide (show Grow w w1 from hg1)
      have hsz1 : w.heap.size ≤ w1.heap.size := HG1.out.size
      have hq1 : w.heap.size ≤ w1.heap.size := hg1.size
      have HS1 := hide hg1
      clear hb1 hg1
      obtain ⟨cq0, fq0, lq0⟩ := (show Box w1 _ _ from q0.out).rules
      obtain ⟨cp0, fp0, lp0⟩ := (show Box w1 _ _ from p0.out).rules
      refine (HF.out _).mono ?_
      rintro r w' ⟨rfl, rfl⟩
      obtain ⟨bb1, oo1, hA1, hcell1⟩ := hb.get 1 h2'
      rw [ea1.out] at hcell1
      obtain ⟨rfl, rfl⟩ : bb = bb1 ∧ oo = oo1 := by simpa using hA1
      clear hA1
      rcases hks with hks | ⟨hks0, hks⟩
      all_goals
        go_wp2
        refine bodyPost_ret (v := .tuple #[pv (noP) none 0 0, .slice none 0 0, .int .i64 9]) (by simp [results, Try.results51, go_sem, noP, cq0]) rfl ?_
        rw [HP.out]
        refine ⟨goth3_bad, ?_⟩
        show Below w.heap.size w _
        repeat (with_reducible refine Below.setCell ?_ (by simp; try omega) _)
        exact HG1.out
    have hh1 : 1 ≤ ((b.getD 1 0).toNat : Int) ∧ ((b.getD 1 0).toNat : Int) ≤ 63 := by simpa [hopsB] using hh
    obtain ⟨hh1, hh2⟩ := hh1
    have HN : Hid (Q = if nmE (b.drop 2, 0) ≠ 0 then (noP, [], nmE (b.drop 2, 0)) else (hdP ((b.getD 0 0).toNat : Int) ((b.getD 1 0).toNat : Int) (nmT (b.drop 2, 0)) (nmF (b.drop 2, 0)) (nmQ (b.drop 2, 0)), (nmS (b.drop 2, 0)).1, 0)) := by
      obtain ⟨a, k, r, hl, h00, h11, h22⟩ := hr2.out
      rw [h00] at hk hf ⊢
      rw [h11] at hh ⊢
      rw [h22]
      exact hide (HQ.out.trans (by rw [hl]; exact hg_name hk hf hh))
    clear hr1 hr2 HQ hk hf hh
    obtain ⟨A2, c2, hsl, hc2, hcm2, hsb⟩ := slice_from (some ⟨bb, oo, none⟩) b cb 2 2 rfl h2' hc
    have hd2 : (b.drop 2).length = b.length - 2 := List.length_drop
    have hG := hide (fun W h => refgetnum_any A2 (b.drop 2) c2 W h hc2 (by omega))
    generalize b.drop 2 = r2 at *
    simp only [hd2] at hG
    generalize hT : Buf.getNum r2 = T at *
    obtain ⟨x, rest, e1⟩ := T
    dsimp only at *
    have a1lt : (b.getD 1 0).toNat < 256 := u8_lt _
    by_cases he : e1 = 0
    rotate_left
    · have HP := hide (HN.out.trans (by rw [nmE_num hT he, if_pos he]))
      have he' : (e1 != 0) = true := by simpa using he
      clear he hT HN
      have alt0 : (b.getD 0 0).toNat < 256 := u8_lt _
      generalize ea0_ : (b.getD 0 0).toNat = a0 at *
      have ea0 := hide ea0_
      clear ea0_
      have alt1 : (b.getD 1 0).toNat < 256 := u8_lt _
      generalize ea1_ : (b.getD 1 0).toNat = a1 at *
      have ea1 := hide ea1_
      clear ea1_
      go_enter Try.func51, Try.ntmps51
      go_wp2_with fail
      generalize hW1 : World.alloc (World.alloc w _) _ = w1
      have hb1 := Grow.of_eq hW1
      clear hW1
      obtain ⟨q0, p0, hg1⟩ := peel2 hb1
      have q0_ := hide q0
      clear q0
      have q0 := q0_
      clear q0_
      have p0_ := hide p0
      clear p0
      have p0 := p0_
      clear p0_
      have hb := hb.grow hg1
      have HG1 := hide (show Grow w w1 from hg1)
      have hsz1 : w.heap.size ≤ w1.heap.size := HG1.out.size
      have hq1 : w.heap.size ≤ w1.heap.size := hg1.size
      have HS1 := hide hg1
      clear hb1 hg1
      obtain ⟨cq0, fq0, lq0⟩ := (show Box w1 _ _ from q0.out).rules
      obtain ⟨cp0, fp0, lp0⟩ := (show Box w1 _ _ from p0.out).rules
      refine (HF.out _).mono ?_
      rintro r w' ⟨rfl, rfl⟩
      obtain ⟨bb1, oo1, hA1, hcell1⟩ := hb.get 1 h2'
      rw [ea1.out] at hcell1
      obtain ⟨rfl, rfl⟩ : bb = bb1 ∧ oo = oo1 := by simpa using hA1
      clear hA1
      go_wp2_with fail
      clear cq0 fq0 lq0 cp0 fp0 lp0
      generalize hW2 : World.setCell w1 _ _ = w2
      have n2 := Box.store1 (show Box w1 _ _ from p0.out) hW2
      simp only [List.setIfInBounds_toArray, List.set_cons_zero, List.set_cons_succ] at n2
      have q0_ := hide (Box.keep_ne (show Box w1 _ _ from q0.out) hW2 (by simp <;> omega))
      clear q0
      have q0 := q0_
      clear q0_
      have hb := Bytes.store1 hb hW2 (by simp [blk] <;> omega)
      have HG2 := hide (Grow.store1 (show Grow w w1 from HG1.out) hW2 (by simp <;> omega))
      clear HG1
      have hsz2 : w.heap.size ≤ w2.heap.size := HG2.out.size
      have hq2 : w1.heap.size ≤ w2.heap.size := by rw [← hW2]; simp [World.setCell]
      clear hW2
      have p0_ := hide n2
      clear n2 p0
      have p0 := p0_
      clear p0_
      obtain ⟨cq0, fq0, lq0⟩ := (show Box w2 _ _ from q0.out).rules
      obtain ⟨cp0, fp0, lp0⟩ := (show Box w2 _ _ from p0.out).rules
      refine (hG.out _ (hsb _ hb)).mono ?_
      rintro r w3 ⟨⟨A3, c3, rfl, hc3, hcm3, hr⟩, hb3⟩
      clear cq0 fq0 lq0 cp0 fp0 lp0
      have hg3 := hb3
      have q0_ := hide ((show Box w2 _ _ from q0.out).grow hg3)
      clear q0
      have q0 := q0_
      clear q0_
      have p0_ := hide ((show Box w2 _ _ from p0.out).grow hg3)
      clear p0
      have p0 := p0_
      clear p0_
      have hb := hb.grow hg3
      have HG3 := hide (Grow.trans (show Grow w w2 from HG2.out) hg3)
      clear HG2
      have hsz3 : w.heap.size ≤ w3.heap.size := HG3.out.size
      have hq3 : w2.heap.size ≤ w3.heap.size := hg3.size
      have HS3 := hide hg3
      clear hb3 hg3
      obtain ⟨cq0, fq0, lq0⟩ := (show Box w3 _ _ from q0.out).rules
      obtain ⟨cp0, fp0, lp0⟩ := (show Box w3 _ _ from p0.out).rules
      go_wp2
      refine bodyPost_ret (v := .tuple #[pv (noP) none 0 0, .slice none 0 0, .int .i64 e1]) (by simp [results, Try.results51, go_sem, noP, cq0]) rfl ?_
      rw [HP.out]
      refine ⟨goth3_bad, ?_⟩
      show Below w.heap.size w _
      repeat (with_reducible refine Below.setCell ?_ (by simp; try omega) _)
      exact HG3.out
    subst he
    by_cases hx : 1152921504606846976 < x
    · have HP := hide (HN.out.trans (by rw [nmE_big hT hx, if_pos (by decide)]))
      clear hT HN
      have alt0 : (b.getD 0 0).toNat < 256 := u8_lt _
      generalize ea0_ : (b.getD 0 0).toNat = a0 at *
      have ea0 := hide ea0_
      clear ea0_
      have alt1 : (b.getD 1 0).toNat < 256 := u8_lt _
      generalize ea1_ : (b.getD 1 0).toNat = a1 at *
      have ea1 := hide ea1_
      clear ea1_
      go_enter Try.func51, Try.ntmps51
      go_wp2_with fail
      generalize hW1 : World.alloc (World.alloc w _) _ = w1
      have hb1 := Grow.of_eq hW1
      clear hW1
      obtain ⟨q0, p0, hg1⟩ := peel2 hb1
      have q0_ := hide q0
      clear q0
      have q0 := q0_
      clear q0_
      have p0_ := hide p0
      clear p0
      have p0 := p0_
      clear p0_
      have hb := hb.grow hg1
      have HG1 := hide (show Grow w w1 from hg1)
      have hsz1 : w.heap.size ≤ w1.heap.size := HG1.out.size
      have hq1 : w.heap.size ≤ w1.heap.size := hg1.size
      have HS1 := hide hg1
      clear hb1 hg1
      obtain ⟨cq0, fq0, lq0⟩ := (show Box w1 _ _ from q0.out).rules
      obtain ⟨cp0, fp0, lp0⟩ := (show Box w1 _ _ from p0.out).rules
      refine (HF.out _).mono ?_
      rintro r w' ⟨rfl, rfl⟩
      obtain ⟨bb1, oo1, hA1, hcell1⟩ := hb.get 1 h2'
      rw [ea1.out] at hcell1
      obtain ⟨rfl, rfl⟩ : bb = bb1 ∧ oo = oo1 := by simpa using hA1
      clear hA1
      go_wp2_with fail
      clear cq0 fq0 lq0 cp0 fp0 lp0
      generalize hW2 : World.setCell w1 _ _ = w2
      have n2 := Box.store1 (show Box w1 _ _ from p0.out) hW2
      simp only [List.setIfInBounds_toArray, List.set_cons_zero, List.set_cons_succ] at n2
      have q0_ := hide (Box.keep_ne (show Box w1 _ _ from q0.out) hW2 (by simp <;> omega))
      clear q0
      have q0 := q0_
      clear q0_
      have hb := Bytes.store1 hb hW2 (by simp [blk] <;> omega)
      have HG2 := hide (Grow.store1 (show Grow w w1 from HG1.out) hW2 (by simp <;> omega))
      clear HG1
      have hsz2 : w.heap.size ≤ w2.heap.size := HG2.out.size
      have hq2 : w1.heap.size ≤ w2.heap.size := by rw [← hW2]; simp [World.setCell]
      clear hW2
      have p0_ := hide n2
      clear n2 p0
      have p0 := p0_
      clear p0_
      obtain ⟨cq0, fq0, lq0⟩ := (show Box w2 _ _ from q0.out).rules
      obtain ⟨cp0, fp0, lp0⟩ := (show Box w2 _ _ from p0.out).rules
      refine (hG.out _ (hsb _ hb)).mono ?_
      rintro r w3 ⟨⟨A3, c3, rfl, hc3, hcm3, hr⟩, hb3⟩
      clear cq0 fq0 lq0 cp0 fp0 lp0
      have hg3 := hb3
      have q0_ := hide ((show Box w2 _ _ from q0.out).grow hg3)
      clear q0
      have q0 := q0_
      clear q0_
      have p0_ := hide ((show Box w2 _ _ from p0.out).grow hg3)
      clear p0
      have p0 := p0_
      clear p0_
      have hb := hb.grow hg3
      have HG3 := hide (Grow.trans (show Grow w w2 from HG2.out) hg3)
      clear HG2
      have hsz3 : w.heap.size ≤ w3.heap.size := HG3.out.size
      have hq3 : w2.heap.size ≤ w3.heap.size := hg3.size
      have HS3 := hide hg3
      clear hb3 hg3
      obtain ⟨cq0, fq0, lq0⟩ := (show Box w3 _ _ from q0.out).rules
      obtain ⟨cp0, fp0, lp0⟩ := (show Box w3 _ _ from p0.out).rules
      go_wp2
      refine bodyPost_ret (v := .tuple #[pv (noP) none 0 0, .slice none 0 0, .int .i64 2]) (by simp [results, Try.results51, go_sem, noP, cq0]) rfl ?_
      rw [HP.out]
      refine ⟨goth3_bad, ?_⟩
      show Below w.heap.size w _
      repeat (with_reducible refine Below.setCell ?_ (by simp; try omega) _)
      exact HG3.out
    have hx2 : x ≤ 1152921504606846976 := by omega
    clear hx
    by_cases h3 : rest.length = 0
    · have h33 : rest = [] := List.eq_nil_of_length_eq_zero h3
      have HP : Hid (Q = (noP, [], 3)) := hide (HN.out.trans (by rw [h33] at hT; rw [nmE_none hT hx2, if_pos (by decide)]))
      have h3' : (rest.length == 0) = true := by simpa using h3
      clear hT HN h33
      have alt0 : (b.getD 0 0).toNat < 256 := u8_lt _
      generalize ea0_ : (b.getD 0 0).toNat = a0 at *
      have ea0 := hide ea0_
      clear ea0_
      have alt1 : (b.getD 1 0).toNat < 256 := u8_lt _
      generalize ea1_ : (b.getD 1 0).toNat = a1 at *
      have ea1 := hide ea1_
      clear ea1_
      go_enter Try.func51, Try.ntmps51
      go_wp2_with fail
      generalize hW1 : World.alloc (World.alloc w _) _ = w1
      have hb1 := Grow.of_eq hW1
      clear hW1
      obtain ⟨q0, p0, hg1⟩ := peel2 hb1
      have q0_ := hide q0
      clear q0
      have q0 := q0_
      clear q0_
      have p0_ := hide p0
      clear p0
      have p0 := p0_
      clear p0_
      have hb := hb.grow hg1
      have HG1 := hide (show Grow w w1 from hg1)
      have hsz1 : w.heap.size ≤ w1.heap.size := HG1.out.size
      have hq1 : w.heap.size ≤ w1.heap.size := hg1.size
      have HS1 := hide hg1
      clear hb1 hg1
      obtain ⟨cq0, fq0, lq0⟩ := (show Box w1 _ _ from q0.out).rules
      obtain ⟨cp0, fp0, lp0⟩ := (show Box w1 _ _ from p0.out).rules
      refine (HF.out _).mono ?_
      rintro r w' ⟨rfl, rfl⟩
      obtain ⟨bb1, oo1, hA1, hcell1⟩ := hb.get 1 h2'
      rw [ea1.out] at hcell1
      obtain ⟨rfl, rfl⟩ : bb = bb1 ∧ oo = oo1 := by simpa using hA1
      clear hA1
      go_wp2_with fail
      clear cq0 fq0 lq0 cp0 fp0 lp0
      generalize hW2 : World.setCell w1 _ _ = w2
      have n2 := Box.store1 (show Box w1 _ _ from p0.out) hW2
      simp only [List.setIfInBounds_toArray, List.set_cons_zero, List.set_cons_succ] at n2
      have q0_ := hide (Box.keep_ne (show Box w1 _ _ from q0.out) hW2 (by simp <;> omega))
      clear q0
      have q0 := q0_
      clear q0_
      have hb := Bytes.store1 hb hW2 (by simp [blk] <;> omega)
      have HG2 := hide (Grow.store1 (show Grow w w1 from HG1.out) hW2 (by simp <;> omega))
      clear HG1
      have hsz2 : w.heap.size ≤ w2.heap.size := HG2.out.size
      have hq2 : w1.heap.size ≤ w2.heap.size := by rw [← hW2]; simp [World.setCell]
      clear hW2
      have p0_ := hide n2
      clear n2 p0
      have p0 := p0_
      clear p0_
      obtain ⟨cq0, fq0, lq0⟩ := (show Box w2 _ _ from q0.out).rules
      obtain ⟨cp0, fp0, lp0⟩ := (show Box w2 _ _ from p0.out).rules
      refine (hG.out _ (hsb _ hb)).mono ?_
      rintro r w3 ⟨⟨A3, c3, rfl, hc3, hcm3, hr⟩, hb3⟩
      clear cq0 fq0 lq0 cp0 fp0 lp0
      have hg3 := hb3
      have q0_ := hide ((show Box w2 _ _ from q0.out).grow hg3)
      clear q0
      have q0 := q0_
      clear q0_
      have p0_ := hide ((show Box w2 _ _ from p0.out).grow hg3)
      clear p0
      have p0 := p0_
      clear p0_
      have hb := hb.grow hg3
      have HG3 := hide (Grow.trans (show Grow w w2 from HG2.out) hg3)
      clear HG2
      have hsz3 : w.heap.size ≤ w3.heap.size := HG3.out.size
      have hq3 : w2.heap.size ≤ w3.heap.size := hg3.size
      have HS3 := hide hg3
      clear hb3 hg3
      obtain ⟨cq0, fq0, lq0⟩ := (show Box w3 _ _ from q0.out).rules
      obtain ⟨cp0, fp0, lp0⟩ := (show Box w3 _ _ from p0.out).rules
      go_wp2
      refine bodyPost_ret (v := .tuple #[pv (noP) none 0 0, .slice none 0 0, .int .i64 3]) (by simp [results, Try.results51, go_sem, noP, cq0]) rfl ?_
      rw [HP.out]
      refine ⟨goth3_bad, ?_⟩
      show Below w.heap.size w _
      repeat (with_reducible refine Below.setCell ?_ (by simp; try omega) _)
      exact HG3.out
    have h31 : (rest.length == 0) = false := by simpa using h3
    have h3' : 1 ≤ rest.length := by omega
    clear h3
    have hr3 := hide (getD_one h3')
    by_cases hn : 63 < (rest.getD 0 0).toNat
    · have HP : Hid (Q = (noP, [], 8)) := by
        obtain ⟨a, r, hl, h00, _⟩ := hr3.out
        rw [h00] at hn
        rw [hl] at hT
        exact hide (HN.out.trans (by rw [nmE_node hT hx2 hn, if_pos (by decide)]))
      clear hT HN hr3
      have alt0 : (b.getD 0 0).toNat < 256 := u8_lt _
      generalize ea0_ : (b.getD 0 0).toNat = a0 at *
      have ea0 := hide ea0_
      clear ea0_
      have alt1 : (b.getD 1 0).toNat < 256 := u8_lt _
      generalize ea1_ : (b.getD 1 0).toNat = a1 at *
      have ea1 := hide ea1_
      clear ea1_
      have alt3 : (rest.getD 0 0).toNat < 256 := u8_lt _
      generalize ea3_ : (rest.getD 0 0).toNat = a3 at *
      have ea3 := hide ea3_
      clear ea3_
      go_enter Try.func51, Try.ntmps51
      go_wp2_with fail
      generalize hW1 : World.alloc (World.alloc w _) _ = w1
      have hb1 := Grow.of_eq hW1
      clear hW1
      obtain ⟨q0, p0, hg1⟩ := peel2 hb1
      have q0_ := hide q0
      clear q0
      have q0 := q0_
      clear q0_
      have p0_ := hide p0
      clear p0
      have p0 := p0_
      clear p0_
      have hb := hb.grow hg1
      have HG1 := hide (show Grow w w1 from hg1)
      have hsz1 : w.heap.size ≤ w1.heap.size := HG1.out.size
      have hq1 : w.heap.size ≤ w1.heap.size := hg1.size
      have HS1 := hide hg1
      clear hb1 hg1
      obtain ⟨cq0, fq0, lq0⟩ := (show Box w1 _ _ from q0.out).rules
      obtain ⟨cp0, fp0, lp0⟩ := (show Box w1 _ _ from p0.out).rules
      refine (HF.out _).mono ?_
      rintro r w' ⟨rfl, rfl⟩
      obtain ⟨bb1, oo1, hA1, hcell1⟩ := hb.get 1 h2'
      rw [ea1.out] at hcell1
      obtain ⟨rfl, rfl⟩ : bb = bb1 ∧ oo = oo1 := by simpa using hA1
      clear hA1
      go_wp2_with fail
      clear cq0 fq0 lq0 cp0 fp0 lp0
      generalize hW2 : World.setCell w1 _ _ = w2
      have n2 := Box.store1 (show Box w1 _ _ from p0.out) hW2
      simp only [List.setIfInBounds_toArray, List.set_cons_zero, List.set_cons_succ] at n2
      have q0_ := hide (Box.keep_ne (show Box w1 _ _ from q0.out) hW2 (by simp <;> omega))
      clear q0
      have q0 := q0_
      clear q0_
      have hb := Bytes.store1 hb hW2 (by simp [blk] <;> omega)
      have HG2 := hide (Grow.store1 (show Grow w w1 from HG1.out) hW2 (by simp <;> omega))
      clear HG1
      have hsz2 : w.heap.size ≤ w2.heap.size := HG2.out.size
      have hq2 : w1.heap.size ≤ w2.heap.size := by rw [← hW2]; simp [World.setCell]
      clear hW2
      have p0_ := hide n2
      clear n2 p0
      have p0 := p0_
      clear p0_
      obtain ⟨cq0, fq0, lq0⟩ := (show Box w2 _ _ from q0.out).rules
      obtain ⟨cp0, fp0, lp0⟩ := (show Box w2 _ _ from p0.out).rules
      refine (hG.out _ (hsb _ hb)).mono ?_
      rintro r w3 ⟨⟨A3, c3, rfl, hc3, hcm3, hr⟩, hb3⟩
      clear cq0 fq0 lq0 cp0 fp0 lp0
      have hg3 := hb3
      have q0_ := hide ((show Box w2 _ _ from q0.out).grow hg3)
      clear q0
      have q0 := q0_
      clear q0_
      have p0_ := hide ((show Box w2 _ _ from p0.out).grow hg3)
      clear p0
      have p0 := p0_
      clear p0_
      have hb := hb.grow hg3
      have HG3 := hide (Grow.trans (show Grow w w2 from HG2.out) hg3)
      clear HG2
      have hsz3 : w.heap.size ≤ w3.heap.size := HG3.out.size
      have hq3 : w2.heap.size ≤ w3.heap.size := hg3.size
      have HS3 := hide hg3
      clear hb3 hg3
      obtain ⟨cq0, fq0, lq0⟩ := (show Box w3 _ _ from q0.out).rules
      obtain ⟨cp0, fp0, lp0⟩ := (show Box w3 _ _ from p0.out).rules
      obtain ⟨b3, o3, hA3, hcell3⟩ := (hr _ (hsb _ hb)).get 0 h3'
      rw [ea3.out] at hcell3
      subst hA3
      rw [Nat.add_zero] at hcell3
      go_wp2
      refine bodyPost_ret (v := .tuple #[pv (noP) none 0 0, .slice none 0 0, .int .i64 8]) (by simp [results, Try.results51, go_sem, noP, cq0]) rfl ?_
      rw [HP.out]
      refine ⟨goth3_bad, ?_⟩
      show Below w.heap.size w _
      repeat (with_reducible refine Below.setCell ?_ (by simp; try omega) _)
      exact HG3.out
    have hn2 : (rest.getD 0 0).toNat ≤ 63 := by omega
    clear hn
    have hF4 := hide (fun A c W h h1 h2 => refgetfixed_any A (rest.drop 1) c 4 W h h1 h2)
    generalize hU : Buf.getFixed (rest.drop 1) 4 = U at *
    obtain ⟨y, left, e2⟩ := U
    dsimp only at *
    have hy : y < 4294967296 := by have h := rfix4_lt (rest.drop 1, 0); rwa [show rfix 4 (rest.drop 1, 0) = (y, left, e2) from hU] at h
    have HX : nmE (r2, 0) = e2 ∧ nmT (r2, 0) = x ∧ nmF (r2, 0) = ((rest.getD 0 0).toNat : Int) ∧ nmQ (r2, 0) = y ∧ nmS (r2, 0) = (left, e2) := by
      obtain ⟨a, r, hl, h00, h11⟩ := hr3.out
      rw [h00] at hn2 ⊢
      rw [h11] at hU
      rw [hl] at hT
      exact nm_fix hT hx2 hn2 hU
    obtain ⟨n1, n2, n3, n4, n5⟩ := HX
    rw [n1, n2, n3, n4, n5] at HN
    clear n1 n2 n3 n4 n5 hT hU hr3
    have hd3 : (rest.drop 1).length = rest.length - 1 := List.length_drop
    have alt0 : (b.getD 0 0).toNat < 256 := u8_lt _
    generalize ea0_ : (b.getD 0 0).toNat = a0 at *
    have ea0 := hide ea0_
    clear ea0_
    have alt1 : (b.getD 1 0).toNat < 256 := u8_lt _
    generalize ea1_ : (b.getD 1 0).toNat = a1 at *
    have ea1 := hide ea1_
    clear ea1_
    have alt3 : (rest.getD 0 0).toNat < 256 := u8_lt _
    generalize ea3_ : (rest.getD 0 0).toNat = a3 at *
    have ea3 := hide ea3_
    clear ea3_
    go_enter Try.func51, Try.ntmps51
    go_wp2_with fail
    generalize hW1 : World.alloc (World.alloc w _) _ = w1
    have hb1 := Grow.of_eq hW1
    clear hW1
    obtain ⟨q0, p0, hg1⟩ := peel2 hb1
    have q0_ := hide q0
    clear q0
    have q0 := q0_
    clear q0_
    have p0_ := hide p0
    clear p0
    have p0 := p0_
    clear p0_
    have hb := hb.grow hg1
    have HG1 := hide (show Grow w w1 from hg1)
    have hsz1 : w.heap.size ≤ w1.heap.size := HG1.out.size
    have hq1 : w.heap.size ≤ w1.heap.size := hg1.size
    have HS1 := hide hg1
    clear hb1 hg1
    obtain ⟨cq0, fq0, lq0⟩ := (show Box w1 _ _ from q0.out).rules
    obtain ⟨cp0, fp0, lp0⟩ := (show Box w1 _ _ from p0.out).rules
    refine (HF.out _).mono ?_
    rintro r w' ⟨rfl, rfl⟩
    obtain ⟨bb1, oo1, hA1, hcell1⟩ := hb.get 1 h2'
    rw [ea1.out] at hcell1
    obtain ⟨rfl, rfl⟩ : bb = bb1 ∧ oo = oo1 := by simpa using hA1
    clear hA1
    go_wp2_with fail
    clear cq0 fq0 lq0 cp0 fp0 lp0
    generalize hW2 : World.setCell w1 _ _ = w2
    have n2 := Box.store1 (show Box w1 _ _ from p0.out) hW2
    simp only [List.setIfInBounds_toArray, List.set_cons_zero, List.set_cons_succ] at n2
    have q0_ := hide (Box.keep_ne (show Box w1 _ _ from q0.out) hW2 (by simp <;> omega))
    clear q0
    have q0 := q0_
    clear q0_
    have hb := Bytes.store1 hb hW2 (by simp [blk] <;> omega)
    have HG2 := hide (Grow.store1 (show Grow w w1 from HG1.out) hW2 (by simp <;> omega))
    clear HG1
    have hsz2 : w.heap.size ≤ w2.heap.size := HG2.out.size
    have hq2 : w1.heap.size ≤ w2.heap.size := by rw [← hW2]; simp [World.setCell]
    clear hW2
    have p0_ := hide n2
    clear n2 p0
    have p0 := p0_
    clear p0_
    obtain ⟨cq0, fq0, lq0⟩ := (show Box w2 _ _ from q0.out).rules
    obtain ⟨cp0, fp0, lp0⟩ := (show Box w2 _ _ from p0.out).rules
    refine (hG.out _ (hsb _ hb)).mono ?_
    rintro r w3 ⟨⟨A3, c3, rfl, hc3, hcm3, hr⟩, hb3⟩
    clear cq0 fq0 lq0 cp0 fp0 lp0
    have hg3 := hb3
    have q0_ := hide ((show Box w2 _ _ from q0.out).grow hg3)
    clear q0
    have q0 := q0_
    clear q0_
    have p0_ := hide ((show Box w2 _ _ from p0.out).grow hg3)
    clear p0
    have p0 := p0_
    clear p0_
    have hb := hb.grow hg3
    have HG3 := hide (Grow.trans (show Grow w w2 from HG2.out) hg3)
    clear HG2
    have hsz3 : w.heap.size ≤ w3.heap.size := HG3.out.size
    have hq3 : w2.heap.size ≤ w3.heap.size := hg3.size
    have HS3 := hide hg3
    clear hb3 hg3
    obtain ⟨cq0, fq0, lq0⟩ := (show Box w3 _ _ from q0.out).rules
    obtain ⟨cp0, fp0, lp0⟩ := (show Box w3 _ _ from p0.out).rules
    obtain ⟨b3, o3, hA3, hcell3⟩ := (hr _ (hsb _ hb)).get 0 h3'
    rw [ea3.out] at hcell3
    subst hA3
    rw [Nat.add_zero] at hcell3
    obtain ⟨A4, c4, hsl4, hc4, hcm4, hsb4⟩ := slice_from (some ⟨b3, o3, none⟩) rest c3 1 1 rfl h3' hc3
    generalize rest.drop 1 = rest1 at *
    simp only [hd3] at hF4
    go_wp2_with fail
    clear cq0 fq0 lq0 cp0 fp0 lp0
    generalize hW4 : (World.setCell (World.setCell (World.setCell w3 _ _) _ _) _ _) = w4
    have np0 := Box.store3 (show Box w3 _ _ from p0.out) hW4
    have hk4 := Kept.store3 hW4
    clear hW4 p0
    have hG4 : Grow w w4 := Kept.fresh1 hk4 (show Grow w w3 from HG3.out) (by omega)
    have q0_ := hide ((show Box w3 _ _ from q0.out).kept hk4 (by simp))
    clear q0
    have q0 := q0_
    clear q0_
    have hb := hb.kept hk4 (by simp [blk]; omega)
    have HG4 := hide hG4
    clear HG3 hG4 hk4
    have p0 := hide np0
    clear np0
    have hsz4 : w.heap.size ≤ w4.heap.size := HG4.out.size
    obtain ⟨cq0, fq0, lq0⟩ := (show Box w4 _ _ from q0.out).rules
    obtain ⟨cp0, fp0, lp0⟩ := (show Box w4 _ _ from p0.out).rules
    refine (hF4.out _ _ _ (hsb4 _ (hr _ (hsb _ hb))) (by omega) (by omega)).mono ?_
    rintro r w5 ⟨⟨A5, c5, rfl, hc5, hcm5, hr5⟩, hb5⟩
    clear cq0 fq0 lq0 cp0 fp0 lp0
    have hg5 := hb5
    have q0_ := hide ((show Box w4 _ _ from q0.out).grow hg5)
    clear q0
    have q0 := q0_
    clear q0_
    have p0_ := hide ((show Box w4 _ _ from p0.out).grow hg5)
    clear p0
    have p0 := p0_
    clear p0_
    have hb := hb.grow hg5
    have HG5 := hide (Grow.trans (show Grow w w4 from HG4.out) hg5)
    clear HG4
    have hsz5 : w.heap.size ≤ w5.heap.size := HG5.out.size
    have hq5 : w4.heap.size ≤ w5.heap.size := hg5.size
    have HS5 := hide hg5
    clear hb5 hg5
    obtain ⟨cq0, fq0, lq0⟩ := (show Box w5 _ _ from q0.out).rules
    obtain ⟨cp0, fp0, lp0⟩ := (show Box w5 _ _ from p0.out).rules
    by_cases he : e2 = 0
    · subst he
      have HP := hide (HN.out.trans (if_neg (by simp)))
      go_wp2
      refine bodyPost_ret (v := .tuple #[pv (hdP a0 a1 x a3 y) none 0 0, .slice A5 left.length c5, .int .i64 0]) (by simp [results, Try.results51, go_sem, cp0, cq0, hdP]) rfl ?_
      rw [HP.out]
      refine ⟨⟨A5, c5, rfl, hc5, hcm5, fun W h => hr5 W (hsb4 W (hr W (hsb W h)))⟩, ?_⟩
      show Below w.heap.size w _
      repeat (with_reducible refine Below.setCell ?_ (by simp; try omega) _)
      exact HG5.out
    · have HP := hide (HN.out.trans (if_pos he))
      have he' : (e2 != 0) = true := by simpa using he
      clear he
      go_wp2
      refine bodyPost_ret (v := .tuple #[pv (noP) none 0 0, .slice none 0 0, .int .i64 e2]) (by simp [results, Try.results51, go_sem, noP, cq0]) rfl ?_
      rw [HP.out]
      refine ⟨goth3_bad, ?_⟩
      show Below w.heap.size w _
      repeat (with_reducible refine Below.setCell ?_ (by simp; try omega) _)
      exact HG5.out
end Go.Proofs.Ytpobjcdcimcdnaa
