/- The walks of the document of chapter 05: numbers in sevens, bytes. -/
import Derived.Test.YtldgnallbkpchaaRef05
namespace Go.Proofs.Ytldgnallbkpchaa
open Go.RowKit
set_option maxRecDepth 100000 in
set_option maxHeartbeats 2000000 in
theorem refgetnum_form1 (A : Option Addr) (b : List UInt8) (c : Nat) (w : World) (hb : Bytes w A b) (hc : b.length ≤ c) (hcm : c ≤ 9223372036854775807) (h1 : Buf.lead 10 b = 10) :
    Calls Try.prog 141 #[.slice A b.length c] w fun r w' => Got A b r 0 [] 5 ∧ Grow w w' := by
  obtain ⟨d, hD, hd⟩ := Dig.mk_ hb
  have hL10 := Buf.lead_le 10 b
  have hLl := Buf.lead_len 10 b
  have hall := hide (show ∀ k, k < Buf.lead 10 b → 128 ≤ d k from fun k hk => by rw [hd]; exact Buf.lead_all 10 b k hk)
  rw [h1] at hall hLl
  clear h1 hL10
  have hlt8 := hD.lt
  clear hd
  go_enter Try.func141, Try.ntmps141
  go_wp2
  go_loop [5] (fun i => ∃ k : Nat, k ≤ 10 ∧ i = .int .i64 k) (fun i => 10 - (intOf i).toNat)
  case atStart => exact ⟨0, by omega, rfl⟩
  case round =>
    obtain ⟨k, hk, rfl⟩ := hrel
    by_cases hlt : k < 10
    · obtain ⟨bb, o, hA, hcell⟩ := hD.cell k (by omega)
      subst hA
      have hu := hlt8 k
      have h128 := hall.out k hlt
      have hkl : k < b.length := by omega
      have hdd : decide (128 ≤ ((d k : Nat) : Int)) = true := by simp; omega
      go_wp2
      go_round
      case rel => exact ⟨k + 1, by omega, by go_num⟩
      case measure => simp [intOf]; omega
    · obtain rfl : k = 10 := by omega
      by_cases hl : 10 < b.length
      · go_wp2
        go_ret3
        exact ⟨⟨none, 0, rfl, Nat.le_refl _, by decide, fun _ _ => Bytes.nil _ _⟩, Grow.refl w⟩
      · go_wp2
        go_ret3
        exact ⟨⟨none, 0, rfl, Nat.le_refl _, by decide, fun _ _ => Bytes.nil _ _⟩, Grow.refl w⟩
set_option maxRecDepth 100000 in
set_option maxHeartbeats 2000000 in
theorem refgetnum_short (A : Option Addr) (b : List UInt8) (c : Nat) (w : World) (hb : Bytes w A b) (h1 : Buf.lead 10 b < 10) (h2 : Buf.lead 10 b = b.length) :
    Calls Try.prog 141 #[.slice A b.length c] w fun r w' => Got A b r 0 [] 3 ∧ Grow w w' := by
  obtain ⟨d, hD, hd⟩ := Dig.mk_ hb
  have hL10 := Buf.lead_le 10 b
  have hLl := Buf.lead_len 10 b
  have hall := hide (show ∀ k, k < Buf.lead 10 b → 128 ≤ d k from fun k hk => by rw [hd]; exact Buf.lead_all 10 b k hk)
  rw [h2] at hall h1
  clear h2 hL10 hLl
  have hlt8 := hD.lt
  clear hd
  go_enter Try.func141, Try.ntmps141
  go_wp2
  go_loop [5] (fun i => ∃ k : Nat, k ≤ b.length ∧ i = .int .i64 k) (fun i => b.length - (intOf i).toNat)
  case atStart => exact ⟨0, by omega, rfl⟩
  case round =>
    obtain ⟨k, hk, rfl⟩ := hrel
    by_cases hlt : k < b.length
    · obtain ⟨bb, o, hA, hcell⟩ := hD.cell k (by omega)
      subst hA
      have hu := hlt8 k
      have h128 := hall.out k hlt
      have hk10 : k < 10 := by omega
      have hdd : decide (128 ≤ ((d k : Nat) : Int)) = true := by simp; omega
      go_wp2
      go_round
      case rel => exact ⟨k + 1, by omega, by go_num⟩
      case measure => simp [intOf]; omega
    · obtain rfl : k = b.length := by omega
      have hne : ((b.length : Nat) == 10) = false := by simp; omega
      have hne2 : (((b.length : Nat) : Int) == 10) = false := by simp; omega
      go_wp2
      go_ret3
      exact ⟨⟨none, 0, rfl, Nat.le_refl _, by decide, fun _ _ => Bytes.nil _ _⟩, Grow.refl w⟩
set_option maxRecDepth 100000 in
set_option maxHeartbeats 2000000 in
theorem refgetnum_form2 (A : Option Addr) (b : List UInt8) (c : Nat) (w : World) (hb : Bytes w A b) (h1 : Buf.lead 10 b < 10) (h2 : Buf.lead 10 b < b.length)
    (h3 : (0 < Buf.lead 10 b ∧ (b.getD (Buf.lead 10 b) 0).toNat = 0) ∨ (Buf.lead 10 b = 9 ∧ 1 < (b.getD (Buf.lead 10 b) 0).toNat)) :
    Calls Try.prog 141 #[.slice A b.length c] w fun r w' => Got A b r 0 [] 5 ∧ Grow w w' := by
  obtain ⟨d, hD, hd⟩ := Dig.mk_ hb
  have hL10 := Buf.lead_le 10 b
  have hLl := Buf.lead_len 10 b
  have hall := hide (show ∀ k, k < Buf.lead 10 b → 128 ≤ d k from fun k hk => by rw [hd]; exact Buf.lead_all 10 b k hk)
  have hstop := hide (show d (Buf.lead 10 b) < 128 by rw [hd]; exact Buf.lead_stop 10 b h1 h2)
  rw [← hd] at h3
  generalize Buf.lead 10 b = L at *
  have hz : (0 < L ∧ (((d L : Nat) : Int) == 0) = true) ∨ (0 < L ∧ (((d L : Nat) : Int) == 0) = false ∧ (((L : Nat) : Int) == 9) = true ∧ decide (1 < ((d L : Nat) : Int)) = true) := by
    by_cases hq : d L = 0
    · exact .inl ⟨by omega, by simpa using hq⟩
    · exact .inr ⟨by omega, by simpa using hq, by simp; omega, by simp; omega⟩
  clear h3
  have hlt8 := hD.lt
  clear hd
  go_enter Try.func141, Try.ntmps141
  go_wp2
  go_loop [5] (fun i => ∃ k : Nat, k ≤ L ∧ i = .int .i64 k) (fun i => L - (intOf i).toNat)
  case atStart => exact ⟨0, by omega, rfl⟩
  case round =>
    obtain ⟨k, hk, rfl⟩ := hrel
    by_cases hlt : k < L
    · obtain ⟨bb, o, hA, hcell⟩ := hD.cell k (by omega)
      subst hA
      have hu := hlt8 k
      have h128 := hall.out k hlt
      have hkl : k < b.length := by omega
      have hk10 : k < 10 := by omega
      have hdd : decide (128 ≤ ((d k : Nat) : Int)) = true := by simp; omega
      go_wp2
      go_round
      case rel => exact ⟨k + 1, by omega, by go_num⟩
      case measure => simp [intOf]; omega
    · obtain rfl : k = L := by omega
      obtain ⟨bb, o, hA, hcell⟩ := hD.cell k h2
      subst hA
      have hu := hlt8 k
      have hs := hstop.out
      have hdd : decide (128 ≤ ((d k : Nat) : Int)) = false := by simp; omega
      have hne : (((k : Nat) : Int) == 10) = false := by simp; omega
      have hne2 : ((k : Nat) == b.length) = false := by simp; omega
      have hne3 : (((k : Nat) : Int) == ((b.length : Nat) : Int)) = false := by simp; omega
      rcases hz with ⟨g1, g2⟩ | ⟨g1, g2, g3, g4⟩
      all_goals
        go_wp2
        go_ret3
        exact ⟨⟨none, 0, rfl, Nat.le_refl _, by decide, fun _ _ => Bytes.nil _ _⟩, Grow.refl w⟩
set_option maxRecDepth 100000 in
set_option maxHeartbeats 2000000 in
theorem refgetnum_ok (A : Option Addr) (b : List UInt8) (c : Nat) (w : World) (hb : Bytes w A b) (hc : b.length ≤ c) (hcm : c ≤ 9223372036854775807) (h1 : Buf.lead 10 b < 10) (h2 : Buf.lead 10 b < b.length)
    (h3 : ¬ ((0 < Buf.lead 10 b ∧ (b.getD (Buf.lead 10 b) 0).toNat = 0) ∨ (Buf.lead 10 b = 9 ∧ 1 < (b.getD (Buf.lead 10 b) 0).toNat))) :
    Calls Try.prog 141 #[.slice A b.length c] w fun r w' => Got A b r (Buf.num7 (b.take (Buf.lead 10 b + 1))) (b.drop (Buf.lead 10 b + 1)) 0 ∧ Grow w w' := by
  obtain ⟨d, hD, hd⟩ := Dig.mk_ hb
  have hL10 := Buf.lead_le 10 b
  have hLl := Buf.lead_len 10 b
  have hall := hide (show ∀ k, k < Buf.lead 10 b → 128 ≤ d k from fun k hk => by rw [hd]; exact Buf.lead_all 10 b k hk)
  have HM := hide (Buf.num7_top b (Buf.lead 10 b) h2 (by omega) (Buf.lead_stop 10 b h1 h2) (fun e => by omega))
  have hstop := hide (show d (Buf.lead 10 b) < 128 by rw [hd]; exact Buf.lead_stop 10 b h1 h2)
  rw [← hd] at h3
  generalize Buf.lead 10 b = L at *
  have hz : L ≤ 0 ∨ (1 ≤ L ∧ (((d L : Nat) : Int) == 0) = false ∧ (((L : Nat) : Int) == 9) = false) ∨ (1 ≤ L ∧ (((d L : Nat) : Int) == 0) = false ∧ (((L : Nat) : Int) == 9) = true ∧ decide (1 < ((d L : Nat) : Int)) = false) := by
    by_cases hq : L = 0
    · exact .inl (by omega)
    · by_cases hq9 : L = 9
      · exact .inr (.inr ⟨by omega, by simp; omega, by simp; omega, by simp; omega⟩)
      · exact .inr (.inl ⟨by omega, by simp; omega, by simp; omega⟩)
  clear h3
  have HN : Hid (∀ k, k < L + 1 → Buf.num7 ((b.take (L + 1)).drop k) = d k % 128 + 128 * Buf.num7 ((b.take (L + 1)).drop (k + 1))) := fun k hk => by
    have hk' : k < (b.take (L + 1)).length := by rw [List.length_take]; omega
    rw [List.drop_eq_getElem_cons hk', Buf.num7, hd, List.getElem_take, List.getD_eq_getElem?_getD, List.getElem?_eq_getElem (show k < b.length by omega)]
    rfl
  have HS : Hid (∀ k, k < L + 1 → Buf.num7 ((b.take (L + 1)).drop k) < 18446744073709551616) := fun k hk => by
    have h4 : ∀ (l : List UInt8) k, Buf.num7 (l.drop k) ≤ Buf.num7 l := by
      intro l
      induction l with
      | nil => intro k; simp
      | cons a l ih =>
        intro k
        cases k with
        | zero => simp
        | succ k => have := ih k; simp only [List.drop_succ_cons, Buf.num7]; omega
    exact Nat.lt_of_le_of_lt (h4 _ k) HM.out
  have HR : Hid (∀ (w' : World), (b.drop (L + 1)).length = b.length - (L + 1)) := fun _ => List.length_drop
  have hlt8 := hD.lt
  clear hd
  go_enter Try.func141, Try.ntmps141
  go_wp2
  go_loop [5] (fun i => ∃ k : Nat, k ≤ L ∧ i = .int .i64 k) (fun i => L - (intOf i).toNat)
  case atStart => exact ⟨0, by omega, rfl⟩
  case round =>
    obtain ⟨k, hk, rfl⟩ := hrel
    by_cases hlt : k < L
    · obtain ⟨bb, o, hA, hcell⟩ := hD.cell k (by omega)
      subst hA
      have hu := hlt8 k
      have h128 := hall.out k hlt
      have hkl : k < b.length := by omega
      have hk10 : k < 10 := by omega
      have hdd : decide (128 ≤ ((d k : Nat) : Int)) = true := by simp; omega
      go_wp2
      go_round
      case rel => exact ⟨k + 1, by omega, by go_num⟩
      case measure => simp [intOf]; omega
    · obtain rfl : k = L := by omega
      obtain ⟨bb, o, hA, hcell⟩ := hD.cell k h2
      subst hA
      have hu := hlt8 k
      have hs := hstop.out
      have hdd : decide (128 ≤ ((d k : Nat) : Int)) = false := by simp; omega
      have hne : (((k : Nat) : Int) == 10) = false := by simp; omega
      have hne2 : ((k : Nat) == b.length) = false := by simp; omega
      have hne3 : (((k : Nat) : Int) == ((b.length : Nat) : Int)) = false := by simp; omega
      have hcell0 : k ≤ 0 → w.cell? ⟨bb, o, none⟩ = some (.int .u8 ((d k : Nat) : Int)) := fun e => (by
        have e2 : k = 0 := by omega
        have := hcell
        rw [e2, Nat.add_zero] at this
        rw [e2]
        exact this)
      rcases hz with g1 | ⟨g1, g2, g3⟩ | ⟨g1, g2, g3, g4⟩
      all_goals
        go_wp2
        go_loop [6, 7] (fun x v => ∃ (j X : Nat) (i : Int), j ≤ k + 1 ∧ v = .int .i64 i ∧ Hid (i = (j : Int) - 1) ∧ x = .int .u64 (X : Nat) ∧ Hid (X = Buf.num7 ((b.take (k + 1)).drop j))) (fun _ i => ((intOf i) + 1).toNat)
        case atStart => exact ⟨k + 1, 0, _, Nat.le_refl _, rfl, hide (by omega), rfl, hide (by rw [List.drop_of_length_le (by rw [List.length_take]; omega)]; rfl)⟩
        case round =>
          obtain ⟨j, X, i, hj, rfl, HI, rfl, HX⟩ := hrel
          by_cases hlt : 0 < j
          · obtain ⟨m, rfl⟩ : ∃ m, j = m + 1 := ⟨j - 1, by omega⟩
            obtain rfl : i = (m : Int) := by have := HI.out; omega
            have hx := hide (HN.out m (by omega))
            have hX : 128 * X + d m % 128 < 18446744073709551616 := by
              have h2 := HS.out m (by omega)
              rw [hx.out, ← HX.out] at h2
              omega
            have hcell := hD.at_ m (by omega)
            have hu := hlt8 m
            have hjb : m < b.length := by omega
            have hX2 : X ≤ 144115188075855871 := by omega
            go_wp2
            go_round
            case rel => exact ⟨m, d m % 128 + 128 * X, _, by omega, rfl, hide (by omega), (by congr 1; omega), hide (by rw [hx.out, HX.out])⟩
            case measure => simp [intOf]
          · obtain rfl : j = 0 := by omega
            obtain rfl : i = -1 := by have := HI.out; omega
            rw [List.drop_zero] at HX
            have e0 := HX.out
            subst e0
            by_cases hcn : c = k + 1
            · have e := hide (show b.drop (k + 1) = [] from List.drop_of_length_le (by omega))
              go_wp2
              go_quiet (fail)
              go_wp2
              go_ret3
              rw [e.out]
              have hz : b.length - (k + 1) = 0 := by omega
              exact ⟨⟨_, _, by rw [hz]; rfl, Nat.zero_le _, by omega, fun _ _ => Bytes.nil _ _⟩, (Grow.refl w).drewN _⟩
            · go_wp2
              go_quiet (fail)
              go_wp2
              go_ret3
              exact ⟨⟨_, _, by rw [HR.out w]; rfl, by rw [HR.out w]; omega, by omega, fun _ h => Bytes.drop h (k + 1)⟩, (Grow.refl w).drewN _⟩
theorem refgetnum_any (A : Option Addr) (b : List UInt8) (c : Nat) (w : World) (hb : Bytes w A b) (hc : b.length ≤ c) (hcm : c ≤ 9223372036854775807) :
    Calls Try.prog 141 #[.slice A b.length c] w fun r w' => Got A b r (Buf.getNum b).1 (Buf.getNum b).2.1 (Buf.getNum b).2.2 ∧ Grow w w' := by
  have hle := Buf.lead_le 10 b
  have hll := Buf.lead_len 10 b
  unfold Buf.getNum
  by_cases h1 : Buf.lead 10 b = 10
  · rw [if_pos h1]; exact refgetnum_form1 A b c w hb hc hcm h1
  · rw [if_neg h1]
    by_cases h2 : Buf.lead 10 b = b.length
    · rw [if_pos h2]; exact refgetnum_short A b c w hb (by omega) h2
    · rw [if_neg h2]
      by_cases h3 : (0 < Buf.lead 10 b ∧ (b.getD (Buf.lead 10 b) 0).toNat = 0) ∨ (Buf.lead 10 b = 9 ∧ 1 < (b.getD (Buf.lead 10 b) 0).toNat)
      · rw [if_pos h3]; exact refgetnum_form2 A b c w hb (by omega) (by omega) h3
      · rw [if_neg h3]; exact refgetnum_ok A b c w hb hc hcm (by omega) (by omega) h3
/-- a result: bytes, what is left, what is wrong -/
def Got2 (B : Option Addr) (b : List UInt8) (r : Ending) (x t : List UInt8) (e : Int) : Prop := ∃ A c A2 c2, r = .returned (.tuple #[.slice A x.length c, .slice A2 t.length c2, .int .i64 e]) ∧ x.length ≤ c ∧ c ≤ 9223372036854775807 ∧ t.length ≤ c2 ∧ c2 ≤ 9223372036854775807 ∧ (∀ W, Bytes W B b → Bytes W A x) ∧ ∀ W, Bytes W B b → Bytes W A2 t
theorem Got2.none_ (B : Option Addr) (b : List UInt8) (e : Int) : Got2 B b (.returned (.tuple #[.slice none 0 0, .slice none 0 0, .int .i64 e])) [] [] e := ⟨none, 0, none, 0, rfl, Nat.le_refl _, by decide, Nat.le_refl _, by decide, fun _ _ => Bytes.nil _ _, fun _ _ => Bytes.nil _ _⟩
set_option maxRecDepth 100000 in
set_option maxHeartbeats 2000000 in
theorem refgetbytes_any (A : Option Addr) (b : List UInt8) (c : Nat) (most : Int) (w : World) (hb : Bytes w A b) (hc : b.length ≤ c) (hcm : c ≤ 9223372036854775807) (hm2 : most ≤ 9223372036854775807) :
    Calls Try.prog 142 #[.slice A b.length c, .int .i64 most] w fun r w' => Got2 A b r (Buf.getBytes b most).1 (Buf.getBytes b most).2.1 (Buf.getBytes b most).2.2 ∧ Grow w w' := by
  have hF := hide (refgetnum_any A b c w hb hc hcm)
  have hx := hide (Buf.getNum_lt b)
  have HB : Hid (Buf.getBytes b most = if (Buf.getNum b).2.2 ≠ 0 then ([], [], (Buf.getNum b).2.2) else if most < 0 ∨ most < (Buf.getNum b).1 then ([], [], 4)
      else if (Buf.getNum b).2.1.length < (Buf.getNum b).1 then ([], [], 3) else ((Buf.getNum b).2.1.take (Buf.getNum b).1, (Buf.getNum b).2.1.drop (Buf.getNum b).1, 0)) := rfl
  generalize Buf.getBytes b most = R at *
  generalize Buf.getNum b = T at *
  obtain ⟨x, t, e⟩ := T
  dsimp only at *
  by_cases he : e = 0
  · subst he
    by_cases hm : most < 0 ∨ most < x
    · obtain rfl : R = ([], [], 4) := by rw [HB.out, if_neg (by simp), if_pos hm]
      have hd : most < 0 ∨ (0 ≤ most ∧ most < (x : Int)) := by omega
      clear hm
      rcases hd with hd | ⟨hd0, hd⟩
      all_goals
        go_enter Try.func142, Try.ntmps142
        go_wp2_with fail
        refine hF.out.mono ?_
        rintro r w1 ⟨⟨A1, c1, rfl, hc1, hcm1, hb1⟩, hg1⟩
        go_wp2
        go_ret3
        exact ⟨Got2.none_ _ _ _, hg1⟩
    · have hm0 : 0 ≤ most := by omega
      have hm1 : (x : Int) ≤ most := by omega
      by_cases hs : t.length < x
      · obtain rfl : R = ([], [], 3) := by rw [HB.out, if_neg (by simp), if_neg hm, if_pos hs]
        clear hm
        go_enter Try.func142, Try.ntmps142
        go_wp2_with fail
        refine hF.out.mono ?_
        rintro r w1 ⟨⟨A1, c1, rfl, hc1, hcm1, hb1⟩, hg1⟩
        go_wp2
        go_ret3
        exact ⟨Got2.none_ _ _ _, hg1⟩
      · obtain rfl : R = (t.take x, t.drop x, 0) := by rw [HB.out, if_neg (by simp), if_neg hm, if_neg hs]
        have hsx : x ≤ t.length := by omega
        have hl1 := hide (show (t.take x).length = x by rw [List.length_take]; omega)
        have hl2 := hide (show (t.drop x).length = t.length - x from List.length_drop)
        clear hm hs
        go_enter Try.func142, Try.ntmps142
        go_wp2_with fail
        refine hF.out.mono ?_
        rintro r w1 ⟨⟨A1, c1, rfl, hc1, hcm1, hb1⟩, hg1⟩
        by_cases hcn : c1 = x
        · have e0 := hide (show t.drop x = [] from List.drop_of_length_le (by omega))
          go_wp2
          go_quiet (fail)
          go_wp2
          go_ret3
          rw [e0.out]
          have hz : t.length - x = 0 := by omega
          exact ⟨⟨A1, x, A1, 0, by rw [hz, hl1.out]; rfl, by rw [hl1.out]; exact Nat.le_refl _, by omega, Nat.le_refl _, by decide, fun W h => (hb1 W h).take x, fun _ _ => Bytes.nil _ _⟩, hg1.drewN _⟩
        · go_wp2
          go_quiet (fail)
          go_wp2
          go_ret3
          exact ⟨⟨A1, c1, _, _, by rw [hl1.out, hl2.out]; rfl, by rw [hl1.out]; omega, by omega, by rw [hl2.out]; omega, by omega, fun W h => (hb1 W h).take x, fun W h => (hb1 W h).drop_any x⟩, hg1.drewN _⟩
  · obtain rfl : R = ([], [], e) := by rw [HB.out, if_pos he]
    have he' : ((e : Int) != 0) = true := by simpa using he
    clear he
    go_enter Try.func142, Try.ntmps142
    go_wp2_with fail
    refine hF.out.mono ?_
    rintro r w1 ⟨⟨A1, c1, rfl, hc1, hcm1, hb1⟩, hg1⟩
    go_wp2
    go_ret3
    exact ⟨Got2.none_ _ _ _, hg1⟩
end Go.Proofs.Ytldgnallbkpchaa
