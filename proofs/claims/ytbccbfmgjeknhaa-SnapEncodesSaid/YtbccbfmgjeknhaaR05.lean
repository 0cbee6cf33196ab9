/- The walks of the document of chapter 05. The walks of the document of chapter 05: numbers in sevens, bytes. A slice from some place on, under one name. -/
import Derived.Test.YtbccbfmgjeknhaaRdr
import Derived.Laws.OwnMore
import Derived.Deep.QuietTactic
import Derived.BigQuiet
namespace Go.Proofs.Ytbccbfmgjeknhaa
open Go.RowKit
theorem Own.one (w : World) {base : Nat} (v : Int) (h0 : 0 ≤ v) (h1 : v < 256) (hb : base ≤ w.heap.size) : Own (w.alloc (.cells #[.int .u8 v] 5)) base (some ⟨w.heap.size, 0, none⟩) 1 [UInt8.ofNat v.toNat] := by
  have h := World.ownsRow_lit (base := base) (e := 5) (size := 1) w #[.int .u8 v] 1 hb (by decide) rfl
  rw [← byte_val v h0 h1] at h ⊢
  exact h
set_option maxRecDepth 100000 in
set_option maxHeartbeats 1000000 in
theorem reffixed_any (x : Nat) (n : Nat) (w : World) (hn : n ≤ 1000000) (hx : x < 18446744073709551616) :
    Calls Try.prog 52 #[.int .u64 x, .int .i64 n] w fun r w' => ∃ A c, r = .returned (.slice A (Buf.fixed x n).length c) ∧ Own w' w.heap.size A c (Buf.fixed x n) ∧ Grow w w' := by
  go_enter Try.func52, Try.ntmps52
  go_wp2
  go_loopw [0, 5, 6] (fun v b i wr => ∃ (k X : Nat) (A : Option Addr) (c : Nat) (l : List UInt8), v = .int .u64 (X : Nat) ∧ b = .slice A l.length c ∧ i = .int .i64 k ∧ k ≤ n ∧ Hid (X = x / 256 ^ k) ∧ X < 18446744073709551616 ∧ Hid (l = Buf.fixed x k) ∧ l.length ≤ n ∧ Own wr w.heap.size A c l ∧ Below w.heap.size w wr)
    (fun _ _ i _ => n - (intOf i).toNat)
  case atStart => exact ⟨0, x, _, 0, [], rfl, rfl, rfl, by omega, hide (by simp), hx, hide rfl, by simp, Own.made w #[] 0 (Nat.le_refl _) (by decide) rfl, (Below.refl _ _).alloc (Nat.le_refl _) _⟩
  case round =>
    obtain ⟨k, X, A, c, l, rfl, rfl, rfl, hk, HX, hX, HL, hln, hown, hbel⟩ := hrel
    by_cases hlt : k < n
    · have h1 := Bytes.one wr ((X % 256 : Nat) : Int) (by omega) (by omega) (t := 5) rfl
      have hbel1 := hbel.alloc hbel.size (.cells #[.int .u8 ((X % 256 : Nat) : Int)] 5)
      go_wp2_with (at_builtin; refine wpList_append_bytes byteT rfl (.tmp 13) (.tmp 17) rfl (hown.alloc _) h1 rfl rfl ?_ ?_ ?_)
      · simp; omega
      · exact hbel1.size
      intro A' c' l' w2 HL' hown2 hg2 _
      have hbel2 : Below w.heap.size w w2 := hbel1.grown hg2 hbel1.size (fun q hq => hown.base hq)
      have hl2 : Hid (l' = Buf.fixed x (k + 1)) := by
        rw [HL'.out, HL.out, HX.out, Buf.fixed_snoc]
        congr 2
        apply UInt8.toNat_inj.1
        rw [UInt8.toNat_ofNat', UInt8.toNat_ofNat']
        omega
      have hl3 : l'.length ≤ n := by rw [hl2.out, Buf.fixed_length]; omega
      go_wp2
      go_roundw
      case rel => exact ⟨k + 1, X / 256, A', c', l', rfl, rfl, by go_num, by omega, hide (by rw [HX.out, Nat.div_div_eq_div_mul, Nat.pow_succ]), by omega, hl2, hl3, hown2, hbel2⟩
      case measure => simp [intOf]; omega
    · obtain rfl : k = n := by omega
      go_wp2
      go_ret
      have e := HL.out
      subst e
      exact ⟨A, c, rfl, hown, hbel⟩
set_option maxRecDepth 100000 in
set_option maxHeartbeats 1000000 in
theorem refnum_f : ∀ (f x : Nat) (w : World), Hid (f ≤ 20) → Hid (x < 128 ^ (f + 1)) → Hid (x < 18446744073709551616) →
    Calls Try.prog 51 #[.int .u64 x] w fun r w' => ∃ A c, r = .returned (.slice A (Buf.sevF f x).length c) ∧ Own w' w.heap.size A c (Buf.sevF f x) ∧ Grow w w' := by
  intro f
  induction f with
  | zero =>
    intro x w _ hx _
    have h : x < 128 := by have := hx.out; simpa using this
    have ho := Own.one w (base := w.heap.size) (x : Int) (by omega) (by omega) (Nat.le_refl _)
    go_enter Try.func51, Try.ntmps51
    go_wp2
    go_ret
    exact ⟨_, 1, rfl, ho, (Grow.refl w).alloc _⟩
  | succ f ih =>
    intro x w hf hx hx64
    have HI := hide ih
    clear ih
    have hxx := hx64.out
    by_cases h : x < 128
    · have ho := Own.one w (base := w.heap.size) (x : Int) (by omega) (by omega) (Nat.le_refl _)
      have HS := hide (show Buf.sevF (f + 1) x = [UInt8.ofNat x] by simp [Buf.sevF, h])
      go_enter Try.func51, Try.ntmps51
      go_wp2
      go_ret
      rw [HS.out]
      exact ⟨_, 1, rfl, ho, (Grow.refl w).alloc _⟩
    · have HS := hide (show Buf.sevF (f + 1) x = UInt8.ofNat (x % 128 + 128) :: Buf.sevF f (x / 128) by simp [Buf.sevF, h])
      have ho := Own.one w (base := w.heap.size) ((x : Int) % 128 + 128) (by omega) (by omega) (Nat.le_refl _)
      have hc := hide (HI.out (x / 128) (w.alloc (.cells #[.int .u8 ((x : Int) % 128 + 128)] 5)) (hide (by have := hf.out; omega)) (hide (by have := hx.out; rw [Nat.pow_succ] at this; omega)) (hide (by omega)))
      have hlen := hide (Buf.sevF_len f (x / 128))
      have hf2 := hf.out
      go_enter Try.func51, Try.ntmps51
      go_wp2_with fail
      refine hc.out.mono ?_
      rintro r w1 ⟨A1, c1, rfl, hown1, hg1⟩
      have hl := hlen.out
      generalize Buf.sevF f (x / 128) = s at *
      go_wp2_with (at_builtin; refine wpList_append_bytes byteT rfl (.tmp 12) (.tmp 15) rfl (ho.below hg1) hown1.bytes rfl rfl ?_ ?_ ?_)
      · simp; omega
      · exact Nat.le_trans (by simp) hg1.size
      intro A' c' l' w2 HL hown2 hg2 hat
      have e : Hid (l' = Buf.sevF (f + 1) x) := by
        rw [HL.out, HS.out, show ((x : Int) % 128 + 128).toNat = x % 128 + 128 by omega]; rfl
      have hgw : Grow w w2 := (Below.mono (((Below.refl w.heap.size w).alloc (Nat.le_refl _) _).trans (hg1.mono (by simp))) (Nat.le_refl _)).grown hg2 (Nat.le_trans (by simp) hg1.size) (fun q hq => by simp [blk] at hq; omega)
      go_wp2
      go_ret
      have e2 := e.out
      subst e2
      exact ⟨A', c', rfl, hown2, hgw⟩
theorem refnum_any (x : Nat) (w : World) (hx : x < 18446744073709551616) :
    Calls Try.prog 51 #[.int .u64 x] w fun r w' => ∃ A c, r = .returned (.slice A (Buf.sevens x).length c) ∧ Own w' w.heap.size A c (Buf.sevens x) ∧ Grow w w' :=
  refnum_f 9 x w (hide (by omega)) (hide (by omega)) hx
theorem Grow.drewN {a b : World} (h : Grow a b) (n : Nat) : Grow a (b.drewN n) := ⟨h.os, h.tape, h.output, h.size, h.block⟩
/-- a result: a number, what is left (a part of the bytes b at B), what is wrong -/
def Got (B : Option Addr) (b : List UInt8) (r : Ending) (x : Nat) (t : List UInt8) (e : Int) : Prop := ∃ A c, r = .returned (.tuple #[.int .u64 x, .slice A t.length c, .int .i64 e]) ∧ t.length ≤ c ∧ c ≤ 9223372036854775807 ∧ ∀ W, Bytes W B b → Bytes W A t
set_option maxRecDepth 100000 in
set_option maxHeartbeats 1000000 in
theorem refgetfixed_ok (A : Option Addr) (b : List UInt8) (c : Nat) (n : Nat) (w : World) (hb : Bytes w A b) (hc : b.length ≤ c) (hcm : c ≤ 9223372036854775807) (h1 : 1 ≤ n) (h8 : n ≤ 8) (hn : n ≤ b.length) :
    Calls Try.prog 55 #[.slice A b.length c, .int .i64 n] w fun r w' => Got A b r (Buf.num (b.take n)) (b.drop n) 0 ∧ Grow w w' := by
  obtain ⟨d, hD, hd⟩ := Dig.mk_ hb
  obtain ⟨bb, o, hA, hcell⟩ := hD.cell 0 (by omega)
  subst hA
  have hlt8 := hD.lt
  have HN : Hid (∀ k, k < n → Buf.num ((b.take n).drop k) = d k + 256 * Buf.num ((b.take n).drop (k + 1))) := fun k hk => by
    have hk' : k < (b.take n).length := by rw [List.length_take]; omega
    rw [List.drop_eq_getElem_cons hk', Buf.num, hd, List.getElem_take, List.getD_eq_getElem?_getD, List.getElem?_eq_getElem (show k < b.length by omega)]
    rfl
  have HL : Hid (∀ k, Buf.num ((b.take n).drop k) < 256 ^ (n - k)) := fun k => by
    have := Buf.num_lt ((b.take n).drop k)
    rw [List.length_drop, List.length_take, show min n b.length = n by omega] at this
    exact this
  have hld : (b.drop n).length = b.length - n := List.length_drop
  have hld' := hide hld
  clear hld hd
  have hw1 : decide ((n : Int) < 1) = false := by simp; omega
  have hw8 : decide (8 < (n : Int)) = false := by simp; omega
  have e1 : IntKind.i64.wrap ((n : Int) - 1) = (n : Int) - 1 := IntWalk.i64_in _ (by omega)
  go_enter Try.func55, Try.ntmps55
  go_wp2
  go_loop [7, 8] (fun x v => ∃ (k X : Nat) (i : Int), k ≤ n ∧ v = .int .i64 i ∧ Hid (i = (k : Int) - 1) ∧ x = .int .u64 (X : Nat) ∧ Hid (X = Buf.num ((b.take n).drop k))) (fun _ i => ((intOf i) + 1).toNat)
  case atStart => exact ⟨n, 0, _, Nat.le_refl _, rfl, hide (by rfl), rfl, hide (by rw [List.drop_of_length_le (by rw [List.length_take]; omega)]; rfl)⟩
  case round =>
    obtain ⟨k, X, i, hk, rfl, HI, rfl, HX⟩ := hrel
    by_cases hlt : 0 < k
    · obtain ⟨j, rfl⟩ : ∃ j, k = j + 1 := ⟨k - 1, by omega⟩
      obtain rfl : i = (j : Int) := by have := HI.out; omega
      have hx := hide (HN.out j (by omega))
      have hX : X < 72057594037927936 := by
        have h2 := HL.out (j + 1)
        rw [← HX.out] at h2
        have h3 : 256 ^ (n - (j + 1)) ≤ 256 ^ 7 := Nat.pow_le_pow_right (by omega) (by omega)
        omega
      have hcell := hD.at_ j (by omega)
      have hu := hlt8 j
      have hjb : j < b.length := by omega
      go_wp2
      go_round
      case rel => exact ⟨j, d j + 256 * X, _, by omega, rfl, hide (by omega), (by first | rfl | (congr 1; omega)), hide (by rw [hx.out, HX.out])⟩
      case measure => simp [intOf]
    · obtain rfl : k = 0 := by omega
      obtain rfl : i = -1 := by have := HI.out; omega
      rw [List.drop_zero] at HX
      have e0 := HX.out
      subst e0
      by_cases hcn : c = n
      · subst hcn
        have e := hide (show b.drop c = [] from List.drop_of_length_le hc)
        go_wp2
        go_quiet (fail)
        go_wp2
        go_ret3
        rw [e.out]
        exact ⟨⟨_, _, rfl, Nat.le_refl _, by decide, fun _ _ => Bytes.nil _ _⟩, (Grow.refl w).drewN _⟩
      · go_wp2
        go_quiet (fail)
        go_wp2
        go_ret3
        exact ⟨⟨_, _, by rw [hld'.out]; rfl, by rw [hld'.out]; omega, by omega, fun _ h => Bytes.drop h n⟩, (Grow.refl w).drewN _⟩
theorem refgetfixed_bad (A : Option Addr) (b : List UInt8) (c : Nat) (n : Int) (w : World) (hn : n < 1 ∨ 8 < n) :
    Calls Try.prog 55 #[.slice A b.length c, .int .i64 n] w fun r w' => Got A b r 0 [] 1 ∧ Grow w w' := by
  have hd : n < 1 ∨ (1 ≤ n ∧ 8 < n) := by omega
  clear hn
  rcases hd with hd | ⟨hd0, hd⟩
  all_goals
    go_enter Try.func55, Try.ntmps55
    go_wp2
    go_ret3
    exact ⟨⟨none, 0, rfl, Nat.le_refl _, by decide, fun _ _ => Bytes.nil _ _⟩, Grow.refl w⟩
theorem refgetfixed_short (A : Option Addr) (b : List UInt8) (c : Nat) (n : Nat) (w : World) (h1 : 1 ≤ n) (h8 : n ≤ 8) (hn : b.length < n) :
    Calls Try.prog 55 #[.slice A b.length c, .int .i64 n] w fun r w' => Got A b r 0 [] 3 ∧ Grow w w' := by
  have hw1 : decide ((n : Int) < 1) = false := by simp; omega
  have hw8 : decide (8 < (n : Int)) = false := by simp; omega
  go_enter Try.func55, Try.ntmps55
  go_wp2
  go_ret3
  exact ⟨⟨none, 0, rfl, Nat.le_refl _, by decide, fun _ _ => Bytes.nil _ _⟩, Grow.refl w⟩
theorem refgetfixed_any (A : Option Addr) (b : List UInt8) (c : Nat) (n : Int) (w : World) (hb : Bytes w A b) (hc : b.length ≤ c) (hcm : c ≤ 9223372036854775807) :
    Calls Try.prog 55 #[.slice A b.length c, .int .i64 n] w fun r w' => Got A b r (Buf.getFixed b n).1 (Buf.getFixed b n).2.1 (Buf.getFixed b n).2.2 ∧ Grow w w' := by
  unfold Buf.getFixed
  by_cases hn : n < 1 ∨ 8 < n
  · rw [if_pos hn]; exact refgetfixed_bad A b c n w hn
  · obtain ⟨m, rfl⟩ := Int.eq_ofNat_of_zero_le (show 0 ≤ n by omega)
    rw [if_neg hn, Int.toNat_natCast]
    by_cases hl : b.length < m
    · rw [if_pos hl]; exact refgetfixed_short A b c m w (by omega) (by omega) hl
    · rw [if_neg hl]; exact refgetfixed_ok A b c m w hb hc hcm (by omega) (by omega) (by omega)
end Go.Proofs.Ytbccbfmgjeknhaa
namespace Go.Proofs.Ytbccbfmgjeknhaa
open Go.RowKit
set_option maxRecDepth 100000 in
set_option maxHeartbeats 2000000 in
theorem refgetnum_form1 (A : Option Addr) (b : List UInt8) (c : Nat) (w : World) (hb : Bytes w A b) (hc : b.length ≤ c) (hcm : c ≤ 9223372036854775807) (h1 : Buf.lead 10 b = 10) :
    Calls Try.prog 54 #[.slice A b.length c] w fun r w' => Got A b r 0 [] 5 ∧ Grow w w' := by
  obtain ⟨d, hD, hd⟩ := Dig.mk_ hb
  have hL10 := Buf.lead_le 10 b
  have hLl := Buf.lead_len 10 b
  have hall := hide (show ∀ k, k < Buf.lead 10 b → 128 ≤ d k from fun k hk => by rw [hd]; exact Buf.lead_all 10 b k hk)
  rw [h1] at hall hLl
  clear h1 hL10
  have hlt8 := hD.lt
  clear hd
  go_enter Try.func54, Try.ntmps54
  go_wp2
  go_loop [5] (fun i => ∃ k : Nat, k ≤ 10 ∧ i = .int .i64 k) (fun i => 10 - (intOf i).toNat)
  case atStart => exact ⟨0, by omega, rfl⟩
  case round =>
    obtain ⟨k, hk, rfl⟩ := hrel
    by_cases hlt : k < 10
    · obtain ⟨bb, o, hA, hcell⟩ := hD.cell k (by omega)
      subst hA
      have hu := hlt8 k
      have h128 := hall.out k hlt
      have hkl : k < b.length := by omega
      have hdd : decide (128 ≤ ((d k : Nat) : Int)) = true := by simp; omega
      go_wp2
      go_round
      case rel => exact ⟨k + 1, by omega, by go_num⟩
      case measure => simp [intOf]; omega
    · obtain rfl : k = 10 := by omega
      by_cases hl : 10 < b.length
      · go_wp2
        go_ret3
        exact ⟨⟨none, 0, rfl, Nat.le_refl _, by decide, fun _ _ => Bytes.nil _ _⟩, Grow.refl w⟩
      · go_wp2
        go_ret3
        exact ⟨⟨none, 0, rfl, Nat.le_refl _, by decide, fun _ _ => Bytes.nil _ _⟩, Grow.refl w⟩
set_option maxRecDepth 100000 in
set_option maxHeartbeats 2000000 in
theorem refgetnum_short (A : Option Addr) (b : List UInt8) (c : Nat) (w : World) (hb : Bytes w A b) (h1 : Buf.lead 10 b < 10) (h2 : Buf.lead 10 b = b.length) :
    Calls Try.prog 54 #[.slice A b.length c] w fun r w' => Got A b r 0 [] 3 ∧ Grow w w' := by
  obtain ⟨d, hD, hd⟩ := Dig.mk_ hb
  have hL10 := Buf.lead_le 10 b
  have hLl := Buf.lead_len 10 b
  have hall := hide (show ∀ k, k < Buf.lead 10 b → 128 ≤ d k from fun k hk => by rw [hd]; exact Buf.lead_all 10 b k hk)
  rw [h2] at hall h1
  clear h2 hL10 hLl
  have hlt8 := hD.lt
  clear hd
  go_enter Try.func54, Try.ntmps54
  go_wp2
  go_loop [5] (fun i => ∃ k : Nat, k ≤ b.length ∧ i = .int .i64 k) (fun i => b.length - (intOf i).toNat)
  case atStart => exact ⟨0, by omega, rfl⟩
  case round =>
    obtain ⟨k, hk, rfl⟩ := hrel
    by_cases hlt : k < b.length
    · obtain ⟨bb, o, hA, hcell⟩ := hD.cell k (by omega)
      subst hA
      have hu := hlt8 k
      have h128 := hall.out k hlt
      have hk10 : k < 10 := by omega
      have hdd : decide (128 ≤ ((d k : Nat) : Int)) = true := by simp; omega
      go_wp2
      go_round
      case rel => exact ⟨k + 1, by omega, by go_num⟩
      case measure => simp [intOf]; omega
    · obtain rfl : k = b.length := by omega
      have hne : ((b.length : Nat) == 10) = false := by simp; omega
      have hne2 : (((b.length : Nat) : Int) == 10) = false := by simp; omega
      go_wp2
      go_ret3
      exact ⟨⟨none, 0, rfl, Nat.le_refl _, by decide, fun _ _ => Bytes.nil _ _⟩, Grow.refl w⟩
set_option maxRecDepth 100000 in
set_option maxHeartbeats 2000000 in
theorem refgetnum_form2 (A : Option Addr) (b : List UInt8) (c : Nat) (w : World) (hb : Bytes w A b) (h1 : Buf.lead 10 b < 10) (h2 : Buf.lead 10 b < b.length)
    (h3 : (0 < Buf.lead 10 b ∧ (b.getD (Buf.lead 10 b) 0).toNat = 0) ∨ (Buf.lead 10 b = 9 ∧ 1 < (b.getD (Buf.lead 10 b) 0).toNat)) :
    Calls Try.prog 54 #[.slice A b.length c] w fun r w' => Got A b r 0 [] 5 ∧ Grow w w' := by
  obtain ⟨d, hD, hd⟩ := Dig.mk_ hb
  have hL10 := Buf.lead_le 10 b
  have hLl := Buf.lead_len 10 b
  have hall := hide (show ∀ k, k < Buf.lead 10 b → 128 ≤ d k from fun k hk => by rw [hd]; exact Buf.lead_all 10 b k hk)
  have hstop := hide (show d (Buf.lead 10 b) < 128 by rw [hd]; exact Buf.lead_stop 10 b h1 h2)
  rw [← hd] at h3
  generalize Buf.lead 10 b = L at *
  have hz : (0 < L ∧ (((d L : Nat) : Int) == 0) = true) ∨ (0 < L ∧ (((d L : Nat) : Int) == 0) = false ∧ (((L : Nat) : Int) == 9) = true ∧ decide (1 < ((d L : Nat) : Int)) = true) := by
    by_cases hq : d L = 0
    · exact .inl ⟨by omega, by simpa using hq⟩
    · exact .inr ⟨by omega, by simpa using hq, by simp; omega, by simp; omega⟩
  clear h3
  have hlt8 := hD.lt
  clear hd
  go_enter Try.func54, Try.ntmps54
  go_wp2
  go_loop [5] (fun i => ∃ k : Nat, k ≤ L ∧ i = .int .i64 k) (fun i => L - (intOf i).toNat)
  case atStart => exact ⟨0, by omega, rfl⟩
  case round =>
    obtain ⟨k, hk, rfl⟩ := hrel
    by_cases hlt : k < L
    · obtain ⟨bb, o, hA, hcell⟩ := hD.cell k (by omega)
      subst hA
      have hu := hlt8 k
      have h128 := hall.out k hlt
      have hkl : k < b.length := by omega
      have hk10 : k < 10 := by omega
      have hdd : decide (128 ≤ ((d k : Nat) : Int)) = true := by simp; omega
      go_wp2
      go_round
      case rel => exact ⟨k + 1, by omega, by go_num⟩
      case measure => simp [intOf]; omega
    · obtain rfl : k = L := by omega
      obtain ⟨bb, o, hA, hcell⟩ := hD.cell k h2
      subst hA
      have hu := hlt8 k
      have hs := hstop.out
      have hdd : decide (128 ≤ ((d k : Nat) : Int)) = false := by simp; omega
      have hne : (((k : Nat) : Int) == 10) = false := by simp; omega
      have hne2 : ((k : Nat) == b.length) = false := by simp; omega
      have hne3 : (((k : Nat) : Int) == ((b.length : Nat) : Int)) = false := by simp; omega
      rcases hz with ⟨g1, g2⟩ | ⟨g1, g2, g3, g4⟩
      all_goals
        go_wp2
        go_ret3
        exact ⟨⟨none, 0, rfl, Nat.le_refl _, by decide, fun _ _ => Bytes.nil _ _⟩, Grow.refl w⟩
set_option maxRecDepth 100000 in
set_option maxHeartbeats 2000000 in
theorem refgetnum_ok (A : Option Addr) (b : List UInt8) (c : Nat) (w : World) (hb : Bytes w A b) (hc : b.length ≤ c) (hcm : c ≤ 9223372036854775807) (h1 : Buf.lead 10 b < 10) (h2 : Buf.lead 10 b < b.length)
    (h3 : ¬ ((0 < Buf.lead 10 b ∧ (b.getD (Buf.lead 10 b) 0).toNat = 0) ∨ (Buf.lead 10 b = 9 ∧ 1 < (b.getD (Buf.lead 10 b) 0).toNat))) :
    Calls Try.prog 54 #[.slice A b.length c] w fun r w' => Got A b r (Buf.num7 (b.take (Buf.lead 10 b + 1))) (b.drop (Buf.lead 10 b + 1)) 0 ∧ Grow w w' := by
  obtain ⟨d, hD, hd⟩ := Dig.mk_ hb
  have hL10 := Buf.lead_le 10 b
  have hLl := Buf.lead_len 10 b
  have hall := hide (show ∀ k, k < Buf.lead 10 b → 128 ≤ d k from fun k hk => by rw [hd]; exact Buf.lead_all 10 b k hk)
  have HM := hide (Buf.num7_top b (Buf.lead 10 b) h2 (by omega) (Buf.lead_stop 10 b h1 h2) (fun e => by omega))
  have hstop := hide (show d (Buf.lead 10 b) < 128 by rw [hd]; exact Buf.lead_stop 10 b h1 h2)
  rw [← hd] at h3
  generalize Buf.lead 10 b = L at *
  have hz : L ≤ 0 ∨ (1 ≤ L ∧ (((d L : Nat) : Int) == 0) = false ∧ (((L : Nat) : Int) == 9) = false) ∨ (1 ≤ L ∧ (((d L : Nat) : Int) == 0) = false ∧ (((L : Nat) : Int) == 9) = true ∧ decide (1 < ((d L : Nat) : Int)) = false) := by
    by_cases hq : L = 0
    · exact .inl (by omega)
    · by_cases hq9 : L = 9
      · exact .inr (.inr ⟨by omega, by simp; omega, by simp; omega, by simp; omega⟩)
      · exact .inr (.inl ⟨by omega, by simp; omega, by simp; omega⟩)
  clear h3
  have HN : Hid (∀ k, k < L + 1 → Buf.num7 ((b.take (L + 1)).drop k) = d k % 128 + 128 * Buf.num7 ((b.take (L + 1)).drop (k + 1))) := fun k hk => by
    have hk' : k < (b.take (L + 1)).length := by rw [List.length_take]; omega
    rw [List.drop_eq_getElem_cons hk', Buf.num7, hd, List.getElem_take, List.getD_eq_getElem?_getD, List.getElem?_eq_getElem (show k < b.length by omega)]
    rfl
  have HS : Hid (∀ k, k < L + 1 → Buf.num7 ((b.take (L + 1)).drop k) < 18446744073709551616) := fun k hk => by
    have h4 : ∀ (l : List UInt8) k, Buf.num7 (l.drop k) ≤ Buf.num7 l := by
      intro l
      induction l with
      | nil => intro k; simp
      | cons a l ih =>
        intro k
        cases k with
        | zero => simp
        | succ k => have := ih k; simp only [List.drop_succ_cons, Buf.num7]; omega
    exact Nat.lt_of_le_of_lt (h4 _ k) HM.out
  have HR : Hid (∀ (w' : World), (b.drop (L + 1)).length = b.length - (L + 1)) := fun _ => List.length_drop
  have hlt8 := hD.lt
  clear hd
  go_enter Try.func54, Try.ntmps54
  go_wp2
  go_loop [5] (fun i => ∃ k : Nat, k ≤ L ∧ i = .int .i64 k) (fun i => L - (intOf i).toNat)
  case atStart => exact ⟨0, by omega, rfl⟩
  case round =>
    obtain ⟨k, hk, rfl⟩ := hrel
    by_cases hlt : k < L
    · obtain ⟨bb, o, hA, hcell⟩ := hD.cell k (by omega)
      subst hA
      have hu := hlt8 k
      have h128 := hall.out k hlt
      have hkl : k < b.length := by omega
      have hk10 : k < 10 := by omega
      have hdd : decide (128 ≤ ((d k : Nat) : Int)) = true := by simp; omega
      go_wp2
      go_round
      case rel => exact ⟨k + 1, by omega, by go_num⟩
      case measure => simp [intOf]; omega
    · obtain rfl : k = L := by omega
      obtain ⟨bb, o, hA, hcell⟩ := hD.cell k h2
      subst hA
      have hu := hlt8 k
      have hs := hstop.out
      have hdd : decide (128 ≤ ((d k : Nat) : Int)) = false := by simp; omega
      have hne : (((k : Nat) : Int) == 10) = false := by simp; omega
      have hne2 : ((k : Nat) == b.length) = false := by simp; omega
      have hne3 : (((k : Nat) : Int) == ((b.length : Nat) : Int)) = false := by simp; omega
      have hcell0 : k ≤ 0 → w.cell? ⟨bb, o, none⟩ = some (.int .u8 ((d k : Nat) : Int)) := fun e => (by
        have e2 : k = 0 := by omega
        have := hcell
        rw [e2, Nat.add_zero] at this
        rw [e2]
        exact this)
      rcases hz with g1 | ⟨g1, g2, g3⟩ | ⟨g1, g2, g3, g4⟩
      all_goals
        go_wp2
        go_loop [6, 7] (fun x v => ∃ (j X : Nat) (i : Int), j ≤ k + 1 ∧ v = .int .i64 i ∧ Hid (i = (j : Int) - 1) ∧ x = .int .u64 (X : Nat) ∧ Hid (X = Buf.num7 ((b.take (k + 1)).drop j))) (fun _ i => ((intOf i) + 1).toNat)
        case atStart => exact ⟨k + 1, 0, _, Nat.le_refl _, rfl, hide (by omega), rfl, hide (by rw [List.drop_of_length_le (by rw [List.length_take]; omega)]; rfl)⟩
        case round =>
          obtain ⟨j, X, i, hj, rfl, HI, rfl, HX⟩ := hrel
          by_cases hlt : 0 < j
          · obtain ⟨m, rfl⟩ : ∃ m, j = m + 1 := ⟨j - 1, by omega⟩
            obtain rfl : i = (m : Int) := by have := HI.out; omega
            have hx := hide (HN.out m (by omega))
            have hX : 128 * X + d m % 128 < 18446744073709551616 := by
              have h2 := HS.out m (by omega)
              rw [hx.out, ← HX.out] at h2
              omega
            have hcell := hD.at_ m (by omega)
            have hu := hlt8 m
            have hjb : m < b.length := by omega
            have hX2 : X ≤ 144115188075855871 := by omega
            go_wp2
            go_round
            case rel => exact ⟨m, d m % 128 + 128 * X, _, by omega, rfl, hide (by omega), (by congr 1; omega), hide (by rw [hx.out, HX.out])⟩
            case measure => simp [intOf]
          · obtain rfl : j = 0 := by omega
            obtain rfl : i = -1 := by have := HI.out; omega
            rw [List.drop_zero] at HX
            have e0 := HX.out
            subst e0
            by_cases hcn : c = k + 1
            · have e := hide (show b.drop (k + 1) = [] from List.drop_of_length_le (by omega))
              go_wp2
              go_quiet (fail)
              go_wp2
              go_ret3
              rw [e.out]
              have hz : b.length - (k + 1) = 0 := by omega
              exact ⟨⟨_, _, by rw [hz]; rfl, Nat.zero_le _, by omega, fun _ _ => Bytes.nil _ _⟩, (Grow.refl w).drewN _⟩
            · go_wp2
              go_quiet (fail)
              go_wp2
              go_ret3
              exact ⟨⟨_, _, by rw [HR.out w]; rfl, by rw [HR.out w]; omega, by omega, fun _ h => Bytes.drop h (k + 1)⟩, (Grow.refl w).drewN _⟩
theorem refgetnum_any (A : Option Addr) (b : List UInt8) (c : Nat) (w : World) (hb : Bytes w A b) (hc : b.length ≤ c) (hcm : c ≤ 9223372036854775807) :
    Calls Try.prog 54 #[.slice A b.length c] w fun r w' => Got A b r (Buf.getNum b).1 (Buf.getNum b).2.1 (Buf.getNum b).2.2 ∧ Grow w w' := by
  have hle := Buf.lead_le 10 b
  have hll := Buf.lead_len 10 b
  unfold Buf.getNum
  by_cases h1 : Buf.lead 10 b = 10
  · rw [if_pos h1]; exact refgetnum_form1 A b c w hb hc hcm h1
  · rw [if_neg h1]
    by_cases h2 : Buf.lead 10 b = b.length
    · rw [if_pos h2]; exact refgetnum_short A b c w hb (by omega) h2
    · rw [if_neg h2]
      by_cases h3 : (0 < Buf.lead 10 b ∧ (b.getD (Buf.lead 10 b) 0).toNat = 0) ∨ (Buf.lead 10 b = 9 ∧ 1 < (b.getD (Buf.lead 10 b) 0).toNat)
      · rw [if_pos h3]; exact refgetnum_form2 A b c w hb (by omega) (by omega) h3
      · rw [if_neg h3]; exact refgetnum_ok A b c w hb hc hcm (by omega) (by omega) h3
/-- a result: bytes, what is left, what is wrong -/
def Got2 (B : Option Addr) (b : List UInt8) (r : Ending) (x t : List UInt8) (e : Int) : Prop := ∃ A c A2 c2, r = .returned (.tuple #[.slice A x.length c, .slice A2 t.length c2, .int .i64 e]) ∧ x.length ≤ c ∧ c ≤ 9223372036854775807 ∧ t.length ≤ c2 ∧ c2 ≤ 9223372036854775807 ∧ (∀ W, Bytes W B b → Bytes W A x) ∧ ∀ W, Bytes W B b → Bytes W A2 t
theorem Got2.none_ (B : Option Addr) (b : List UInt8) (e : Int) : Got2 B b (.returned (.tuple #[.slice none 0 0, .slice none 0 0, .int .i64 e])) [] [] e := ⟨none, 0, none, 0, rfl, Nat.le_refl _, by decide, Nat.le_refl _, by decide, fun _ _ => Bytes.nil _ _, fun _ _ => Bytes.nil _ _⟩
end Go.Proofs.Ytbccbfmgjeknhaa
namespace Go.Proofs.Ytbccbfmgjeknhaa
open Go.RowKit
end Go.Proofs.Ytbccbfmgjeknhaa
