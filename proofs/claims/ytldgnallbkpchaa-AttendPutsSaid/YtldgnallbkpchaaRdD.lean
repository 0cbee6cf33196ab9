/- The walks of the rest of a reader of package buf. -/
import Derived.Test.YtldgnallbkpchaaRdC
namespace Go.Proofs.Ytldgnallbkpchaa
open Go.RowKit
theorem andnot128 (c : Nat) (h : c < 256) : bits .andNot .u8 (c : Int) 128 = ((c % 128 : Nat) : Int) :=
  (show ∀ a : Fin 256, bits .andNot .u8 (a.val : Int) 128 = ((a.val % 128 : Nat) : Int) by decide +kernel) ⟨c, h⟩
theorem pow_128 (k : Nat) : (2 : Nat) ^ (7 * k) = 128 ^ k := by rw [Nat.pow_mul]
theorem num7_step (l : List UInt8) (d : Nat → Nat) (hd : ∀ k, d k = (l.getD k 0).toNat) (k : Nat) (hk : k < l.length) (h : Buf.num7 (l.take (k + 1)) < 18446744073709551616) :
    bits .or .u64 ((Buf.num7 (l.take k) : Nat) : Int) (IntKind.u64.wrap (((d k % 128 : Nat) : Int) * 2 ^ (7 * k))) = ((Buf.num7 (l.take (k + 1)) : Nat) : Int) := by
  have h1 := Buf.num7_lt (l.take k)
  have e1 : (l.take k).length = k := by rw [List.length_take]; omega
  have e2 : Buf.num7 (l.take (k + 1)) = Buf.num7 (l.take k) + 2 ^ (7 * k) * (d k % 128) := by
    rw [Buf.take_snoc_getD l k hk, Buf.num7_snoc, e1, pow_128, hd]
  rw [e2] at h ⊢
  rw [e1, ← pow_128] at h1
  exact or_part _ _ _ h1 h
theorem num7_mono (l : List UInt8) (k : Nat) : Buf.num7 (l.take k) ≤ Buf.num7 l := by
  have h : ∀ (m l : List UInt8), Buf.num7 l ≤ Buf.num7 (l ++ m) := by
    intro m l
    induction l with
    | nil => simp [Buf.num7]
    | cons c l ih => simp only [List.cons_append, Buf.num7]; omega
  have := h (l.drop k) (l.take k)
  rwa [List.take_append_drop] at this
set_option maxRecDepth 100000 in
set_option maxHeartbeats 1000000 in
theorem rnum_bad (N p : Nat) (b : List UInt8) (e : Int) (w : World) (h : Rd w N p (b, e)) (he : (e == 0) = false) :
    Calls Try.prog 44 #[.pointer (some ⟨p, 0, none⟩)] w fun r w' => r = .returned (.int .u64 0) ∧ w = w' := by
  have hc0 := h.c0
  go_enter Try.func44, Try.ntmps44
  go_wp2_with fail
  refine (fine_any p e _ hc0).mono ?_
  rintro r w' ⟨rfl, rfl⟩
  go_wp2
  go_ret
  exact ⟨rfl, rfl⟩
set_option maxRecDepth 100000 in
set_option maxHeartbeats 1000000 in
theorem rnum_none (N p : Nat) (b : List UInt8) (e : Int) (w : World) (h : Rd w N p (b, 0))
    (hl : Calls Try.prog 136 #[.pointer (some ⟨p, 0, none⟩)] w fun r w' => r = .returned (.int .i64 0) ∧ Rd w' N p ([], e) ∧ Kept w.heap.size [p] w w') :
    Calls Try.prog 44 #[.pointer (some ⟨p, 0, none⟩)] w fun r w' => r = .returned (.int .u64 0) ∧ Rd w' N p ([], e) ∧ Kept w.heap.size [p] w w' := by
  have hc0 := h.c0
  have HL := hide hl
  clear hl
  go_enter Try.func44, Try.ntmps44
  go_wp2_with fail
  refine (fine_any p 0 _ hc0).mono ?_
  rintro r w' ⟨rfl, rfl⟩
  go_wp2_with fail
  refine HL.out.mono ?_
  rintro r w' ⟨rfl, h1, h2⟩
  go_wp2
  go_ret
  exact ⟨rfl, h1, h2⟩
set_option maxRecDepth 100000 in
set_option maxHeartbeats 1000000 in
theorem rnum_form (N p : Nat) (b : List UInt8) (w : World) (h : Rd w N p (b, 0)) (h1 : Buf.lead 10 b < 10) (h2 : Buf.lead 10 b < b.length)
    (h3 : (0 < Buf.lead 10 b ∧ (b.getD (Buf.lead 10 b) 0).toNat = 0) ∨ (Buf.lead 10 b = 9 ∧ 1 < (b.getD (Buf.lead 10 b) 0).toNat)) :
    Calls Try.prog 44 #[.pointer (some ⟨p, 0, none⟩)] w fun r w' => r = .returned (.int .u64 0) ∧ Rd w' N p ([], 5) ∧ Kept w.heap.size [p] w w' := by
  have HL := hide (length_ok N p b w h h1 h2)
  obtain ⟨A, c, hc0, hc1, hlc, hcm, hb, hset⟩ := h.open0
  have hf := h.fz 0
  obtain ⟨d, hD, hd⟩ := Dig.mk_ hb
  rw [← hd] at h3
  generalize Buf.lead 10 b = L at *
  obtain ⟨bb, o, hA, hcell⟩ := hD.cell L h2
  subst hA
  have hu := hD.lt L
  clear hset hd
  have e1 : IntKind.i64.wrap (((L + 1 : Nat) : Int) - 1) = (L : Int) := by rw [IntWalk.i64_in _ (by omega)]; omega
  go_enter Try.func44, Try.ntmps44
  go_wp2_with fail
  refine (fine_any p 0 _ hc0).mono ?_
  rintro r w' ⟨rfl, rfl⟩
  go_wp2_with fail
  refine HL.out.mono ?_
  rintro r w' ⟨rfl, rfl⟩
  go_wp2_with fail
  all_goals
    refine (fail_set p 5 _ hc0 hf).mono ?_
    rintro r w' ⟨rfl, rfl⟩
    go_wp2
    go_ret
    exact ⟨rfl, h.setErr 5 (by decide), (Kept.refl _ _ w).setCell (p := ⟨p, 0, none⟩) (.inr (by simp)) _⟩
set_option maxRecDepth 100000 in
set_option maxHeartbeats 2000000 in
theorem rnum_ok (N p : Nat) (b : List UInt8) (w : World) (h : Rd w N p (b, 0)) (h1 : Buf.lead 10 b < 10) (h2 : Buf.lead 10 b < b.length)
    (h3 : ¬ ((0 < Buf.lead 10 b ∧ (b.getD (Buf.lead 10 b) 0).toNat = 0) ∨ (Buf.lead 10 b = 9 ∧ 1 < (b.getD (Buf.lead 10 b) 0).toNat))) :
    Calls Try.prog 44 #[.pointer (some ⟨p, 0, none⟩)] w fun r w' => r = .returned (.int .u64 ((Buf.num7 (b.take (Buf.lead 10 b + 1)) : Nat) : Int)) ∧ Rd w' N p (b.drop (Buf.lead 10 b + 1), 0) ∧ Kept w.heap.size [p] w w' := by
  have HL := hide (length_ok N p b w h h1 h2)
  have HM := hide (Buf.num7_top b (Buf.lead 10 b) h2 (by omega) (Buf.lead_stop 10 b h1 h2) (fun e => by omega))
  obtain ⟨A, c, hc0, hc1, hlc, hcm, hb, hset⟩ := h.open0
  obtain ⟨d, hD, hd⟩ := Dig.mk_ hb
  rw [← hd] at h3
  generalize Buf.lead 10 b = L at *
  have HT := hide (show ∀ n : Int, n = ((L + 1 : Nat) : Int) → Calls Try.prog 138 #[.pointer (some ⟨p, 0, none⟩), .int .i64 n] w fun r w' => ∃ A c, r = .returned (.slice A (L + 1) c) ∧ L + 1 ≤ c ∧ Bytes w' A (b.take (L + 1)) ∧ Rd w' N p (b.drop (L + 1), 0) ∧ Kept w.heap.size [p] w w' from fun n hn => by
    subst hn; exact take_ok N p b (L + 1) w h (by omega))
  obtain ⟨bb, o, hA, hcell⟩ := hD.cell L h2
  subst hA
  have hu := hD.lt L
  have hdt : ∀ k, k < L + 1 → d k = ((b.take (L + 1)).getD k 0).toNat := fun k hk => by rw [hd, List.getD_eq_getElem?_getD, List.getD_eq_getElem?_getD, List.getElem?_take_of_lt hk]
  have hcell' : ∀ (w1 : World) (A1 : Option Addr), Bytes w1 A1 (b.take (L + 1)) → ∀ k, k < L + 1 → ∃ b1 o1, A1 = some ⟨b1, o1, none⟩ ∧ w1.cell? ⟨b1, o1 + k, none⟩ = some (.int .u8 ((d k : Nat) : Int)) := fun w1 A1 hB k hk => by
    rw [hdt k hk]; exact hB.get k (by rw [List.length_take]; omega)
  have HC := hide hcell'
  have HS : Hid (∀ k, k < L + 1 → bits .or .u64 ((Buf.num7 (b.take k) : Nat) : Int) (IntKind.u64.wrap (((d k % 128 : Nat) : Int) * 2 ^ (7 * k))) = ((Buf.num7 (b.take (k + 1)) : Nat) : Int)) := fun k hk =>
    num7_step b d hd k (by omega) (by
      have := num7_mono (b.take (L + 1)) (k + 1)
      rw [List.take_take, show min (k + 1) (L + 1) = k + 1 by omega] at this
      exact Nat.lt_of_le_of_lt this HM.out)
  have HN := hide (fun k (_ : k < L + 1) => andnot128 (d k) (hD.lt k))
  have hlt8 := hD.lt
  clear hset hcell' hdt hd
  have e1 : IntKind.i64.wrap (((L + 1 : Nat) : Int) - 1) = (L : Int) := by rw [IntWalk.i64_in _ (by omega)]; omega
  have hcase : L = 0 ∨ (0 < L ∧ L < 9 ∧ 0 < d L) ∨ (L = 9 ∧ 0 < d L ∧ d L ≤ 1) := by omega
  clear h3
  have hz : (L ≤ 0 ∧ (((L : Nat) : Int) + 1 == 10) = false) ∨ (1 ≤ L ∧ (((d L : Nat) : Int) == 0) = false ∧ (((L : Nat) : Int) + 1 == 10) = false) ∨ (1 ≤ L ∧ (((d L : Nat) : Int) == 0) = false ∧ (((L : Nat) : Int) + 1 == 10) = true ∧ decide (1 < ((d L : Nat) : Int)) = false) := by
    rcases hcase with h | h | h
    · exact .inl ⟨by omega, by simp; omega⟩
    · exact .inr (.inl ⟨h.1, by simp; omega, by simp; omega⟩)
    · exact .inr (.inr ⟨by omega, by simp; omega, by simp; omega, by simp; omega⟩)
  clear hcase
  rcases hz with ⟨g1, g4⟩ | ⟨g1, g2, g4⟩ | ⟨g1, g2, g4, g3⟩
  all_goals
    go_enter Try.func44, Try.ntmps44
    go_wp2_with fail
    refine (fine_any p 0 _ hc0).mono ?_
    rintro r w' ⟨rfl, rfl⟩
    go_wp2_with fail
    refine HL.out.mono ?_
    rintro r w' ⟨rfl, rfl⟩
    go_wp2_with fail
  all_goals
    refine (HT.out _ (by omega)).mono ?_
    rintro r w1 ⟨A1, c1, rfl, hc1, hb1, hr1, hk1⟩
    go_wp2
    go_loop [5, 55] (fun x i => ∃ k : Nat, k ≤ L + 1 ∧ i = .int .i64 k ∧ x = .int .u64 (Buf.num7 (b.take k))) (fun _ i => L + 1 - (intOf i).toNat)
    case atStart => exact ⟨0, by omega, rfl, rfl⟩
    case round =>
      obtain ⟨k, hk, rfl, rfl⟩ := hrel
      by_cases hlt : k < L + 1
      · obtain ⟨b1, o1, hA1, hcl⟩ := HC.out w1 A1 hb1 k hlt
        subst hA1
        have hs := HS.out k hlt
        rw [show ((d k % 128 : Nat) : Int) = ((d k : Nat) : Int) % 128 by omega] at hs
        have HX := hide hs
        clear hs
        have hn := HN.out k hlt
        have hu := hlt8 k
        go_wp2
        go_round
        case rel => exact ⟨k + 1, by omega, by go_num, by rw [HX.out]⟩
        case measure => simp [intOf]; omega
      · obtain rfl : k = L + 1 := by omega
        go_wp2
        go_ret
        exact ⟨rfl, hr1, hk1⟩
def rnum (s : List UInt8 × Int) : Nat × List UInt8 × Int := Buf.rget 0 Buf.getNum s
/-- a number in sevens, in all states -/
theorem rnum_any (N p : Nat) (s : List UInt8 × Int) (w : World) (h : Rd w N p s) :
    Calls Try.prog 44 #[.pointer (some ⟨p, 0, none⟩)] w fun r w' => r = .returned (.int .u64 ((rnum s).1 : Nat)) ∧ Rd w' N p (rnum s).2 ∧ Kept w.heap.size [p] w w' := by
  obtain ⟨b, e⟩ := s
  by_cases he : e = 0
  · subst he
    have er : rnum (b, 0) = Buf.getNum b := rfl
    rw [er]
    unfold Buf.getNum
    by_cases h1 : Buf.lead 10 b = 10
    · rw [if_pos h1]
      exact rnum_none N p b 5 w h (length_form N p b w h h1)
    · rw [if_neg h1]
      have hle := Buf.lead_le 10 b
      have hll := Buf.lead_len 10 b
      by_cases h2 : Buf.lead 10 b = b.length
      · rw [if_pos h2]
        exact rnum_none N p b 3 w h (length_short N p b w h (by omega) h2)
      · rw [if_neg h2]
        by_cases h3 : (0 < Buf.lead 10 b ∧ (b.getD (Buf.lead 10 b) 0).toNat = 0) ∨ (Buf.lead 10 b = 9 ∧ 1 < (b.getD (Buf.lead 10 b) 0).toNat)
        · rw [if_pos h3]
          exact rnum_form N p b w h (by omega) (by omega) h3
        · rw [if_neg h3]
          exact rnum_ok N p b w h (by omega) (by omega) h3
  · refine (rnum_bad N p b e w h (by simpa using he)).mono ?_
    rintro r w' ⟨rfl, rfl⟩
    have er : rnum (b, e) = (0, b, e) := by simp [rnum, Buf.rget, he]
    rw [er]
    exact ⟨rfl, h, Kept.refl _ _ _⟩
end Go.Proofs.Ytldgnallbkpchaa
