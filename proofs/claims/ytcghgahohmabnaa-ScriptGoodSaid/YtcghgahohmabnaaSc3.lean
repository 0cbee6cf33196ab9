/- Acts (chapter 46): whether one may be, by the document. -/
import Derived.Test.YtcghgahohmabnaaSc2
namespace Go.Proofs.Ytcghgahohmabnaa
open Go.RowKit
set_option maxRecDepth 100000 in
set_option maxHeartbeats 8000000 in
theorem refagood_1 (p : ActP) (A : Option Addr) (l : List UInt8) (c : Nat) (w : World) (hl : Bytes w A l) (_hn : l.length ≤ 1000000000000) (hk : p.kind = 1) :
    Calls Try.prog 68 #[av p A l.length c] w fun e w' => e = .returned (.bool (actB p l)) ∧ Grow w w' := by
  obtain ⟨kind, node, n, f⟩ := p
  dsimp only at hk
  subst hk
  have HQ := hide (show actB ⟨1, node, n, f⟩ l = ((decide (1 ≤ n) && decide (n ≤ 64)) && (node == 0 && fateEq f zF && l == [])) from rfl)
  have HS := hide (fun W h => refasame_any ⟨1, node, n, f⟩ ⟨1, 0, n, zF⟩ A none l [] c 0 W h (Bytes.nil _ _))
  rw [show (actEq ⟨1, node, n, f⟩ ⟨1, 0, n, zF⟩ && l == []) = (node == 0 && fateEq f zF && l == []) by simp [actEq]] at HS
  generalize (node == 0 && fateEq f zF && l == []) = B at *
  generalize actB _ l = Q at *
  go_enter Try.func68, Try.ntmps68
  go_wp2_with fail
  refine (HS.out _ (hl.alloc _)).mono ?_
  rintro r w1 ⟨rfl, hb1⟩
  obtain ⟨p0, hg1⟩ := peel1 hb1
  obtain ⟨cp0, fp0, lp0⟩ := p0.rules
  clear hb1
  cases B with
  | false =>
    go_wp2
    go_ret
    exact ⟨fret_bool (by rw [HQ.out, Bool.eq_iff_iff]; simp_all <;> omega), hg1⟩
  | true =>
    go_wp2
    all_goals
      go_ret
      exact ⟨fret_bool (by rw [HQ.out, Bool.eq_iff_iff]; simp_all <;> omega), hg1⟩
set_option maxRecDepth 100000 in
set_option maxHeartbeats 8000000 in
theorem refagood_3 (p : ActP) (A : Option Addr) (l : List UInt8) (c : Nat) (w : World) (hl : Bytes w A l) (_hn : l.length ≤ 1000000000000) (hk : p.kind = 3) :
    Calls Try.prog 68 #[av p A l.length c] w fun e w' => e = .returned (.bool (actB p l)) ∧ Grow w w' := by
  obtain ⟨kind, node, n, f⟩ := p
  dsimp only at hk
  subst hk
  have HQ := hide (show actB ⟨3, node, n, f⟩ l = (fateB f && (node == 0 && n == 0 && l == [])) from rfl)
  have HS := hide (fun W h => refasame_any ⟨3, node, n, f⟩ ⟨3, 0, 0, f⟩ A none l [] c 0 W h (Bytes.nil _ _))
  rw [show (actEq ⟨3, node, n, f⟩ ⟨3, 0, 0, f⟩ && l == []) = (node == 0 && n == 0 && l == []) by simp [actEq, fateEq]] at HS
  generalize (node == 0 && n == 0 && l == []) = B at *
  have HF := hide (fun W => reffgood_any f W)
  generalize fateB f = bf at *
  generalize actB _ l = Q at *
  go_enter Try.func68, Try.ntmps68
  go_wp2_with fail
  refine (HS.out _ (hl.alloc _)).mono ?_
  rintro r w1 ⟨rfl, hb1⟩
  obtain ⟨p0, hg1⟩ := peel1 hb1
  obtain ⟨cp0, fp0, lp0⟩ := p0.rules
  clear hb1
  cases B with
  | false =>
    go_wp2
    go_ret
    exact ⟨fret_bool (by rw [HQ.out, Bool.eq_iff_iff]; simp_all <;> omega), hg1⟩
  | true =>
    go_wp2_with fail
    refine (HF.out _).mono ?_
    rintro r w2 ⟨rfl, hb2⟩
    have hg1 := Grow.trans hg1 hb2
    go_wp2
    all_goals
      go_ret
      exact ⟨fret_bool (by rw [HQ.out, Bool.eq_iff_iff]; simp_all <;> omega), hg1⟩
set_option maxRecDepth 100000 in
set_option maxHeartbeats 8000000 in
theorem refagood_2 (p : ActP) (A : Option Addr) (l : List UInt8) (c : Nat) (w : World) (hl : Bytes w A l) (_hn : l.length ≤ 1000000000000) (hk : p.kind = 2) :
    Calls Try.prog 68 #[av p A l.length c] w fun e w' => e = .returned (.bool (actB p l)) ∧ Grow w w' := by
  obtain ⟨kind, node, n, f⟩ := p
  dsimp only at hk
  subst hk
  have HQ := hide (show actB ⟨2, node, n, f⟩ l = ((decide (0 ≤ node) && decide (node < 64)) && (decide (-1048576 ≤ n) && decide (n ≤ 1048576)) && (fateEq f zF && l == [])) from rfl)
  have HS := hide (fun W h => refasame_any ⟨2, node, n, f⟩ ⟨2, node, n, zF⟩ A none l [] c 0 W h (Bytes.nil _ _))
  rw [show (actEq ⟨2, node, n, f⟩ ⟨2, node, n, zF⟩ && l == []) = (fateEq f zF && l == []) by simp [actEq]] at HS
  generalize (fateEq f zF && l == []) = B at *
  generalize actB _ l = Q at *
  go_enter Try.func68, Try.ntmps68
  by_cases h_a : 0 ≤ node
  · by_cases h_b : node < 64
    · go_wp2_with fail
      refine (HS.out _ (hl.alloc _)).mono ?_
      rintro r w1 ⟨rfl, hb1⟩
      obtain ⟨p0, hg1⟩ := peel1 hb1
      obtain ⟨cp0, fp0, lp0⟩ := p0.rules
      clear hb1
      cases B with
      | false =>
        go_wp2
        go_ret
        exact ⟨fret_bool (by rw [HQ.out, Bool.eq_iff_iff]; simp_all <;> omega), hg1⟩
      | true =>
        go_wp2
        all_goals
          go_ret
          exact ⟨fret_bool (by rw [HQ.out, Bool.eq_iff_iff]; simp_all <;> omega), hg1⟩
    · go_wp2
      all_goals
        go_ret
        exact ⟨fret_bool (by rw [HQ.out, Bool.eq_iff_iff]; simp_all <;> omega), (Grow.refl w).alloc _⟩
  · go_wp2
    all_goals
      go_ret
      exact ⟨fret_bool (by rw [HQ.out, Bool.eq_iff_iff]; simp_all <;> omega), (Grow.refl w).alloc _⟩
set_option maxRecDepth 100000 in
set_option maxHeartbeats 8000000 in
theorem refagood_6 (p : ActP) (A : Option Addr) (l : List UInt8) (c : Nat) (w : World) (hl : Bytes w A l) (hn : l.length ≤ 1000000000000) (hk : p.kind = 6) :
    Calls Try.prog 68 #[av p A l.length c] w fun e w' => e = .returned (.bool (actB p l)) ∧ Grow w w' := by
  obtain ⟨kind, node, n, f⟩ := p
  dsimp only at hk
  subst hk
  have HQ := hide (show actB ⟨6, node, n, f⟩ l = ((decide (0 ≤ node) && decide (node < 64)) && decide (l.length ≤ 1024) && (n == 0 && fateEq f zF)) from rfl)
  have HS := hide (fun W h => refasame_any ⟨6, node, n, f⟩ ⟨6, node, 0, zF⟩ A A l l c c W h h)
  rw [show (actEq ⟨6, node, n, f⟩ ⟨6, node, 0, zF⟩ && l == l) = (n == 0 && fateEq f zF) by simp [actEq]] at HS
  generalize (n == 0 && fateEq f zF) = B at *
  generalize actB _ l = Q at *
  go_enter Try.func68, Try.ntmps68
  by_cases h_a : 0 ≤ node
  · by_cases h_b : node < 64
    · go_wp2_with fail
      refine (HS.out _ (hl.alloc _)).mono ?_
      rintro r w1 ⟨rfl, hb1⟩
      obtain ⟨p0, hg1⟩ := peel1 hb1
      obtain ⟨cp0, fp0, lp0⟩ := p0.rules
      clear hb1
      cases B with
      | false =>
        go_wp2
        go_ret
        exact ⟨fret_bool (by rw [HQ.out, Bool.eq_iff_iff]; simp_all <;> omega), hg1⟩
      | true =>
        go_wp2
        all_goals
          go_ret
          exact ⟨fret_bool (by rw [HQ.out, Bool.eq_iff_iff]; simp_all <;> omega), hg1⟩
    · go_wp2
      all_goals
        go_ret
        exact ⟨fret_bool (by rw [HQ.out, Bool.eq_iff_iff]; simp_all <;> omega), (Grow.refl w).alloc _⟩
  · go_wp2
    all_goals
      go_ret
      exact ⟨fret_bool (by rw [HQ.out, Bool.eq_iff_iff]; simp_all <;> omega), (Grow.refl w).alloc _⟩
set_option maxRecDepth 100000 in
set_option maxHeartbeats 8000000 in
theorem refagood_4 (p : ActP) (A : Option Addr) (l : List UInt8) (c : Nat) (w : World) (hl : Bytes w A l) (_hn : l.length ≤ 1000000000000) (hk : p.kind = 4) :
    Calls Try.prog 68 #[av p A l.length c] w fun e w' => e = .returned (.bool (actB p l)) ∧ Grow w w' := by
  obtain ⟨kind, node, n, f⟩ := p
  dsimp only at hk
  subst hk
  have HQ := hide (show actB ⟨4, node, n, f⟩ l = ((decide (0 ≤ node) && decide (node < 64)) && (n == 0 && fateEq f zF && l == [])) from rfl)
  have HS := hide (fun W h => refasame_any ⟨4, node, n, f⟩ ⟨4, node, 0, zF⟩ A none l [] c 0 W h (Bytes.nil _ _))
  rw [show (actEq ⟨4, node, n, f⟩ ⟨4, node, 0, zF⟩ && l == []) = (n == 0 && fateEq f zF && l == []) by simp [actEq]] at HS
  generalize (n == 0 && fateEq f zF && l == []) = B at *
  generalize actB _ l = Q at *
  go_enter Try.func68, Try.ntmps68
  by_cases h_a : 0 ≤ node
  · by_cases h_b : node < 64
    · go_wp2_with fail
      refine (HS.out _ (hl.alloc _)).mono ?_
      rintro r w1 ⟨rfl, hb1⟩
      obtain ⟨p0, hg1⟩ := peel1 hb1
      obtain ⟨cp0, fp0, lp0⟩ := p0.rules
      clear hb1
      go_wp2
      go_ret
      exact ⟨fret_bool (by rw [HQ.out, Bool.eq_iff_iff]; simp_all <;> omega), hg1⟩
    · go_wp2
      all_goals
        go_ret
        exact ⟨fret_bool (by rw [HQ.out, Bool.eq_iff_iff]; simp_all <;> omega), (Grow.refl w).alloc _⟩
  · go_wp2
    all_goals
      go_ret
      exact ⟨fret_bool (by rw [HQ.out, Bool.eq_iff_iff]; simp_all <;> omega), (Grow.refl w).alloc _⟩
set_option maxRecDepth 100000 in
set_option maxHeartbeats 8000000 in
theorem refagood_5 (p : ActP) (A : Option Addr) (l : List UInt8) (c : Nat) (w : World) (hl : Bytes w A l) (_hn : l.length ≤ 1000000000000) (hk : p.kind = 5) :
    Calls Try.prog 68 #[av p A l.length c] w fun e w' => e = .returned (.bool (actB p l)) ∧ Grow w w' := by
  obtain ⟨kind, node, n, f⟩ := p
  dsimp only at hk
  subst hk
  have HQ := hide (show actB ⟨5, node, n, f⟩ l = ((decide (0 ≤ node) && decide (node < 64)) && (n == 0 && fateEq f zF && l == [])) from rfl)
  have HS := hide (fun W h => refasame_any ⟨5, node, n, f⟩ ⟨5, node, 0, zF⟩ A none l [] c 0 W h (Bytes.nil _ _))
  rw [show (actEq ⟨5, node, n, f⟩ ⟨5, node, 0, zF⟩ && l == []) = (n == 0 && fateEq f zF && l == []) by simp [actEq]] at HS
  generalize (n == 0 && fateEq f zF && l == []) = B at *
  generalize actB _ l = Q at *
  go_enter Try.func68, Try.ntmps68
  by_cases h_a : 0 ≤ node
  · by_cases h_b : node < 64
    · go_wp2_with fail
      refine (HS.out _ (hl.alloc _)).mono ?_
      rintro r w1 ⟨rfl, hb1⟩
      obtain ⟨p0, hg1⟩ := peel1 hb1
      obtain ⟨cp0, fp0, lp0⟩ := p0.rules
      clear hb1
      go_wp2
      go_ret
      exact ⟨fret_bool (by rw [HQ.out, Bool.eq_iff_iff]; simp_all <;> omega), hg1⟩
    · go_wp2
      all_goals
        go_ret
        exact ⟨fret_bool (by rw [HQ.out, Bool.eq_iff_iff]; simp_all <;> omega), (Grow.refl w).alloc _⟩
  · go_wp2
    all_goals
      go_ret
      exact ⟨fret_bool (by rw [HQ.out, Bool.eq_iff_iff]; simp_all <;> omega), (Grow.refl w).alloc _⟩
set_option maxRecDepth 100000 in
set_option maxHeartbeats 8000000 in
theorem refagood_7 (p : ActP) (A : Option Addr) (l : List UInt8) (c : Nat) (w : World) (hl : Bytes w A l) (_hn : l.length ≤ 1000000000000) (hk : p.kind = 7) :
    Calls Try.prog 68 #[av p A l.length c] w fun e w' => e = .returned (.bool (actB p l)) ∧ Grow w w' := by
  obtain ⟨kind, node, n, f⟩ := p
  dsimp only at hk
  subst hk
  have HQ := hide (show actB ⟨7, node, n, f⟩ l = ((decide (0 ≤ node) && decide (node < 64)) && (n == 0 && fateEq f zF && l == [])) from rfl)
  have HS := hide (fun W h => refasame_any ⟨7, node, n, f⟩ ⟨7, node, 0, zF⟩ A none l [] c 0 W h (Bytes.nil _ _))
  rw [show (actEq ⟨7, node, n, f⟩ ⟨7, node, 0, zF⟩ && l == []) = (n == 0 && fateEq f zF && l == []) by simp [actEq]] at HS
  generalize (n == 0 && fateEq f zF && l == []) = B at *
  generalize actB _ l = Q at *
  go_enter Try.func68, Try.ntmps68
  by_cases h_a : 0 ≤ node
  · by_cases h_b : node < 64
    · go_wp2_with fail
      refine (HS.out _ (hl.alloc _)).mono ?_
      rintro r w1 ⟨rfl, hb1⟩
      obtain ⟨p0, hg1⟩ := peel1 hb1
      obtain ⟨cp0, fp0, lp0⟩ := p0.rules
      clear hb1
      go_wp2
      go_ret
      exact ⟨fret_bool (by rw [HQ.out, Bool.eq_iff_iff]; simp_all <;> omega), hg1⟩
    · go_wp2
      all_goals
        go_ret
        exact ⟨fret_bool (by rw [HQ.out, Bool.eq_iff_iff]; simp_all <;> omega), (Grow.refl w).alloc _⟩
  · go_wp2
    all_goals
      go_ret
      exact ⟨fret_bool (by rw [HQ.out, Bool.eq_iff_iff]; simp_all <;> omega), (Grow.refl w).alloc _⟩
set_option maxRecDepth 100000 in
set_option maxHeartbeats 8000000 in
theorem refagood_8 (p : ActP) (A : Option Addr) (l : List UInt8) (c : Nat) (w : World) (hl : Bytes w A l) (_hn : l.length ≤ 1000000000000) (hk : p.kind = 8) :
    Calls Try.prog 68 #[av p A l.length c] w fun e w' => e = .returned (.bool (actB p l)) ∧ Grow w w' := by
  obtain ⟨kind, node, n, f⟩ := p
  dsimp only at hk
  subst hk
  have HQ := hide (show actB ⟨8, node, n, f⟩ l = ((decide (0 ≤ node) && decide (node < 64)) && (n == 0 && fateEq f zF && l == [])) from rfl)
  have HS := hide (fun W h => refasame_any ⟨8, node, n, f⟩ ⟨8, node, 0, zF⟩ A none l [] c 0 W h (Bytes.nil _ _))
  rw [show (actEq ⟨8, node, n, f⟩ ⟨8, node, 0, zF⟩ && l == []) = (n == 0 && fateEq f zF && l == []) by simp [actEq]] at HS
  generalize (n == 0 && fateEq f zF && l == []) = B at *
  generalize actB _ l = Q at *
  go_enter Try.func68, Try.ntmps68
  by_cases h_a : 0 ≤ node
  · by_cases h_b : node < 64
    · go_wp2_with fail
      refine (HS.out _ (hl.alloc _)).mono ?_
      rintro r w1 ⟨rfl, hb1⟩
      obtain ⟨p0, hg1⟩ := peel1 hb1
      obtain ⟨cp0, fp0, lp0⟩ := p0.rules
      clear hb1
      go_wp2
      go_ret
      exact ⟨fret_bool (by rw [HQ.out, Bool.eq_iff_iff]; simp_all <;> omega), hg1⟩
    · go_wp2
      all_goals
        go_ret
        exact ⟨fret_bool (by rw [HQ.out, Bool.eq_iff_iff]; simp_all <;> omega), (Grow.refl w).alloc _⟩
  · go_wp2
    all_goals
      go_ret
      exact ⟨fret_bool (by rw [HQ.out, Bool.eq_iff_iff]; simp_all <;> omega), (Grow.refl w).alloc _⟩
set_option maxRecDepth 100000 in
set_option maxHeartbeats 8000000 in
theorem refagood_no (p : ActP) (A : Option Addr) (l : List UInt8) (c : Nat) (w : World) (_hl : Bytes w A l) (_hn : l.length ≤ 1000000000000) (hk : p.kind < 1 ∨ 8 < p.kind) :
    Calls Try.prog 68 #[av p A l.length c] w fun e w' => e = .returned (.bool (actB p l)) ∧ Grow w w' := by
  obtain ⟨kind, node, n, f⟩ := p
  dsimp only at hk
  have HQ := hide (show actB ⟨kind, node, n, f⟩ l = false by
    unfold actB
    dsimp only
    rw [if_neg (by omega), if_neg (by omega), if_neg (by omega), if_neg (by omega), if_neg (by omega)])
  have e1 : (kind == 1) = false := by simp; omega
  have e3 : (kind == 3) = false := by simp; omega
  generalize actB _ l = Q at *
  rcases hk with hk | hk
  all_goals
    go_enter Try.func68, Try.ntmps68
    go_wp2
    go_ret
    exact ⟨fret_bool (by rw [HQ.out]), (Grow.refl w).alloc _⟩
theorem refagood_any (p : ActP) (A : Option Addr) (l : List UInt8) (c : Nat) (w : World) (hl : Bytes w A l) (hn : l.length ≤ 1000000000000) :
    Calls Try.prog 68 #[av p A l.length c] w fun e w' => e = .returned (.bool (actB p l)) ∧ Grow w w' := by
  by_cases hk : p.kind < 1 ∨ 8 < p.kind
  · exact refagood_no p A l c w hl hn hk
  rcases (show p.kind = 1 ∨ p.kind = 2 ∨ p.kind = 3 ∨ p.kind = 4 ∨ p.kind = 5 ∨ p.kind = 6 ∨ p.kind = 7 ∨ p.kind = 8 by omega) with h | h | h | h | h | h | h | h
  · exact refagood_1 p A l c w hl hn h
  · exact refagood_2 p A l c w hl hn h
  · exact refagood_3 p A l c w hl hn h
  · exact refagood_4 p A l c w hl hn h
  · exact refagood_5 p A l c w hl hn h
  · exact refagood_6 p A l c w hl hn h
  · exact refagood_7 p A l c w hl hn h
  · exact refagood_8 p A l c w hl hn h
end Go.Proofs.Ytcghgahohmabnaa
