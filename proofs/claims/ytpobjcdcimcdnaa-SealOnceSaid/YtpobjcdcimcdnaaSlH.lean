/- Frames that were read have just the bytes that they are written as: the plain law. -/
import Derived.Test.YtpobjcdcimcdnaaSlD
namespace Go.Proofs.Ytpobjcdcimcdnaa
open Go.RowKit
theorem u8of_nat (a : UInt8) : u8of (a.toNat : Int) = a := by
  have h := a.toNat_lt
  have := u8of_val (a.toNat : Int) (by omega) (by omega)
  exact UInt8.toNat_inj.1 (by omega)
theorem u64of_nat (x : Nat) (h : x < 18446744073709551616) : u64of (x : Int) = x := by
  unfold u64of
  rw [IntKind.wrap_u64]
  omega
theorem u64of_i64of (x : Nat) (h : x < 18446744073709551616) : u64of (i64of x) = x := by
  unfold u64of i64of
  rw [IntKind.wrap_u64]
  simp only [wrap64]
  omega
theorem fixed_lt8 (b : List UInt8) (h : (Buf.getFixed b 8).2.2 = 0) : (Buf.getFixed b 8).1 < 18446744073709551616 := by
  unfold Buf.getFixed at h ⊢
  split at h
  · cases h
  · split at h
    · cases h
    · rename_i h1 h2
      rw [if_neg h1, if_neg h2]
      have h := Buf.num_lt (b.take (8 : Int).toNat)
      have h2 : (b.take (8 : Int).toNat).length ≤ 8 := by rw [List.length_take]; exact Nat.min_le_left _ _
      have h3 := Nat.pow_le_pow_right (show 0 < 256 by decide) h2
      dsimp only
      omega
theorem getBytes_most (b : List UInt8) (m : Int) (h : (Buf.getBytes b m).2.2 = 0) : ((Buf.getBytes b m).1.length : Int) ≤ m := by
  unfold Buf.getBytes at h ⊢
  split at h
  · rename_i h0; exact absurd h h0
  · split at h
    · cases h
    · split at h
      · cases h
      · rename_i h1 h2 h3
        rw [if_neg h1, if_neg h2, if_neg h3]
        have e : ((Buf.getNum b).2.1.take (Buf.getNum b).1).length ≤ (Buf.getNum b).1 := by rw [List.length_take]; omega
        dsimp only
        omega
/-- a byte that was read -/
theorem rbyte_once (r : List UInt8) (h : (rbyte (r, 0)).2.2 = 0) : ∃ a r', r = a :: r' ∧ rbyte (r, 0) = (a.toNat, r', 0) := by
  match r with
  | [] => rw [rbyte_nil] at h; exact absurd h (by decide)
  | a :: r' => exact ⟨a, r', rfl, rbyte_cons a r'⟩
theorem nm_once (r : List UInt8) (h : nmE (r, 0) = 0) : ∃ (t f q : Nat) (left : List UInt8), t ≤ 1152921504606846976 ∧ f < 64 ∧ q < 4294967296 ∧ nmT (r, 0) = t ∧ nmF (r, 0) = f ∧ nmQ (r, 0) = q ∧ (nmS (r, 0)).1 = left ∧ r = Buf.sevens t ++ (UInt8.ofNat f :: (Buf.fixed q 4 ++ left)) := by
  unfold nmE at h
  unfold nmT nmF nmQ nmS
  by_cases h1 : (rnum (r, 0)).2.2 = 0
  · rw [if_neg (by simpa using h1)] at h
    have hr := Buf.getNum_once r h1
    rw [show Buf.getNum r = rnum (r, 0) from rfl] at hr
    generalize rnum (r, 0) = X at *
    obtain ⟨x, rest, e⟩ := X
    dsimp only at *
    subst h1
    by_cases h2 : 1152921504606846976 < x
    · rw [if_pos h2] at h; exact absurd h (by decide)
    · rw [if_neg h2] at h
      by_cases h3 : (rbyte (rest, 0)).2.2 = 0
      · rw [if_neg (by simpa using h3)] at h
        obtain ⟨a, r', rfl, hb⟩ := rbyte_once rest h3
        rw [hb] at h ⊢
        dsimp only at *
        by_cases h4 : 64 ≤ a.toNat
        · rw [if_pos h4] at h; exact absurd h (by decide)
        · rw [if_neg h4] at h
          have h5 : (Buf.getFixed r' 4).2.2 = 0 := h
          have h6 := Buf.getFixed_once r' 4 h5
          have h7 := rfix4_lt (r', 0)
          rw [show rfix 4 (r', 0) = Buf.getFixed r' 4 from rfl] at *
          refine ⟨x, a.toNat, (Buf.getFixed r' 4).1, (Buf.getFixed r' 4).2.1, by omega, by omega, h7, rfl, rfl, rfl, rfl, ?_⟩
          rw [hr]
          congr 1
          rw [show UInt8.ofNat a.toNat = a by simp]
          congr 1
      · rw [if_pos h3] at h; exact absurd h h3
  · rw [if_pos h1] at h; exact absurd h h1
theorem hdP_base (k h t f q : Int) : base (hdP k h t f q) = hdP k h t f q := rfl
theorem hg_once (b : List UInt8) (p : Pkt) (rest : List UInt8) (h : hg b = (p, rest, 0)) : b = headBytes p ++ rest ∧ headB p = true ∧ base p = p := by
  match b with
  | [] => rw [hg_nil] at h; cases h
  | a :: r =>
    by_cases hk : knownB (a.toNat : Int) = true
    · by_cases hf : floodB (a.toNat : Int) = true
      · match r with
        | [] => rw [hg_one hk hf] at h; cases h
        | k :: r' =>
          by_cases hh : hopsB (k.toNat : Int) = true
          · rw [hg_name hk hf hh] at h
            by_cases hn : nmE (r', 0) = 0
            · rw [if_neg (by simpa using hn)] at h
              obtain ⟨t, f, q, left, b1, b2, b3, e1, e2, e3, e4, e5⟩ := nm_once r' hn
              rw [e1, e2, e3, e4] at h
              simp only [Prod.mk.injEq, and_true] at h
              obtain ⟨rfl, rfl⟩ := h
              refine ⟨?_, ?_, rfl⟩
              · have hf' : floodB (hdP (a.toNat : Int) (k.toNat : Int) t f q).kind = true := hf
                unfold headBytes
                rw [if_pos hf']
                show a :: k :: r' = _
                have u1 : u8of ((f : Nat) : Int) = UInt8.ofNat f := by
                  have := u8of_nat (UInt8.ofNat f)
                  rw [UInt8.toNat_ofNat', Nat.mod_eq_of_lt (by omega)] at this
                  exact this
                show _ = ([u8of (a.toNat : Int)] ++ [u8of (k.toNat : Int)] ++ Buf.sevens (u64of (t : Int)) ++ [u8of (f : Int)] ++ Buf.fixed (u64of (q : Int)) 4) ++ left
                rw [u8of_nat, u8of_nat, u64of_nat t (by omega), u64of_nat q (by omega), u1, e5]
                simp
              · unfold headB
                have hf' : floodB (hdP (a.toNat : Int) (k.toNat : Int) t f q).kind = true := hf
                rw [if_pos hf']
                show (hopsB (k.toNat : Int) && keyB (t : Int) (f : Int)) = true
                rw [hh]
                simp [keyB]
                omega
            · rw [if_pos (by simpa using hn)] at h
              simp only [Prod.mk.injEq] at h
              exact absurd h.2.2 hn
          · rw [hg_hops hk hf (by simpa using hh)] at h; cases h
      · have hf : floodB (a.toNat : Int) = false := by simpa using hf
        rw [hg_bare hk hf] at h
        simp only [Prod.mk.injEq, and_true] at h
        obtain ⟨rfl, rfl⟩ := h
        have hf' : floodB (hdP (a.toNat : Int) 0 0 0 0).kind = false := hf
        refine ⟨?_, ?_, rfl⟩
        · unfold headBytes
          rw [if_neg (by rw [hf']; decide)]
          show a :: r = [u8of (a.toNat : Int)] ++ r
          rw [u8of_nat]
          rfl
        · unfold headB
          rw [if_neg (by rw [hf']; decide)]
          show (knownB (a.toNat : Int) && (0 : Int) == 0 && noKey (hdP (a.toNat : Int) 0 0 0 0)) = true
          rw [hk]
          rfl
    · rw [hg_kind (by simpa using hk)] at h; cases h
theorem base_rest (p : Pkt) (h : base p = p) : p.no = 0 ∧ p.to = 0 ∧ p.index = 0 ∧ p.total = 0 ∧ p.stamp = 0 ∧ p.value = 0 := by
  obtain ⟨k, t, f, s, hp, no, to, ix, tot, st, va⟩ := p
  simp [base] at h
  obtain ⟨h1, h2, h3, h4, h5, h6⟩ := h
  exact ⟨h1.symm, h2.symm, h3.symm, h4.symm, h5.symm, h6.symm⟩
theorem head_bytes_of (p q : Pkt) (h : base q = base p) : headBytes q = headBytes p ∧ headB q = headB p := by
  obtain ⟨k, t, f, s, hp, no, to, ix, tot, st, va⟩ := p
  obtain ⟨k', t', f', s', hp', no', to', ix', tot', st', va'⟩ := q
  simp [base] at h
  obtain ⟨rfl, rfl, rfl, rfl, rfl⟩ := h
  exact ⟨rfl, rfl⟩
theorem rnum_lt0 (b : List UInt8) (h : (Buf.getNum b).1 ≤ 1152921504606846976) : u64of ((Buf.getNum b).1 : Int) = (Buf.getNum b).1 := u64of_nat _ (by omega)
theorem noG_ok (b : List UInt8) (h : noG (rnum (b, 0)) = 0) : (Buf.getNum b).2.2 = 0 ∧ (Buf.getNum b).1 ≤ 1152921504606846976 := by
  have e : rnum (b, 0) = Buf.getNum b := rfl
  rw [e] at h
  unfold noG at h
  split at h
  · cases h
  · rename_i h1
    exact ⟨h, by rcases Nat.lt_or_ge 1152921504606846976 (Buf.getNum b).1 with h2 | h2; exact absurd ⟨h, h2⟩ h1; exact h2⟩
theorem gB_once4 (b : List UInt8) (p0 p : Pkt) (l : List UInt8) (h0 : base p0 = p0) (hh : headB p0 = true) (k4 : p0.kind = 4) (h : gB b p0 = (p, l, [], 0)) : b = bodyBytes p l ∧ sealB p l = true ∧ base p = base p0 := by
  obtain ⟨z1, z2, z3, z4, z5, z6⟩ := base_rest p0 h0
  unfold gB at h
  rw [if_pos k4] at h
  simp only [Prod.mk.injEq] at h
  obtain ⟨h1, h2, h3, h4⟩ := h
  have hm := getBytes_most b 1024 h4
  have ho := Buf.getBytes_once b 1024 h4
  rw [h4] at h1
  unfold gotP at h1
  rw [if_pos rfl] at h1
  subst h1
  rw [h2, h3, List.append_nil] at ho
  rw [h2] at hm
  refine ⟨?_, ?_, rfl⟩
  · unfold bodyBytes; rw [if_pos k4]; exact ho
  · rw [sealB_data _ _ k4]
    simp [dataB, k4, hh, z1, z2, z3, z4, z5, z6]
    omega
theorem gB_once5 (b : List UInt8) (p0 p : Pkt) (l : List UInt8) (h0 : base p0 = p0) (hh : headB p0 = true) (k4 : p0.kind ≠ 4) (k5 : p0.kind = 5) (h : gB b p0 = (p, l, [], 0)) : b = bodyBytes p l ∧ sealB p l = true ∧ base p = base p0 := by
  obtain ⟨z1, z2, z3, z4, z5, z6⟩ := base_rest p0 h0
  unfold gB at h
  rw [if_neg k4] at h
  rw [if_pos k5] at h
  simp only [Prod.mk.injEq] at h
  obtain ⟨h1, h2, h3, h4⟩ := h
  subst h2
  unfold pg3 at h1 h3 h4
  by_cases hz : noG (rnum (b, 0)) = 0
  · rw [if_pos hz] at h1 h3 h4
    obtain ⟨g1, g2⟩ := noG_ok b hz
    have ho := Buf.getNum_once b g1
    have e : rnum (b, 0) = Buf.getNum b := rfl
    rw [e] at h1 h3
    dsimp only at h1 h3
    rw [h3, List.append_nil] at ho
    have g3 := rnum_lt0 b g2
    generalize (Buf.getNum b).1 = x at *
    subst h1
    have k5' : ({ p0 with no := (x : Int) } : Pkt).kind = 5 := k5
    refine ⟨?_, ?_, rfl⟩
    · unfold bodyBytes; rw [if_neg (by rw [k5']; decide), if_pos k5', show ({ p0 with no := (x : Int) } : Pkt).no = x from rfl, g3]; exact ho
    · rw [sealB_att _ _ k5']
      have hq := (head_bytes_of p0 { p0 with no := (x : Int) } rfl).2
      unfold attB
      rw [hq, hh]
      simp [sameB, restB, keyEq, numB, k5, z2, z3, z4, z5, z6]
      omega
  · rw [if_neg hz] at h4; exact absurd h4 hz
theorem gB_once6 (b : List UInt8) (p0 p : Pkt) (l : List UInt8) (h0 : base p0 = p0) (hh : headB p0 = true) (k4 : p0.kind ≠ 4) (k5 : p0.kind ≠ 5) (k6 : p0.kind = 6) (h : gB b p0 = (p, l, [], 0)) : b = bodyBytes p l ∧ sealB p l = true ∧ base p = base p0 := by
  obtain ⟨z1, z2, z3, z4, z5, z6⟩ := base_rest p0 h0
  unfold gB at h
  rw [if_neg k4] at h
  rw [if_neg k5] at h
  rw [if_pos k6] at h
  unfold cg at h
  by_cases c1 : 1152921504606846976 < (rnum (b, 0)).1
  · rw [if_pos c1] at h; cases h
  rw [if_neg c1] at h
  by_cases c2 : plE (rnum (b, 0)).2 = 0
  · rw [if_neg (by simpa using c2)] at h
    by_cases c3 : (rbytes 64 (plS (rnum (b, 0)).2)).2.2 = 0
    · rw [if_neg (by simpa using c3)] at h
      simp only [Prod.mk.injEq, and_true] at h
      obtain ⟨h1, h2, h3⟩ := h
      have c0 : (rnum (b, 0)).2.2 = 0 := by
        rcases Int.decEq (rnum (b, 0)).2.2 0 with hne | he
        · generalize rnum (b, 0) = X at *
          obtain ⟨x, rest, e⟩ := X
          dsimp only at *
          unfold plE at c2
          rw [rbyte_bad rest e hne, if_pos hne] at c2
          exact absurd c2 hne
        · exact he
      have ho := Buf.getNum_once b c0
      have e : Buf.getNum b = rnum (b, 0) := rfl
      rw [e] at ho
      generalize rnum (b, 0) = X at *
      obtain ⟨x, rest, e⟩ := X
      dsimp only at *
      subst c0
      unfold plE at c2
      by_cases d1 : (rbyte (rest, 0)).2.2 = 0
      · rw [if_neg (by simpa using d1)] at c2
        obtain ⟨a1, r1, rfl, q1⟩ := rbyte_once rest d1
        unfold plS at c3 h2 h3
        unfold plQ at h1
        rw [q1] at c2 c3 h1 h2 h3
        dsimp only at *
        by_cases d2 : 64 ≤ a1.toNat
        · rw [if_pos d2] at c2; cases c2
        rw [if_neg d2] at c2
        by_cases d3 : (rbyte (r1, 0)).2.2 = 0
        · rw [if_neg (by simpa using d3)] at c2
          obtain ⟨a2, r2, rfl, q2⟩ := rbyte_once r1 d3
          rw [q2] at c2 c3 h1 h2 h3
          dsimp only at *
          by_cases d4 : (rbyte (r2, 0)).2.2 = 0
          · rw [if_neg (by simpa using d4)] at c2
            obtain ⟨a3, r3, rfl, q3⟩ := rbyte_once r2 d4
            rw [q3] at c2 c3 h1 h2 h3
            dsimp only at *
            by_cases d5 : a2.toNat < a3.toNat
            · have hm := getBytes_most r3 64 c3
              have hb := Buf.getBytes_once r3 64 c3
              have h2' : (Buf.getBytes r3 64).1 = l := h2
              have h3' : (Buf.getBytes r3 64).2.1 = [] := h3
              rw [h2', h3', List.append_nil] at hb
              rw [h2'] at hm
              subst h1
              have k6' : ({ p0 with no := (x : Int), to := (a1.toNat : Int), index := (a2.toNat : Int), total := (a3.toNat : Int) } : Pkt).kind = 6 := k6
              refine ⟨?_, ?_, rfl⟩
              · unfold bodyBytes
                rw [if_neg (by rw [k6']; decide), if_neg (by rw [k6']; decide), if_pos k6']
                unfold chunkBytes
                show b = (Buf.sevens (u64of (x : Int)) ++ [u8of (a1.toNat : Int), u8of (a2.toNat : Int), u8of (a3.toNat : Int)]) ++ (Buf.sevens l.length ++ l)
                rw [u64of_nat x (by omega), u8of_nat, u8of_nat, u8of_nat, ho, hb]
                simp
              · rw [sealB_chunk _ _ k6']
                have hq := (head_bytes_of p0 { p0 with no := (x : Int), to := (a1.toNat : Int), index := (a2.toNat : Int), total := (a3.toNat : Int) } rfl).2
                unfold chunkB chunkN
                rw [hq, hh]
                have := a1.toNat_lt
                have := a2.toNat_lt
                have := a3.toNat_lt
                simp [k6, z5, z6, numB, nodeB, countsB]
                omega
            · rw [if_neg d5] at c2; cases c2
          · rw [if_pos (by simpa using d4)] at c2; exact absurd c2 d4
        · rw [if_pos (by simpa using d3)] at c2; exact absurd c2 d3
      · rw [if_pos (by simpa using d1)] at c2; exact absurd c2 d1
    · rw [if_pos (by simpa using c3)] at h; simp only [Prod.mk.injEq] at h; exact absurd h.2.2.2 c3
  · rw [if_pos (by simpa using c2)] at h; simp only [Prod.mk.injEq] at h; exact absurd h.2.2.2 c2
theorem base_s (p0 : Pkt) (s : Int) : base { p0 with stamp := s } = base p0 := rfl
theorem base_sv (p0 : Pkt) (s v : Int) : base { p0 with stamp := s, value := v } = base p0 := rfl
theorem fix_back (x : Nat) (hl : x < 18446744073709551616) : Buf.fixed (u64of (i64of x)) 8 = Buf.fixed x 8 := by
  rw [u64of_i64of x hl]
theorem body1 (p : Pkt) (k1 : p.kind = 1) : bodyBytes p [] = Buf.fixed (u64of p.stamp) 8 := by
  unfold bodyBytes
  rw [if_neg (by rw [k1]; decide), if_neg (by rw [k1]; decide), if_neg (by rw [k1]; decide)]
  unfold pulseBytes
  rw [if_pos k1]
theorem body2 (p : Pkt) (k2 : p.kind = 2) : bodyBytes p [] = Buf.fixed (u64of p.stamp) 8 ++ Buf.fixed (u64of p.value) 8 := by
  unfold bodyBytes
  rw [if_neg (by rw [k2]; decide), if_neg (by rw [k2]; decide), if_neg (by rw [k2]; decide)]
  unfold pulseBytes
  rw [if_neg (by rw [k2]; decide), if_pos k2]
theorem body1' (p0 : Pkt) (s : Int) (k1 : p0.kind = 1) : bodyBytes { p0 with stamp := s } [] = Buf.fixed (u64of s) 8 := body1 _ k1
theorem body2' (p0 : Pkt) (s v : Int) (k2 : p0.kind = 2) : bodyBytes { p0 with stamp := s, value := v } [] = Buf.fixed (u64of s) 8 ++ Buf.fixed (u64of v) 8 := body2 _ k2
theorem seal1B (p0 : Pkt) (s : Int) (k1 : p0.kind = 1) (hh : headB p0 = true) (h0 : base p0 = p0) : sealB { p0 with stamp := s } [] = true := by
  obtain ⟨z1, z2, z3, z4, z5, z6⟩ := base_rest p0 h0
  have k1' : ({ p0 with stamp := s } : Pkt).kind = 1 := k1
  rw [sealB_pulse _ _ (Or.inl k1')]
  have hq := (head_bytes_of p0 { p0 with stamp := s } rfl).2
  unfold pulseB
  rw [hq, hh, if_neg (by decide), if_neg (by rw [k1']; decide), if_pos k1']
  simp [sameB, restB, keyEq, base, z1, z2, z3, z4, z6]
theorem seal2B (p0 : Pkt) (s v : Int) (k2 : p0.kind = 2) (hh : headB p0 = true) (h0 : base p0 = p0) : sealB { p0 with stamp := s, value := v } [] = true := by
  obtain ⟨z1, z2, z3, z4, z5, z6⟩ := base_rest p0 h0
  have k2' : ({ p0 with stamp := s, value := v } : Pkt).kind = 2 := k2
  rw [sealB_pulse _ _ (Or.inr (Or.inl k2'))]
  have hq := (head_bytes_of p0 { p0 with stamp := s, value := v } rfl).2
  unfold pulseB
  rw [hq, hh, if_neg (by decide), if_pos k2']
  simp [sameB, restB, keyEq, base, z1, z2, z3, z4]
theorem gB_at1 (b : List UInt8) (p0 p : Pkt) (l : List UInt8) (k4 : p0.kind ≠ 4) (k5 : p0.kind ≠ 5) (k6 : p0.kind ≠ 6) (k1 : p0.kind = 1) (h : gB b p0 = (p, l, [], 0)) : ∃ x, x < 18446744073709551616 ∧ b = Buf.fixed x 8 ∧ p = { p0 with stamp := i64of x } ∧ l = [] := by
  unfold gB at h
  rw [if_neg k4] at h
  rw [if_neg k5] at h
  rw [if_neg k6] at h
  simp only [Prod.mk.injEq] at h
  obtain ⟨h1, h2, h3, h4⟩ := h
  unfold pg at h1 h3 h4
  rw [if_pos k1] at h1 h3 h4
  unfold pg1 at h1 h3 h4
  have e : rfix 8 (b, 0) = Buf.getFixed b 8 := rfl
  rw [e] at h1 h3 h4
  by_cases g : (Buf.getFixed b 8).2.2 = 0
  · rw [if_pos g] at h1 h3
    have ho := Buf.getFixed_once b 8 g
    have hl := fixed_lt8 b g
    refine ⟨_, hl, ?_, h1.symm, h2.symm⟩
    have h3' : (Buf.getFixed b 8).2.1 = [] := h3
    rw [h3', List.append_nil] at ho
    exact ho
  · rw [if_neg g] at h4; exact absurd h4 g
theorem gB_at2 (b : List UInt8) (p0 p : Pkt) (l : List UInt8) (k4 : p0.kind ≠ 4) (k5 : p0.kind ≠ 5) (k6 : p0.kind ≠ 6) (k1 : p0.kind ≠ 1) (k2 : p0.kind = 2) (h : gB b p0 = (p, l, [], 0)) : ∃ x y, x < 18446744073709551616 ∧ y < 18446744073709551616 ∧ b = Buf.fixed x 8 ++ Buf.fixed y 8 ∧ p = { p0 with stamp := i64of x, value := i64of y } ∧ l = [] := by
  unfold gB at h
  rw [if_neg k4] at h
  rw [if_neg k5] at h
  rw [if_neg k6] at h
  simp only [Prod.mk.injEq] at h
  obtain ⟨h1, h2, h3, h4⟩ := h
  unfold pg at h1 h3 h4
  rw [if_neg k1] at h1 h3 h4
  rw [if_pos k2] at h1 h3 h4
  unfold pg2 at h1 h3 h4
  by_cases g : (rfix 8 (rfix 8 (b, 0)).2).2.2 = 0
  · rw [if_pos g] at h1 h3
    have g0 : (rfix 8 (b, 0)).2.2 = 0 := by
      rcases Int.decEq (rfix 8 (b, 0)).2.2 0 with hne | he
      · rw [show rfix 8 (rfix 8 (b, 0)).2 = (0, (rfix 8 (b, 0)).2) from rget_bad _ _ _ hne] at g
        exact absurd g hne
      · exact he
    have ho := Buf.getFixed_once b 8 g0
    have hl := fixed_lt8 b g0
    have e : Buf.getFixed b 8 = rfix 8 (b, 0) := rfl
    rw [e] at ho hl
    generalize rfix 8 (b, 0) = X at *
    obtain ⟨x, rest, e⟩ := X
    dsimp only at *
    subst g0
    have g' : (Buf.getFixed rest 8).2.2 = 0 := g
    have ho2 := Buf.getFixed_once rest 8 g'
    have hl2 := fixed_lt8 rest g'
    have e : rfix 8 (rest, 0) = Buf.getFixed rest 8 := rfl
    rw [e] at h1 h3
    have h3' : (Buf.getFixed rest 8).2.1 = [] := h3
    rw [h3', List.append_nil] at ho2
    refine ⟨x, _, hl, hl2, ?_, h1.symm, h2.symm⟩
    exact ho.trans (congrArg (fun z => Buf.fixed x (8 : Int).toNat ++ z) ho2)
  · rw [if_neg g] at h4; exact absurd h4 g
theorem gB_at3 (b : List UInt8) (p0 p : Pkt) (l : List UInt8) (k4 : p0.kind ≠ 4) (k5 : p0.kind ≠ 5) (k6 : p0.kind ≠ 6) (k1 : p0.kind ≠ 1) (k2 : p0.kind ≠ 2) (k3 : p0.kind = 3) (h : gB b p0 = (p, l, [], 0)) : ∃ x, x ≤ 1152921504606846976 ∧ b = Buf.sevens x ∧ p = { p0 with no := (x : Int) } ∧ l = [] := by
  unfold gB at h
  rw [if_neg k4] at h
  rw [if_neg k5] at h
  rw [if_neg k6] at h
  simp only [Prod.mk.injEq] at h
  obtain ⟨h1, h2, h3, h4⟩ := h
  unfold pg at h1 h3 h4
  rw [if_neg k1] at h1 h3 h4
  rw [if_neg k2] at h1 h3 h4
  rw [if_pos k3] at h1 h3 h4
  unfold pg3 at h1 h3 h4
  by_cases hz : noG (rnum (b, 0)) = 0
  · rw [if_pos hz] at h1 h3
    obtain ⟨g1, g2⟩ := noG_ok b hz
    have ho := Buf.getNum_once b g1
    have e : rnum (b, 0) = Buf.getNum b := rfl
    rw [e] at h1 h3
    have h3' : (Buf.getNum b).2.1 = [] := h3
    rw [h3', List.append_nil] at ho
    exact ⟨_, g2, ho, h1.symm, h2.symm⟩
  · rw [if_neg hz] at h4; exact absurd h4 hz
theorem gB_once1 (b : List UInt8) (p0 p : Pkt) (l : List UInt8) (h0 : base p0 = p0) (hh : headB p0 = true) (k4 : p0.kind ≠ 4) (k5 : p0.kind ≠ 5) (k6 : p0.kind ≠ 6) (k1 : p0.kind = 1) (h : gB b p0 = (p, l, [], 0)) : b = bodyBytes p l ∧ sealB p l = true ∧ base p = base p0 := by
  obtain ⟨x, hx, rfl, hp, rfl⟩ := gB_at1 b p0 p l k4 k5 k6 k1 h
  have q := fix_back x hx
  clear h
  generalize Buf.fixed x 8 = b at *
  generalize i64of x = s at *
  subst hp
  exact ⟨((body1' p0 s k1).trans q).symm, seal1B p0 s k1 hh h0, base_s p0 s⟩
theorem gB_once2 (b : List UInt8) (p0 p : Pkt) (l : List UInt8) (h0 : base p0 = p0) (hh : headB p0 = true) (k4 : p0.kind ≠ 4) (k5 : p0.kind ≠ 5) (k6 : p0.kind ≠ 6) (k1 : p0.kind ≠ 1) (k2 : p0.kind = 2) (h : gB b p0 = (p, l, [], 0)) : b = bodyBytes p l ∧ sealB p l = true ∧ base p = base p0 := by
  obtain ⟨x, y, hx, hy, rfl, hp, rfl⟩ := gB_at2 b p0 p l k4 k5 k6 k1 k2 h
  have q1 := fix_back x hx
  have q2 := fix_back y hy
  clear h
  generalize Buf.fixed x 8 = b1 at *
  generalize Buf.fixed y 8 = b2 at *
  generalize i64of x = s at *
  generalize i64of y = v at *
  subst hp
  refine ⟨((body2' p0 s v k2).trans ?_).symm, seal2B p0 s v k2 hh h0, base_sv p0 s v⟩
  rw [q1, q2]
theorem body3 (p : Pkt) (k3 : p.kind = 3) : bodyBytes p [] = Buf.sevens (u64of p.no) := by
  unfold bodyBytes
  rw [if_neg (by rw [k3]; decide), if_neg (by rw [k3]; decide), if_neg (by rw [k3]; decide)]
  unfold pulseBytes
  rw [if_neg (by rw [k3]; decide), if_neg (by rw [k3]; decide)]
theorem body3' (p0 : Pkt) (s : Int) (k3 : p0.kind = 3) : bodyBytes { p0 with no := s } [] = Buf.sevens (u64of s) := body3 _ k3
theorem seal3B (p0 : Pkt) (x : Nat) (hx : x ≤ 1152921504606846976) (k3 : p0.kind = 3) (hh : headB p0 = true) (h0 : base p0 = p0) : sealB { p0 with no := (x : Int) } [] = true := by
  obtain ⟨z1, z2, z3, z4, z5, z6⟩ := base_rest p0 h0
  have k3' : ({ p0 with no := (x : Int) } : Pkt).kind = 3 := k3
  rw [sealB_pulse _ _ (Or.inr (Or.inr k3'))]
  have hq := (head_bytes_of p0 { p0 with no := (x : Int) } rfl).2
  unfold pulseB
  rw [hq, hh, if_neg (by decide), if_neg (by rw [k3']; decide), if_neg (by rw [k3']; decide), if_pos k3']
  simp [sameB, restB, keyEq, base, numB, z2, z3, z4, z5, z6]
  omega
theorem gB_once3 (b : List UInt8) (p0 p : Pkt) (l : List UInt8) (h0 : base p0 = p0) (hh : headB p0 = true) (k4 : p0.kind ≠ 4) (k5 : p0.kind ≠ 5) (k6 : p0.kind ≠ 6) (k1 : p0.kind ≠ 1) (k2 : p0.kind ≠ 2) (k3 : p0.kind = 3) (h : gB b p0 = (p, l, [], 0)) : b = bodyBytes p l ∧ sealB p l = true ∧ base p = base p0 := by
  obtain ⟨x, hx, rfl, rfl, rfl⟩ := gB_at3 b p0 p l k4 k5 k6 k1 k2 k3 h
  refine ⟨((body3' p0 (x : Int) k3).trans ?_).symm, seal3B p0 x hx k3 hh h0, rfl⟩
  exact congrArg Buf.sevens (u64of_nat x (by omega))
theorem gB_once0 (b : List UInt8) (p0 p : Pkt) (l : List UInt8) (k4 : p0.kind ≠ 4) (k5 : p0.kind ≠ 5) (k6 : p0.kind ≠ 6) (k1 : p0.kind ≠ 1) (k2 : p0.kind ≠ 2) (k3 : p0.kind ≠ 3) (h : gB b p0 = (p, l, [], 0)) : False := by
  unfold gB at h
  rw [if_neg k4, if_neg k5, if_neg k6] at h
  simp only [Prod.mk.injEq] at h
  obtain ⟨_, _, _, h4⟩ := h
  unfold pg at h4
  rw [if_neg k1, if_neg k2, if_neg k3] at h4
  exact absurd h4 (by decide)
theorem gB_once (b : List UInt8) (p0 p : Pkt) (l : List UInt8) (h0 : base p0 = p0) (hh : headB p0 = true) (h : gB b p0 = (p, l, [], 0)) : b = bodyBytes p l ∧ sealB p l = true ∧ base p = base p0 := by
  by_cases k4 : p0.kind = 4
  · exact gB_once4 b p0 p l h0 hh k4 h
  by_cases k5 : p0.kind = 5
  · exact gB_once5 b p0 p l h0 hh k4 k5 h
  by_cases k6 : p0.kind = 6
  · exact gB_once6 b p0 p l h0 hh k4 k5 k6 h
  by_cases k1 : p0.kind = 1
  · exact gB_once1 b p0 p l h0 hh k4 k5 k6 k1 h
  by_cases k2 : p0.kind = 2
  · exact gB_once2 b p0 p l h0 hh k4 k5 k6 k1 k2 h
  by_cases k3 : p0.kind = 3
  · exact gB_once3 b p0 p l h0 hh k4 k5 k6 k1 k2 k3 h
  exact (gB_once0 b p0 p l k4 k5 k6 k1 k2 k3 h).elim
/-- what was decoded has just that frame -/
theorem dec_once (m : List UInt8) (p : Pkt) (l : List UInt8) (h : dec (Crc.seal_ m) = (p, l, 0)) : sealB p l = true ∧ frameOf p l = Crc.seal_ m := by
  have hL := seal_len m
  have ht : (Crc.seal_ m).take ((Crc.seal_ m).length - 4) = m := by
    rw [hL, show m.length + 4 - 4 = m.length by omega]
    unfold Crc.seal_
    exact List.take_left
  unfold dec at h
  rw [ht] at h
  split at h
  · cases h
  split at h
  · cases h
  split at h
  · cases h
  split at h
  · rename_i hx; simp only [Prod.mk.injEq] at h; exact absurd h.2.2 hx
  split at h
  · rename_i hx; simp only [Prod.mk.injEq] at h; exact absurd h.2.2 hx
  split at h
  · cases h
  rename_i g1 g2 g3
  simp only [ne_eq, Decidable.not_not] at g1 g2 g3
  have hh : hg m = ((hg m).1, (hg m).2.1, 0) := by rw [← g1]
  obtain ⟨o1, o2, o3⟩ := hg_once m _ _ hh
  generalize hg m = H at *
  obtain ⟨p0, rest, e⟩ := H
  dsimp only at *
  have hg : gB rest p0 = (p, l, [], 0) := by
    simp only [Prod.mk.injEq, and_true] at h
    obtain ⟨h1, h2⟩ := h
    rw [← h1, ← h2, ← g2, ← g3]
  obtain ⟨b1, b2, b3⟩ := gB_once rest p0 p l o3 o2 hg
  refine ⟨b2, ?_⟩
  unfold frameOf
  rw [(head_bytes_of p0 p b3).1, ← b1, ← o1]
end Go.Proofs.Ytpobjcdcimcdnaa
