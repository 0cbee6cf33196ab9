/- The plain law of chapter 41: what was decoded has just those bytes; a good state is decoded from its bytes. -/
import Derived.Test.YtbccbfmgjeknhaaLt
namespace Go.Proofs.Ytbccbfmgjeknhaa
open Go.RowKit
theorem rfix_once (n : Nat) (s : List UInt8 × Int) (h : (rfix n s).2.2 = 0) : s.2 = 0 ∧ s.1 = Buf.fixed (rfix n s).1 n ++ (rfix n s).2.1 := by
  unfold rfix Buf.rget at *
  split at h
  · next h0 =>
    rw [if_pos h0]
    have := Buf.getFixed_once s.1 n h
    rw [Int.toNat_natCast] at this
    exact ⟨h0, this⟩
  · next h0 => exact absurd h h0
theorem rnum_once (s : List UInt8 × Int) (h : (rnum s).2.2 = 0) : s.2 = 0 ∧ s.1 = Buf.sevens (rnum s).1 ++ (rnum s).2.1 := by
  unfold rnum Buf.rget at *
  split at h
  · next h0 =>
    rw [if_pos h0]
    exact ⟨h0, Buf.getNum_once s.1 h⟩
  · next h0 => exact absurd h h0
theorem fixed_mod (x n : Nat) : Buf.fixed (x % 256 ^ n) n = Buf.fixed x n := by
  have h := Buf.fixed_num (Buf.fixed x n)
  rw [Buf.num_fixed, Buf.fixed_length] at h
  exact h
theorem gF_once : ∀ (k : Nat) (s : List UInt8 × Int), k ≤ 64 → (gF k s).2.2 = 0 → s.2 = 0 ∧ s.1 = ofBytes ((gF k s).1.take k) ++ (gF k s).2.1 ∧ ((gF k s).1.drop k).all (· == 0) = true
  | 0, s, _, h => by
    refine ⟨h, rfl, ?_⟩
    simp [gF]
  | k + 1, s, hk, h => by
    have hlen := gF_len k s
    have h1 := rfix_once 4 (gF k s).2 h
    have h2 := gF_once k s (by omega) h1.1
    have e : gF (k + 1) s = ((gF k s).1.set k ((rfix 4 (gF k s).2).1 % 4294967296), (rfix 4 (gF k s).2).2) := rfl
    rw [e]
    generalize rfix 4 (gF k s).2 = Z at *
    generalize gF k s = G at *
    obtain ⟨L, sk, ek⟩ := G
    obtain ⟨z, sz, ez⟩ := Z
    dsimp only at hlen h1 h2
    refine ⟨h2.1, ?_, ?_⟩
    · have hs : k < (L.set k (z % 4294967296)).length := by rw [List.length_set]; omega
      show s.1 = ofBytes ((L.set k (z % 4294967296)).take (k + 1)) ++ sz
      rw [ofBytes_succ _ k hs, List.getElem_set_self, List.take_set_of_le (Nat.le_refl k), show (4294967296 : Nat) = 256 ^ 4 from rfl, fixed_mod, List.append_assoc, ← h1.2]
      exact h2.2.1
    · have h3 := h2.2.2
      show ((L.set k (z % 4294967296)).drop (k + 1)).all (· == 0) = true
      rw [List.drop_set_of_lt (Nat.lt_succ_self k)]
      rw [List.all_eq_true] at h3 ⊢
      intro x hx
      refine h3 x ?_
      have hx2 : x ∈ (L.drop k).drop 1 := by rw [List.drop_drop]; exact hx
      exact List.mem_of_mem_drop hx2
theorem decR_ok (b : List UInt8) (n : Int) (h : (decR b n).2 = 0) : manyB n = true ∧ vErr (b, 0) n.toNat = 0 ∧ lgetErr (vSet (b, 0)).2 n.toNat = 0 ∧ rend (gF n.toNat (gS (vSet (b, 0)).2).2).2 = 0 ∧ (decR b n).1 = ⟨(vNo (b, 0)).1, (vSet (b, 0)).1, lgetLg (vSet (b, 0)).2 n.toNat⟩ := by
  unfold decR at h ⊢
  by_cases h1 : manyB n = false
  · rw [if_pos h1] at h
    cases h
  · rw [if_neg h1] at h ⊢
    by_cases h2 : vErr (b, 0) n.toNat ≠ 0
    · rw [if_pos h2] at h
      exact absurd h h2
    · rw [if_neg h2] at h ⊢
      by_cases h3 : lgetErr (vSet (b, 0)).2 n.toNat ≠ 0
      · rw [if_pos h3] at h
        exact absurd h h3
      · rw [if_neg h3] at h ⊢
        by_cases h4 : rend (gF n.toNat (gS (vSet (b, 0)).2).2).2 ≠ 0
        · rw [if_pos h4] at h
          exact absurd h h4
        · rw [if_neg h4]
          exact ⟨by simpa using h1, by simpa using h2, by simpa using h3, by simpa using h4, rfl⟩
theorem dec_once (b : List UInt8) (n : Int) (h : (decR b n).2 = 0) : (decR b n).1.Ok ∧ goodB (decR b n).1 n = true ∧ stBytes (decR b n).1 n.toNat = b := by
  obtain ⟨hm, hv, hl, he, hd⟩ := decR_ok b n h
  rw [hd]
  clear hd h
  have hL : lgetLg (vSet (b, 0)).2 n.toNat = ⟨wrap64 (gC (vSet (b, 0)).2).1, (gS (vSet (b, 0)).2).1, (gF n.toNat (gS (vSet (b, 0)).2).2).1⟩ := if_pos hl
  rw [hL]
  have hm0 := hm
  simp [manyB] at hm
  have hN : n.toNat ≤ 64 := by omega
  obtain ⟨N, hNn⟩ : ∃ N, N = n.toNat := ⟨_, rfl⟩
  have hNn := hide hNn
  rw [← hNn.out] at hv hl he hN ⊢
  have hnlt := rnum_lt (b, 0)
  unfold vErr at hv
  by_cases hx : (vNo (b, 0)).1 > 1152921504606846976
  · rw [if_pos hx] at hv; cases hv
  rw [if_neg hx] at hv
  by_cases hq : (vNo (b, 0)).2.2 = 0
  case neg => rw [if_pos hq] at hv; exact absurd hv hq
  rw [if_neg (by simpa using hq)] at hv
  by_cases hs : (vSet (b, 0)).2.2 = 0
  case neg => rw [if_pos hs] at hv; exact absurd hv hs
  rw [if_neg (by simpa using hs)] at hv
  by_cases hb : 2 ^ N ≤ (vSet (b, 0)).1
  · rw [if_pos hb] at hv; cases hv
  clear hv
  unfold lgetErr at hl
  by_cases hf : (gF N (gS (vSet (b, 0)).2).2).2.2 = 0
  case neg => rw [if_pos hf] at hl; exact absurd hl hf
  rw [if_neg (by simpa using hf)] at hl
  by_cases hc : wrap64 (gC (vSet (b, 0)).2).1 < 0
  · rw [if_pos hc] at hl; cases hl
  rw [if_neg hc] at hl
  by_cases ht : wrap64 (gC (vSet (b, 0)).2).1 = ((gF N (gS (vSet (b, 0)).2).2).1.sum : Nat)
  case neg => rw [if_pos ht] at hl; cases hl
  clear hl
  have hF := gF_once N _ hN hf
  have hFlen := gF_len N (gS (vSet (b, 0)).2).2
  have hFlt := gF_lt N (gS (vSet (b, 0)).2).2
  have hS := rfix_once 8 (gC (vSet (b, 0)).2).2 hF.1
  have hC := rfix_once 8 (vSet (b, 0)).2 hS.1
  have hV := rfix_once 8 (rnum (b, 0)).2 hs
  have hX := rnum_once (b, 0) hq
  have hslt := rfix_lt8 8 (gC (vSet (b, 0)).2).2
  have hclt := rfix_lt8 8 (vSet (b, 0)).2
  have hvlt := rfix_lt8 8 (rnum (b, 0)).2
  have e1 : vNo (b, 0) = rnum (b, 0) := rfl
  have e2 : vSet (b, 0) = rfix 8 (rnum (b, 0)).2 := rfl
  have e3 : gC (vSet (b, 0)).2 = rfix 8 (vSet (b, 0)).2 := rfl
  have e4 : gS (vSet (b, 0)).2 = rfix 8 (gC (vSet (b, 0)).2).2 := rfl
  rw [show ((8 : Nat) : Int) = 8 from rfl] at hS hC hV
  rw [← e4] at hS hslt
  rw [← e3] at hC hclt
  rw [← e2] at hV hvlt
  rw [← e1] at hX hV hnlt
  clear e1 e2 e3 e4 hL
  generalize gF N (gS (vSet (b, 0)).2).2 = F at *
  generalize gS (vSet (b, 0)).2 = S at *
  generalize gC (vSet (b, 0)).2 = C at *
  generalize vSet (b, 0) = V at *
  generalize vNo (b, 0) = X at *
  obtain ⟨L, sf, ef⟩ := F
  obtain ⟨y, sy, ey⟩ := S
  obtain ⟨c, sc, ec⟩ := C
  obtain ⟨v, sv, ev⟩ := V
  obtain ⟨x, sx, ex⟩ := X
  dsimp only at *
  have hr : sf = [] := by
    unfold rend at he
    by_cases h : sf = []
    · exact h
    · rw [if_pos ⟨hf, h⟩] at he
      cases he
  subst hr
  have hw : wrap64 c = (c : Int) := by unfold wrap64 at hc ⊢; omega
  have hw2 : -9223372036854775808 ≤ wrap64 (c : Int) ∧ wrap64 (c : Int) ≤ 9223372036854775807 := by unfold wrap64; omega
  refine ⟨⟨by show (-9223372036854775808 : Int) ≤ x; omega, by show (x : Int) ≤ 9223372036854775807; omega, hvlt, ⟨hFlen, hFlt, hslt, hw2.1, hw2.2⟩⟩, ?_, ?_⟩
  · unfold goodB sumsB
    rw [hm0, ← hNn.out]
    simp only [Bool.true_and, Bool.and_eq_true, decide_eq_true_eq, beq_iff_eq]
    refine ⟨by omega, by omega, by omega, hF.2.2, by omega, ht⟩
  · unfold stBytes lgBytes
    dsimp only
    rw [hw, Int.toNat_natCast, Int.toNat_natCast, hX.2, hV.2, hC.2, hS.2, hF.2.1]
    simp only [List.append_assoc, List.append_nil]
theorem zeroSt_ok : zeroSt.Ok := ⟨by decide, by decide, by decide, ⟨by decide, fun x hx => by
  have : x ∈ List.replicate 64 0 := hx
  rw [List.mem_replicate] at this
  omega, by decide, by decide, by decide⟩⟩
theorem decR_zero (b : List UInt8) (n : Int) (h : (decR b n).2 ≠ 0) : (decR b n).1 = zeroSt := by
  unfold decR at h ⊢
  by_cases h1 : manyB n = false
  · rw [if_pos h1]
  · rw [if_neg h1] at h ⊢
    by_cases h2 : vErr (b, 0) n.toNat ≠ 0
    · rw [if_pos h2]
    · rw [if_neg h2] at h ⊢
      by_cases h3 : lgetErr (vSet (b, 0)).2 n.toNat ≠ 0
      · rw [if_pos h3]
      · rw [if_neg h3] at h ⊢
        by_cases h4 : rend (gF n.toNat (gS (vSet (b, 0)).2).2).2 ≠ 0
        · rw [if_pos h4]
        · rw [if_neg h4] at h
          exact absurd rfl h
theorem decR_Ok (b : List UInt8) (n : Int) : (decR b n).1.Ok := by
  by_cases h : (decR b n).2 = 0
  · exact (dec_once b n h).1
  · rw [decR_zero b n h]
    exact zeroSt_ok
theorem set_mid (l : List Nat) (z : Nat) (m : Nat) : (l ++ List.replicate (m + 1) 0).set l.length z = (l ++ [z]) ++ List.replicate m 0 := by
  rw [List.set_append_right _ _ (Nat.le_refl _), Nat.sub_self, List.replicate_succ, List.set_cons_zero]
  simp
theorem rfix_back (x n : Nat) (r : List UInt8) (h1 : 1 ≤ n) (h8 : n ≤ 8) : rfix n (Buf.fixed x n ++ r, 0) = (x % 256 ^ n, r, 0) := by
  unfold rfix Buf.rget
  rw [if_pos rfl]
  exact Buf.fixed_get_back x n r h1 h8
theorem rnum_back (x : Nat) (r : List UInt8) (hx : x < 18446744073709551616) : rnum (Buf.sevens x ++ r, 0) = (x, r, 0) := Buf.sevens_get_back x r hx
theorem gF_back (L : List Nat) (hL : L.length = 64) (hlt : ∀ x, x ∈ L → x < 4294967296) : ∀ (k : Nat) (r : List UInt8), k ≤ 64 → gF k (ofBytes (L.take k) ++ r, 0) = (L.take k ++ List.replicate (64 - k) 0, r, 0)
  | 0, r, _ => by simp [gF, ofBytes]
  | k + 1, r, hk => by
    have hkL : k < L.length := by omega
    rw [ofBytes_succ L k hkL, List.append_assoc]
    have ih := gF_back L hL hlt k (Buf.fixed L[k] 4 ++ r) (by omega)
    have hx := hlt _ (List.getElem_mem hkL)
    have e : ∀ s, gF (k + 1) s = ((gF k s).1.set k ((rfix 4 (gF k s).2).1 % 4294967296), (rfix 4 (gF k s).2).2) := fun _ => rfl
    rw [e, ih]
    have e2 := rfix_back L[k] 4 r (by decide) (by decide)
    rw [show ((4 : Nat) : Int) = 4 from rfl, show (256 : Nat) ^ 4 = 4294967296 from rfl] at e2
    rw [e2]
    rw [Nat.mod_eq_of_lt hx, Nat.mod_eq_of_lt hx]
    have e3 := set_mid (L.take k) L[k] (64 - (k + 1))
    rw [List.length_take, show min k L.length = k by omega, show 64 - (k + 1) + 1 = 64 - k by omega] at e3
    rw [e3, ← List.take_succ_eq_append_getElem hkL]
theorem dec_back (s : St) (n : Int) (hok : s.Ok) (h : goodB s n = true) : decR (stBytes s n.toNat) n = (s, 0) := by
  obtain ⟨N, rfl, h1, h64, h0, hm, hset, hsum⟩ := good_parts s n h
  obtain ⟨hz, hc0, hct⟩ := sums_parts s.l N hsum
  have hmn : manyB (N : Int) = true := by simp [manyB]; omega
  obtain ⟨no, set, ⟨count, sum, L⟩⟩ := s
  obtain ⟨hn0, hn1, hsl, ⟨hlen, hlt, hsuml, hc1, hc2⟩⟩ := hok
  dsimp only at *
  have hLz : L.take N ++ List.replicate (64 - N) 0 = L := by
    rw [List.all_eq_true] at hz
    have : L.drop N = List.replicate (64 - N) 0 := by
      rw [List.eq_replicate_iff]
      refine ⟨by rw [List.length_drop]; omega, fun x hx => by simpa using hz x hx⟩
    rw [← this, List.take_append_drop]
  have hp : 2 ^ N ≤ 2 ^ 64 := Nat.pow_le_pow_right (by decide) h64
  rw [Int.toNat_natCast]
  obtain ⟨b, hb⟩ : ∃ b, b = stBytes ⟨no, set, ⟨count, sum, L⟩⟩ N := ⟨_, rfl⟩
  rw [← hb]
  unfold stBytes lgBytes at hb
  dsimp only at hb
  simp only [List.append_assoc] at hb
  have e1 : vNo (b, 0) = (no.toNat, Buf.fixed set 8 ++ (Buf.fixed count.toNat 8 ++ (Buf.fixed sum 8 ++ ofBytes (L.take N))), 0) := by
    rw [hb]
    exact rnum_back _ _ (by omega)
  have e2 : vSet (b, 0) = (set, Buf.fixed count.toNat 8 ++ (Buf.fixed sum 8 ++ ofBytes (L.take N)), 0) := by
    show rfix 8 (vNo (b, 0)).2 = _
    rw [e1]
    have := rfix_back set 8 (Buf.fixed count.toNat 8 ++ (Buf.fixed sum 8 ++ ofBytes (L.take N))) (by decide) (by decide)
    rw [Nat.mod_eq_of_lt (by omega)] at this
    exact this
  have e3 : gC (vSet (b, 0)).2 = (count.toNat, Buf.fixed sum 8 ++ ofBytes (L.take N), 0) := by
    rw [e2]
    have := rfix_back count.toNat 8 (Buf.fixed sum 8 ++ ofBytes (L.take N)) (by decide) (by decide)
    rw [Nat.mod_eq_of_lt (by omega)] at this
    exact this
  have e4 : gS (vSet (b, 0)).2 = (sum, ofBytes (L.take N), 0) := by
    show rfix 8 (gC (vSet (b, 0)).2).2 = _
    rw [e3]
    have := rfix_back sum 8 (ofBytes (L.take N)) (by decide) (by decide)
    rw [Nat.mod_eq_of_lt (by omega)] at this
    exact this
  have e5 : gF N (gS (vSet (b, 0)).2).2 = (L, [], 0) := by
    rw [e4]
    have := gF_back L hlen hlt N [] h64
    rw [hLz, List.append_nil] at this
    exact this
  have hw : wrap64 (count.toNat : Nat) = count := by unfold wrap64; omega
  have v0 : vErr (b, 0) N = 0 := by
    unfold vErr
    rw [e1, e2]
    dsimp only
    rw [if_neg (by omega), if_neg (by simp), if_neg (by simp), if_neg (by omega)]
  have l0 : lgetErr (vSet (b, 0)).2 N = 0 := by
    unfold lgetErr
    rw [e5, e3]
    dsimp only
    rw [hw, if_neg (by simp), if_neg (by omega), if_neg (by simpa using hct)]
  have r0 : rend (gF N (gS (vSet (b, 0)).2).2).2 = 0 := by
    rw [e5]
    rfl
  have lg : lgetLg (vSet (b, 0)).2 N = ⟨count, sum, L⟩ := by
    unfold lgetLg
    rw [if_pos l0, e5, e4, e3]
    dsimp only
    rw [hw]
  unfold decR
  rw [Int.toNat_natCast, if_neg (by rw [hmn]; decide), if_neg (by rw [v0]; decide), if_neg (by rw [l0]; decide), if_neg (by rw [r0]; decide), lg, e1, e2]
  dsimp only
  rw [Int.toNat_of_nonneg h0]
end Go.Proofs.Ytbccbfmgjeknhaa
