/- Acts (chapter 46): what was written is read; what was read is written so. -/
import Derived.Test.YtcghgahohmabnaaSc8
import Derived.Test.YtcghgahohmabnaaFtQ
namespace Go.Proofs.Ytcghgahohmabnaa
open Go.RowKit
theorem u8of_byte (a : UInt8) : u8of ((a.toNat : Nat) : Int) = a := by
  have h := a.toNat_lt
  apply UInt8.toNat_inj.1
  have := fu8of_val (a.toNat : Int) (by omega) (by omega)
  omega
theorem u8of_of {x : Int} {a : UInt8} (h : ((a.toNat : Nat) : Int) = x) : u8of x = a := h ▸ u8of_byte a
theorem u64of_nat (n : Nat) (h : n < 18446744073709551616) : u64of (n : Int) = n := by have := fu64of_val (n : Int) (by omega) (by omega); omega
/-- a fate that was read, and the bytes -/
theorem fg_once (b : List UInt8) (h : (fg b).2.2 = 0) : fateB (fg b).1 = true ∧ b = fateBytes (fg b).1 ++ (fg b).2.1 := by
  match b, h with
  | [], h => rw [fgc_nil] at h; simp at h
  | a :: r, h =>
    by_cases h4 : 4 ≤ a.toNat
    · rw [fg_big (frbyte_cons a r) h4] at h; simp at h
    have hk : a.toNat = 0 ∨ a.toNat = 1 ∨ a.toNat = 2 ∨ a.toNat = 3 := by omega
    have e1 := frbyte_cons a r
    rcases hk with k | k | k | k
    · rw [k] at e1
      match r, e1, h with
      | [], e1, h => rw [fg_0 e1 frbyte_nil, if_pos (by decide)] at h; simp at h
      | d :: r, e1, h =>
        have E := fg_0 e1 (frbyte_cons d r)
        rw [if_neg (by simp)] at E
        by_cases hg : fateB { kind := 0, delay := (d.toNat : Int), again := 0, pos := 0, bits := 0 } = false
        · rw [E, if_pos hg] at h; simp at h
        · rw [if_neg hg] at E
          have hg : fateB { kind := 0, delay := (d.toNat : Int), again := 0, pos := 0, bits := 0 } = true := by simpa using hg
          rw [E]
          refine ⟨hg, ?_⟩
          rw [fateBytes_0 _ hg rfl]
          dsimp only
          rw [u8of_of (a := a) (by omega), u8of_byte]
          rfl
    · rw [k] at e1
      have E := fg_1 e1
      rw [E]
      have hg : fateB { kind := 1, delay := 0, again := 0, pos := 0, bits := 0 } = true := by decide
      refine ⟨hg, ?_⟩
      rw [fateBytes_1 _ hg rfl]
      dsimp only
      rw [u8of_of (a := a) (by omega)]
      rfl
    · rw [k] at e1
      match r, e1, h with
      | [], e1, h => rw [fg_2 e1 frbyte_nil (frbyte_bad _ _ (by decide)), if_pos (by decide)] at h; simp at h
      | [d], e1, h => rw [fg_2 e1 (frbyte_cons d []) frbyte_nil, if_pos (by decide)] at h; simp at h
      | d :: g :: r, e1, h =>
        have E := fg_2 e1 (frbyte_cons d (g :: r)) (frbyte_cons g r)
        rw [if_neg (by simp)] at E
        by_cases hg : fateB { kind := 2, delay := (d.toNat : Int), again := (g.toNat : Int), pos := 0, bits := 0 } = false
        · rw [E, if_pos hg] at h; simp at h
        · rw [if_neg hg] at E
          have hg : fateB { kind := 2, delay := (d.toNat : Int), again := (g.toNat : Int), pos := 0, bits := 0 } = true := by simpa using hg
          rw [E]
          refine ⟨hg, ?_⟩
          rw [fateBytes_2 _ hg rfl]
          dsimp only
          rw [u8of_of (a := a) (by omega), u8of_byte, u8of_byte]
          rfl
    · rw [k] at e1
      match r, e1, h with
      | [], e1, h => rw [fg_3 e1 frbyte_nil (rfix4_bad _ _ (by decide)) (rfix4_bad _ _ (by decide)), if_pos (by decide)] at h; simp at h
      | d :: r, e1, h =>
        by_cases h4 : r.length < 4
        · rw [fg_3 e1 (frbyte_cons d r) (rfix4_short r h4) (rfix4_bad _ _ (by decide)), if_pos (by decide)] at h; simp at h
        by_cases h8 : r.length < 8
        · rw [fg_3 e1 (frbyte_cons d r) (rfix4_long r (by omega)) (rfix4_short _ (by rw [List.length_drop]; omega)), if_pos (by decide)] at h; simp at h
        have E := fg_3 e1 (frbyte_cons d r) (rfix4_long r (by omega)) (rfix4_long _ (by rw [List.length_drop]; omega))
        rw [if_neg (by simp)] at E
        have l1 : (r.take 4).length = 4 := by rw [List.length_take]; omega
        have l2 : ((r.drop 4).take 4).length = 4 := by rw [List.length_take, List.length_drop]; omega
        have n1 := Buf.num_lt (r.take 4)
        have n2 := Buf.num_lt ((r.drop 4).take 4)
        have f1 := Buf.fixed_num (r.take 4)
        have f2 := Buf.fixed_num ((r.drop 4).take 4)
        rw [l1] at n1 f1
        rw [l2] at n2 f2
        by_cases hg : fateB { kind := 3, delay := (d.toNat : Int), again := 0, pos := (Buf.num (r.take 4) : Int), bits := (Buf.num ((r.drop 4).take 4) : Int) } = false
        · rw [E, if_pos hg] at h; simp at h
        · rw [if_neg hg] at E
          have hg : fateB { kind := 3, delay := (d.toNat : Int), again := 0, pos := (Buf.num (r.take 4) : Int), bits := (Buf.num ((r.drop 4).take 4) : Int) } = true := by simpa using hg
          rw [E]
          refine ⟨hg, ?_⟩
          rw [fateBytes_3 _ hg rfl]
          dsimp only
          rw [u8of_of (a := a) (by omega), u8of_byte, u64of_nat _ (by omega), u64of_nat _ (by omega), f1, f2]
          have t2 : (r.drop 4).take 4 ++ (r.drop 4).drop 4 = r.drop 4 := List.take_append_drop _ _
          simp only [List.append_assoc, t2, List.take_append_drop]
          rfl
/-- what was written is read, whatever is behind it -/
theorem fate_backr (f : Fate) (r : List UInt8) (h : fateB f = true) (hp : 0 ≤ f.pos) (hp2 : f.pos < 4294967296) (hb : 0 ≤ f.bits) (hb2 : f.bits < 4294967296) : fg (fateBytes f ++ r) = (f, r, 0) := by
  have hr := fateB_range f h
  have hk := fu8of_val f.kind (by omega) (by omega)
  rcases hr with k | k | k | k
  · have h0 := h
    rw [fateB_0 f k] at h0
    simp [withinB] at h0
    obtain ⟨⟨⟨⟨d1, d2⟩, a0⟩, p0⟩, b0⟩ := h0
    have hd := fu8of_val f.delay (by omega) (by omega)
    rw [fateBytes_0 f h k]
    have hk0 : (u8of f.kind).toNat = 0 := by omega
    have e1 := frbyte_cons (u8of f.kind) (u8of f.delay :: r)
    rw [hk0] at e1
    have E := fg_0 e1 (frbyte_cons (u8of f.delay) r)
    rw [if_neg (by simp), hd] at E
    have ef : ({ kind := 0, delay := f.delay, again := 0, pos := 0, bits := 0 } : Fate) = f := fate_eq _ _ k.symm rfl a0.symm p0.symm b0.symm
    rw [ef, h, if_neg (by decide)] at E
    exact E
  · have h0 := h
    rw [fateB_1 f k] at h0
    simp at h0
    obtain ⟨⟨⟨d0, a0⟩, p0⟩, b0⟩ := h0
    rw [fateBytes_1 f h k]
    have hk0 : (u8of f.kind).toNat = 1 := by omega
    have e1 := frbyte_cons (u8of f.kind) r
    rw [hk0] at e1
    have E := fg_1 e1
    have ef : ({ kind := 1, delay := 0, again := 0, pos := 0, bits := 0 } : Fate) = f := fate_eq _ _ k.symm d0.symm a0.symm p0.symm b0.symm
    rw [ef] at E
    exact E
  · have h0 := h
    rw [fateB_2 f k] at h0
    simp [withinB] at h0
    obtain ⟨⟨⟨⟨a1, a2⟩, d1, d2⟩, p0⟩, b0⟩ := h0
    have hd := fu8of_val f.delay (by omega) (by omega)
    have ha := fu8of_val f.again (by omega) (by omega)
    rw [fateBytes_2 f h k]
    have hk0 : (u8of f.kind).toNat = 2 := by omega
    have e1 := frbyte_cons (u8of f.kind) (u8of f.delay :: u8of f.again :: r)
    rw [hk0] at e1
    have E := fg_2 e1 (frbyte_cons (u8of f.delay) (u8of f.again :: r)) (frbyte_cons (u8of f.again) r)
    rw [if_neg (by simp), hd, ha] at E
    have ef : ({ kind := 2, delay := f.delay, again := f.again, pos := 0, bits := 0 } : Fate) = f := fate_eq _ _ k.symm rfl rfl p0.symm b0.symm
    rw [ef, h, if_neg (by decide)] at E
    exact E
  · have h0 := h
    rw [fateB_3 f k] at h0
    simp [withinB] at h0
    obtain ⟨⟨d1, d2⟩, a0⟩ := h0
    have hd := fu8of_val f.delay (by omega) (by omega)
    rw [fateBytes_3 f h k]
    have hk0 : (u8of f.kind).toNat = 3 := by omega
    have e1 := frbyte_cons (u8of f.kind) (u8of f.delay :: (Buf.fixed (u64of f.pos) 4 ++ (Buf.fixed (u64of f.bits) 4 ++ r)))
    rw [hk0] at e1
    have hx := Buf.fixed_get_back (u64of f.pos) 4 (Buf.fixed (u64of f.bits) 4 ++ r) (by decide) (by decide)
    have hy := Buf.fixed_get_back (u64of f.bits) 4 r (by decide) (by decide)
    have vp := fu64of_val f.pos hp (by omega)
    have vb := fu64of_val f.bits hb (by omega)
    rw [Nat.mod_eq_of_lt (by omega)] at hx hy
    have e3 : rfix 4 (Buf.fixed (u64of f.pos) 4 ++ (Buf.fixed (u64of f.bits) 4 ++ r), 0) = (u64of f.pos, Buf.fixed (u64of f.bits) 4 ++ r, 0) := hx
    have e4 : rfix 4 (Buf.fixed (u64of f.bits) 4 ++ r, 0) = (u64of f.bits, r, 0) := hy
    have E := fg_3 e1 (frbyte_cons (u8of f.delay) _) e3 e4
    rw [if_neg (by simp), hd, vp, vb] at E
    have ef : ({ kind := 3, delay := f.delay, again := 0, pos := f.pos, bits := f.bits } : Fate) = f := fate_eq _ _ k.symm rfl a0.symm rfl rfl
    rw [ef, h, if_neg (by decide)] at E
    simpa using E
theorem agFin_ok {p : ActP} {l : List UInt8} {s : List UInt8 × Int} (h : (agFin p l s).2.2 = 0) : s.2 = 0 ∧ actB p l = true ∧ agFin p l s = ((p, l), s.1, 0) := by
  unfold agFin at h ⊢
  split at h
  · rename_i h1; exact absurd h h1
  · split at h
    · cases h
    · rename_i h1 h2
      exact ⟨by simpa using h1, by simpa using h2, by rw [if_neg h1, if_neg h2]⟩
theorem agFin_of {p : ActP} {l r : List UInt8} (h : actB p l = true) : agFin p l (r, 0) = ((p, l), r, 0) := by
  unfold agFin
  rw [if_neg (by simp), if_neg (by rw [h]; decide)]
theorem rnum_e (l : List UInt8) (e : Int) (h : e ≠ 0) : rnum (l, e) = (0, l, e) := rget_bad _ _ (l, e) h
theorem rbytes_e (m : Int) (l : List UInt8) (e : Int) (h : e ≠ 0) : rbytes m (l, e) = ([], l, e) := rget_bad _ _ (l, e) h
/-- an act that was read, and the bytes -/
theorem ag_once (b : List UInt8) (h : (ag b).2.2 = 0) : actB (ag b).1.1 (ag b).1.2 = true ∧ b = actBytes (ag b).1.1 (ag b).1.2 ++ (ag b).2.1 := by
  match b, h with
  | [], h => rw [ag_err frbyte_nil (by decide)] at h; simp at h
  | a :: r, h =>
    have e1 := frbyte_cons a r
    by_cases hk : a.toNat < 1 ∨ 8 < a.toNat
    · rw [ag_kind e1 hk] at h; simp at h
    have hc : a.toNat = 1 ∨ a.toNat = 2 ∨ a.toNat = 3 ∨ a.toNat = 6 ∨ (a.toNat = 4 ∨ a.toNat = 5 ∨ a.toNat = 7 ∨ a.toNat = 8) := by omega
    rcases hc with k | k | k | k | k
    · rw [k] at e1
      cases r with
      | nil => rw [ag_1 e1 frbyte_nil] at h; exact absurd (agFin_ok h).1 (by decide)
      | cons d r =>
        rw [ag_1 e1 (frbyte_cons d r)] at h
        obtain ⟨_, hg, E⟩ := agFin_ok h
        rw [ag_1 e1 (frbyte_cons d r), E]
        refine ⟨hg, ?_⟩
        unfold actBytes
        rw [if_pos rfl]
        dsimp only
        rw [u8of_of (a := a) (by omega), u8of_byte]
        rfl
    · rw [k] at e1
      cases r with
      | nil => rw [ag_2 e1 frbyte_nil (rnum_e [] 3 (by decide))] at h; exact absurd (agFin_ok h).1 (by decide)
      | cons d r =>
        have e3 : rnum (r, 0) = Buf.getNum r := rfl
        obtain ⟨u, r3, e3'⟩ : ∃ u r3, Buf.getNum r = (u, r3, (Buf.getNum r).2.2) := ⟨_, _, rfl⟩
        have E0 := ag_2 e1 (frbyte_cons d r) (e3.trans e3')
        rw [E0] at h
        obtain ⟨h0, hg, E⟩ := agFin_ok h
        rw [E0, E]
        refine ⟨hg, ?_⟩
        have ho := Buf.getNum_once r h0
        rw [e3'] at ho
        dsimp only at ho
        unfold actBytes
        rw [if_neg (by dsimp only; omega), if_neg (by dsimp only; omega), if_pos rfl]
        dsimp only
        rw [u8of_of (a := a) (by omega), u8of_byte, zig_zag]
        rw [List.append_assoc, ← ho]
        rfl
    · rw [k] at e1
      have E0 := ag_3 e1
      by_cases hf : (fg r).2.2 = 0
      · rw [if_neg (by simpa using hf)] at E0
        obtain ⟨hg, ho⟩ := fg_once r hf
        rw [E0]
        refine ⟨?_, ?_⟩
        · unfold actB
          rw [if_neg (by dsimp only; omega), if_pos rfl]
          simp [hg]
        · unfold actBytes
          rw [if_neg (by dsimp only; omega), if_pos rfl]
          dsimp only
          rw [u8of_of (a := a) (by omega), List.append_assoc, ← ho]
          rfl
      · rw [E0, if_pos hf] at h; exact absurd h hf
    · rw [k] at e1
      cases r with
      | nil => rw [ag_6 e1 frbyte_nil (rbytes_e 1024 [] 3 (by decide))] at h; exact absurd (agFin_ok h).1 (by decide)
      | cons d r =>
        have e3 : rbytes 1024 (r, 0) = Buf.getBytes r 1024 := rfl
        obtain ⟨u, r3, e3'⟩ : ∃ u r3, Buf.getBytes r 1024 = (u, r3, (Buf.getBytes r 1024).2.2) := ⟨_, _, rfl⟩
        have E0 := ag_6 e1 (frbyte_cons d r) (e3.trans e3')
        rw [E0] at h
        obtain ⟨h0, hg, E⟩ := agFin_ok h
        rw [E0, E]
        refine ⟨hg, ?_⟩
        have ho := Buf.getBytes_once r 1024 h0
        rw [e3'] at ho
        dsimp only at ho
        unfold actBytes
        rw [if_neg (by dsimp only; omega), if_neg (by dsimp only; omega), if_neg (by dsimp only; omega), if_pos rfl]
        dsimp only
        rw [u8of_of (a := a) (by omega), u8of_byte]
        rw [List.append_assoc, ← ho]
        rfl
    · cases r with
      | nil => rw [ag_n e1 k frbyte_nil] at h; exact absurd (agFin_ok h).1 (by decide)
      | cons d r =>
        rw [ag_n e1 k (frbyte_cons d r)] at h
        obtain ⟨_, hg, E⟩ := agFin_ok h
        rw [ag_n e1 k (frbyte_cons d r), E]
        refine ⟨hg, ?_⟩
        unfold actBytes
        dsimp only
        rw [if_neg (by omega), if_neg (by omega), if_neg (by omega), if_neg (by omega), u8of_byte, u8of_byte]
        rfl
theorem fateEq_z (f : Fate) (h : fateEq f zF = true) : f = zF := by
  simp [fateEq] at h
  obtain ⟨⟨⟨⟨h1, h2⟩, h3⟩, h4⟩, h5⟩ := h
  exact fate_eq _ _ h1 h2 h3 h4 h5
theorem rbyte_of {x : Int} {n : Nat} (h0 : 0 ≤ x) (h : x = (n : Int)) (h1 : n < 256) (r : List UInt8) : rbyte (u8of x :: r, 0) = (n, r, 0) := by
  have e := frbyte_cons (u8of x) r
  have h2 := fu8of_val x h0 (by omega)
  rw [show (u8of x).toNat = n by omega] at e
  exact e
/-- an act that may be is read as it was, whatever is behind it -/
theorem ag_back (p : ActP) (l r : List UInt8) (h : actB p l = true) (hp : 0 ≤ p.f.pos) (hp2 : p.f.pos < 4294967296) (hb : 0 ≤ p.f.bits) (hb2 : p.f.bits < 4294967296) : ag (actBytes p l ++ r) = ((p, l), r, 0) := by
  obtain ⟨kind, node, n, f⟩ := p
  have h0 := h
  unfold actB at h0
  unfold actBytes
  dsimp only at *
  split at h0
  · rename_i k
    subst k
    simp only [Bool.and_eq_true, decide_eq_true_eq, beq_iff_eq] at h0
    obtain ⟨⟨n1, n2⟩, ⟨hn, hf⟩, rfl⟩ := h0
    subst hn
    obtain rfl := fateEq_z f hf
    obtain ⟨m, rfl⟩ := Int.eq_ofNat_of_zero_le (show 0 ≤ n by omega)
    rw [if_pos rfl]
    have E := ag_1 (rbyte_of (x := 1) (n := 1) (by decide) rfl (by decide) (u8of (m : Int) :: r)) (rbyte_of (x := (m : Int)) (n := m) (by omega) rfl (by omega) r)
    rw [agFin_of h] at E
    exact E
  split at h0
  · rename_i _ k
    subst k
    simp only [Bool.and_eq_true, beq_iff_eq] at h0
    obtain ⟨hg, ⟨hn, hm⟩, rfl⟩ := h0
    subst hn hm
    rw [if_neg (by decide), if_pos rfl]
    have E := ag_3 (rbyte_of (x := 3) (n := 3) (by decide) rfl (by decide) (fateBytes f ++ r))
    rw [fate_backr f r hg hp hp2 hb hb2, if_neg (by simp)] at E
    simpa using E
  split at h0
  · rename_i _ _ k
    subst k
    simp only [nodeOk, Bool.and_eq_true, decide_eq_true_eq, beq_iff_eq] at h0
    obtain ⟨⟨⟨n1, n2⟩, m1, m2⟩, hf, rfl⟩ := h0
    obtain rfl := fateEq_z f hf
    obtain ⟨m, rfl⟩ := Int.eq_ofNat_of_zero_le n1
    rw [if_neg (by decide), if_neg (by decide), if_pos rfl]
    have hz := zig_lt n (by omega) (by omega)
    have hx : rnum (Buf.sevens (Buf.zig n) ++ r, 0) = (Buf.zig n, r, 0) := Buf.sevens_get_back (Buf.zig n) r hz
    have E := ag_2 (rbyte_of (x := 2) (n := 2) (by decide) rfl (by decide) (u8of (m : Int) :: (Buf.sevens (Buf.zig n) ++ r))) (rbyte_of (x := (m : Int)) (n := m) (by omega) rfl (by omega) (Buf.sevens (Buf.zig n) ++ r)) hx
    rw [zag_zig, agFin_of h] at E
    simpa using E
  split at h0
  · rename_i _ _ _ k
    subst k
    simp only [nodeOk, Bool.and_eq_true, decide_eq_true_eq, beq_iff_eq] at h0
    obtain ⟨⟨⟨n1, n2⟩, hl⟩, hm, hf⟩ := h0
    subst hm
    obtain rfl := fateEq_z f hf
    obtain ⟨m, rfl⟩ := Int.eq_ofNat_of_zero_le n1
    rw [if_neg (by decide), if_neg (by decide), if_neg (by decide), if_pos rfl]
    have hx : rbytes 1024 (Buf.sevens l.length ++ l ++ r, 0) = (l, r, 0) := Buf.bytes_get_back l r 1024 (by omega) (by omega)
    have E := ag_6 (rbyte_of (x := 6) (n := 6) (by decide) rfl (by decide) (u8of (m : Int) :: (Buf.sevens l.length ++ l ++ r))) (rbyte_of (x := (m : Int)) (n := m) (by omega) rfl (by omega) (Buf.sevens l.length ++ l ++ r)) hx
    rw [agFin_of h] at E
    simpa using E
  split at h0
  · rename_i k1 k3 k2 k6 k
    simp only [nodeOk, Bool.and_eq_true, decide_eq_true_eq, beq_iff_eq] at h0
    obtain ⟨⟨n1, n2⟩, ⟨hm, hf⟩, rfl⟩ := h0
    subst hm
    obtain rfl := fateEq_z f hf
    obtain ⟨m, rfl⟩ := Int.eq_ofNat_of_zero_le n1
    obtain ⟨x, rfl⟩ := Int.eq_ofNat_of_zero_le (show 0 ≤ kind by omega)
    rw [if_neg k1, if_neg k3, if_neg k2, if_neg k6]
    have E := ag_n (rbyte_of (x := (x : Int)) (n := x) (by omega) rfl (by omega) (u8of (m : Int) :: r)) (by omega) (rbyte_of (x := (m : Int)) (n := m) (by omega) rfl (by omega) r)
    rw [agFin_of h] at E
    exact E
  · cases h0
abbrev xaB (x : XA) : List UInt8 := actBytes x.1 x.2
abbrev xaBytes (L : List XA) : List UInt8 := L.flatMap xaB
theorem decL_once : ∀ n b, (decL n b).2.2 = 0 → (decL n b).1.length = n ∧ (∀ x, x ∈ (decL n b).1 → actB x.1 x.2 = true) ∧ b = xaBytes (decL n b).1 ++ (decL n b).2.1
  | 0, b, _ => ⟨rfl, fun x hx => by simp [decL] at hx, by simp [decL, xaBytes]⟩
  | n + 1, b, h => by
    by_cases h1 : (ag b).2.2 = 0
    · by_cases h2 : (decL n (ag b).2.1).2.2 = 0
      · have e : decL (n + 1) b = ((ag b).1 :: (decL n (ag b).2.1).1, (decL n (ag b).2.1).2.1, 0) := by
          show (if (ag b).2.2 ≠ 0 then _ else _) = _
          rw [if_neg (by simpa using h1), if_neg (by simpa using h2)]
        obtain ⟨hl, hall, hb⟩ := decL_once n (ag b).2.1 h2
        obtain ⟨hg, ho⟩ := ag_once b h1
        rw [e]
        refine ⟨by simp [hl], fun x hx => ?_, ?_⟩
        · rcases List.mem_cons.1 hx with rfl | hx
          · exact hg
          · exact hall x hx
        · show b = (xaB (ag b).1 ++ xaBytes (decL n (ag b).2.1).1) ++ _
          rw [List.append_assoc, ← hb]
          exact ho
      · exfalso
        have e : decL (n + 1) b = ([], [], (decL n (ag b).2.1).2.2) := by
          show (if (ag b).2.2 ≠ 0 then _ else _) = _
          rw [if_neg (by simpa using h1), if_pos h2]
        rw [e] at h
        exact h2 h
    · exfalso
      have e : decL (n + 1) b = ([], [], (ag b).2.2) := by
        show (if (ag b).2.2 ≠ 0 then _ else _) = _
        rw [if_pos h1]
      rw [e] at h
      exact h1 h
theorem decL_back (r : List UInt8) : ∀ L : List XA, (∀ x, x ∈ L → actB x.1 x.2 = true ∧ (0 ≤ x.1.f.pos ∧ x.1.f.pos < 4294967296) ∧ 0 ≤ x.1.f.bits ∧ x.1.f.bits < 4294967296) → decL L.length (xaBytes L ++ r) = (L, r, 0)
  | [], _ => by simp [decL, xaBytes]
  | x :: L, h => by
    obtain ⟨h1, ⟨h2, h3⟩, h4, h5⟩ := h x (by simp)
    have hb : ag (xaBytes (x :: L) ++ r) = (x, xaBytes L ++ r, 0) := by
      show ag ((actBytes x.1 x.2 ++ xaBytes L) ++ r) = _
      rw [List.append_assoc]
      exact ag_back x.1 x.2 _ h1 h2 h3 h4 h5
    have ih := decL_back r L (fun y hy => h y (by simp [hy]))
    show (if (ag (xaBytes (x :: L) ++ r)).2.2 ≠ 0 then _ else _) = _
    rw [hb, if_neg (by simp)]
    dsimp only
    rw [ih, if_neg (by simp)]
theorem xa_flat (L : List AB) : xaBytes (L.map xa) = encBytes L := by
  unfold encBytes
  induction L with
  | nil => rfl
  | cons x L ih => rw [List.map_cons]; show xaB (xa x) ++ xaBytes (L.map xa) = _; rw [ih]; rfl
/-- what was decoded has just those bytes -/
theorem dec_once (b : List UInt8) (L : List AB) (h : decA b = (L.map xa, 0)) : encR L = (b, 0) := by
  unfold decA at h
  split at h
  · rename_i h1; exact absurd (congrArg Prod.snd h) h1
  split at h
  · simp at h
  split at h
  · rename_i h1; exact absurd (congrArg Prod.snd h) h1
  split at h
  · simp at h
  rename_i h0 h1 h2 h3
  have h0 : (Buf.getNum b).2.2 = 0 := by simpa using h0
  have h2 : (decL (Buf.getNum b).1 (Buf.getNum b).2.1).2.2 = 0 := by simpa using h2
  have h3 : (decL (Buf.getNum b).1 (Buf.getNum b).2.1).2.1 = [] := by simpa using h3
  obtain ⟨hl, hall, hb⟩ := decL_once _ _ h2
  have hL : (decL (Buf.getNum b).1 (Buf.getNum b).2.1).1 = L.map xa := congrArg Prod.fst h
  rw [hL, List.length_map] at hl
  rw [hL] at hall
  rw [hL, h3, List.append_nil, xa_flat] at hb
  have ho := Buf.getNum_once b h0
  rw [hb, ← hl] at ho
  unfold encR
  rw [if_neg (by omega), if_pos]
  · rw [← ho]
  · refine List.all_eq_true.2 fun x hx => ?_
    exact hall (xa x) (List.mem_map.2 ⟨x, hx, rfl⟩)
/-- what was encoded is decoded as it was -/
theorem enc_back (L : List AB) (b : List UInt8) (h : encR L = (b, 0)) (hf : ∀ x, x ∈ L → (0 ≤ x.p.f.pos ∧ x.p.f.pos < 4294967296) ∧ 0 ≤ x.p.f.bits ∧ x.p.f.bits < 4294967296) : decA b = (L.map xa, 0) := by
  unfold encR at h
  split at h
  · cases h
  split at h
  · rename_i hl hg
    obtain ⟨rfl, -⟩ := Prod.mk.injEq .. ▸ h
    have hn := Buf.sevens_get_back L.length (encBytes L) (by omega)
    have hd := decL_back [] (L.map xa) (fun x hx => by
      obtain ⟨y, hy, rfl⟩ := List.mem_map.1 hx
      exact ⟨List.all_eq_true.1 hg y hy, hf y hy⟩)
    rw [List.length_map, xa_flat, List.append_nil] at hd
    unfold decA
    rw [hn]
    dsimp only
    rw [if_neg (by simp), if_neg (by omega), hd]
    dsimp only
    rw [if_neg (by simp), if_neg (by simp)]
  · cases h
end Go.Proofs.Ytcghgahohmabnaa
