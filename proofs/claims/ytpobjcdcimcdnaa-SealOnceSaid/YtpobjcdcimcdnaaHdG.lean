/- The walks of head.Get. -/
import Derived.Test.YtpobjcdcimcdnaaRdX
import Derived.Test.YtpobjcdcimcdnaaFew
namespace Go.Proofs.Ytpobjcdcimcdnaa
open Go.RowKit
def kdE (s : List UInt8 × Int) : Int := if (rbyte s).2.2 ≠ 0 then (rbyte s).2.2 else if knownB ((rbyte s).1 : Int) = true then 0 else 7
def kdV (s : List UInt8 × Int) : Int := if kdE s = 0 then ((rbyte s).1 : Int) else 0
/-- a key, as a reader reads it: what is wrong -/
def nmE (s : List UInt8 × Int) : Int :=
  if (rnum s).2.2 ≠ 0 then (rnum s).2.2 else if 1152921504606846976 < (rnum s).1 then 2 else if (rbyte (rnum s).2).2.2 ≠ 0 then (rbyte (rnum s).2).2.2
  else if 64 ≤ (rbyte (rnum s).2).1 then 8 else (rfix 4 (rbyte (rnum s).2).2).2.2
def nmS (s : List UInt8 × Int) : List UInt8 × Int := (rfix 4 (rbyte (rnum s).2).2).2
def nmT (s : List UInt8 × Int) : Int := ((rnum s).1 : Int)
def nmF (s : List UInt8 × Int) : Int := ((rbyte (rnum s).2).1 : Int)
def nmQ (s : List UInt8 × Int) : Int := ((rfix 4 (rbyte (rnum s).2).2).1 : Int)
def hdP (k h t f q : Int) : Pkt := { kind := k, t := t, frm := f, seq := q, hops := h, no := 0, to := 0, index := 0, total := 0, stamp := 0, value := 0 }
/-- a head, as a reader reads it: the packet, the rest, what is wrong -/
def hg (b : List UInt8) : Pkt × List UInt8 × Int :=
  if kdE (b, 0) ≠ 0 then (noP, [], kdE (b, 0))
  else if floodB (kdV (b, 0)) = false then (hdP (kdV (b, 0)) 0 0 0 0, (rbyte (b, 0)).2.1, 0)
  else if (rbyte (rbyte (b, 0)).2).2.2 ≠ 0 then (noP, [], (rbyte (rbyte (b, 0)).2).2.2)
  else if hopsB ((rbyte (rbyte (b, 0)).2).1 : Int) = false then (noP, [], 9)
  else if nmE (rbyte (rbyte (b, 0)).2).2 ≠ 0 then (noP, [], nmE (rbyte (rbyte (b, 0)).2).2)
  else (hdP (kdV (b, 0)) ((rbyte (rbyte (b, 0)).2).1 : Int) (nmT (rbyte (rbyte (b, 0)).2).2) (nmF (rbyte (rbyte (b, 0)).2).2) (nmQ (rbyte (rbyte (b, 0)).2).2), (nmS (rbyte (rbyte (b, 0)).2).2).1, 0)
theorem rfix4_lt (s : List UInt8 × Int) : (rfix 4 s).1 < 4294967296 := by
  obtain ⟨b, e⟩ := s
  by_cases he : e = 0
  · subst he
    show (Buf.getFixed b 4).1 < _
    unfold Buf.getFixed
    rw [if_neg (by omega)]
    split
    · decide
    · have h := Buf.num_lt (b.take (4 : Int).toNat)
      have h2 : (b.take (4 : Int).toNat).length ≤ 4 := by rw [List.length_take]; exact Nat.min_le_left _ _
      have h3 := Nat.pow_le_pow_right (show 0 < 256 by decide) h2
      dsimp only
      omega
  · rw [show rfix 4 (b, e) = (0, b, e) from rget_bad _ _ (b, e) he]; exact (by decide : (0 : Nat) < 4294967296)
section
variable {a k : UInt8} {r rest left : List UInt8} {x y : Nat} {e : Int}
theorem kdE_cons : kdE (a :: r, 0) = if knownB (a.toNat : Int) = true then 0 else 7 := by
  unfold kdE
  rw [rbyte_cons, if_neg (by simp)]
theorem kdV_cons (h : knownB (a.toNat : Int) = true) : kdV (a :: r, 0) = (a.toNat : Int) := by
  unfold kdV
  rw [kdE_cons, if_pos h, if_pos rfl, rbyte_cons]
theorem hg_nil : hg [] = (noP, [], 3) := rfl
theorem hg_kind (h : knownB (a.toNat : Int) = false) : hg (a :: r) = (noP, [], 7) := by
  have e : kdE (a :: r, 0) = 7 := by rw [kdE_cons, h]; rfl
  unfold hg
  rw [e, if_pos (by decide)]
theorem hg_bare (h : knownB (a.toNat : Int) = true) (hf : floodB (a.toNat : Int) = false) : hg (a :: r) = (hdP (a.toNat : Int) 0 0 0 0, r, 0) := by
  unfold hg
  rw [kdE_cons, if_pos h, if_neg (by simp), kdV_cons h, if_pos hf, rbyte_cons]
theorem hg_one (h : knownB (a.toNat : Int) = true) (hf : floodB (a.toNat : Int) = true) : hg [a] = (noP, [], 3) := by
  unfold hg
  rw [kdE_cons, if_pos h, if_neg (by simp), kdV_cons h, if_neg (by rw [hf]; simp), rbyte_cons]
  rfl
theorem hg_hops (h : knownB (a.toNat : Int) = true) (hf : floodB (a.toNat : Int) = true) (hh : hopsB (k.toNat : Int) = false) : hg (a :: k :: r) = (noP, [], 9) := by
  unfold hg
  rw [kdE_cons, if_pos h, if_neg (by simp), kdV_cons h, if_neg (by rw [hf]; simp), rbyte_cons]
  dsimp only
  rw [rbyte_cons, if_neg (by simp), if_pos hh]
theorem hg_name (h : knownB (a.toNat : Int) = true) (hf : floodB (a.toNat : Int) = true) (hh : hopsB (k.toNat : Int) = true) : hg (a :: k :: r) =
    if nmE (r, 0) ≠ 0 then (noP, [], nmE (r, 0)) else (hdP (a.toNat : Int) (k.toNat : Int) (nmT (r, 0)) (nmF (r, 0)) (nmQ (r, 0)), (nmS (r, 0)).1, 0) := by
  unfold hg
  rw [kdE_cons, if_pos h, if_neg (by simp), kdV_cons h, if_neg (by rw [hf]; simp), rbyte_cons]
  dsimp only
  rw [rbyte_cons, if_neg (by simp), if_neg (by rw [hh]; simp)]
theorem nmE_num (h : Buf.getNum r = (x, rest, e)) (he : e ≠ 0) : nmE (r, 0) = e := by
  unfold nmE
  rw [show rnum (r, 0) = (x, rest, e) from h, if_pos he]
theorem nmE_big (h : Buf.getNum r = (x, rest, 0)) (hx : 1152921504606846976 < x) : nmE (r, 0) = 2 := by
  unfold nmE
  rw [show rnum (r, 0) = (x, rest, 0) from h, if_neg (by simp), if_pos hx]
theorem nmE_none (h : Buf.getNum r = (x, [], 0)) (hx : x ≤ 1152921504606846976) : nmE (r, 0) = 3 := by
  unfold nmE
  rw [show rnum (r, 0) = (x, [], 0) from h, if_neg (by simp), if_neg (by dsimp only; omega)]
  rfl
theorem nmE_node (h : Buf.getNum r = (x, k :: rest, 0)) (hx : x ≤ 1152921504606846976) (hk : 63 < k.toNat) : nmE (r, 0) = 8 := by
  unfold nmE
  rw [show rnum (r, 0) = (x, k :: rest, 0) from h, if_neg (by simp), if_neg (by dsimp only; omega)]
  dsimp only
  rw [rbyte_cons, if_neg (by simp), if_pos (by dsimp only; omega)]
theorem nm_fix (h : Buf.getNum r = (x, k :: rest, 0)) (hx : x ≤ 1152921504606846976) (hk : k.toNat ≤ 63) (h4 : Buf.getFixed rest 4 = (y, left, e)) : nmE (r, 0) = e ∧ nmT (r, 0) = x ∧ nmF (r, 0) = (k.toNat : Int) ∧ nmQ (r, 0) = y ∧ nmS (r, 0) = (left, e) := by
  have hn : rnum (r, 0) = (x, k :: rest, 0) := h
  have hf : rfix 4 (rest, 0) = (y, left, e) := h4
  refine ⟨?_, ?_, ?_, ?_, ?_⟩
  · unfold nmE
    rw [hn, if_neg (by simp), if_neg (by dsimp only; omega)]
    dsimp only
    rw [rbyte_cons, if_neg (by simp), if_neg (by dsimp only; omega)]
    dsimp only
    rw [hf]
  · unfold nmT; rw [hn]
  · unfold nmF; rw [hn]; dsimp only; rw [rbyte_cons]
  · unfold nmQ; rw [hn]; dsimp only; rw [rbyte_cons]; dsimp only; rw [hf]
  · unfold nmS; rw [hn]; dsimp only; rw [rbyte_cons]; dsimp only; rw [hf]
end
/-- the head of a packet, as the document says -/
def headBytes (p : Pkt) : List UInt8 := if floodB p.kind then ((([u8of p.kind] ++ [u8of p.hops]) ++ Buf.sevens (u64of p.t)) ++ [u8of p.frm]) ++ Buf.fixed (u64of p.seq) 4 else [u8of p.kind]
theorem headBytes_len (p : Pkt) : (headBytes p).length ≤ 17 := by
  have h := Buf.sevens_len (u64of p.t)
  unfold headBytes
  split
  · simp only [List.length_append, List.length_cons, List.length_nil, Buf.fixed_length]; omega
  · simp
theorem headS_ok (most : Int) (b : List UInt8) (p : Pkt) (h : (b.length : Int) + 17 ≤ most) : headS most (0, b) p = (0, b ++ headBytes p) := by
  have hn := Buf.sevens_len (u64of p.t)
  unfold headS headBytes
  split
  · rw [wput_ok most b _ (by simp; omega), wput_ok most _ _ (by simp; omega), wput_ok most _ _ (by simp only [List.length_append, List.length_cons, List.length_nil]; omega), wput_ok most _ _ (by simp only [List.length_append, List.length_cons, List.length_nil]; omega)]
    exact (wfixed_ok most _ _ 4 (by decide) (by decide) (by simp only [List.length_append, List.length_cons, List.length_nil]; omega)).trans (by simp only [List.append_assoc])
  · rw [wput_ok most b _ (by simp; omega)]
theorem u64of_val (x : Int) (h0 : 0 ≤ x) (h1 : x < 18446744073709551616) : ((u64of x : Nat) : Int) = x := by rw [← u64_of, IntKind.wrap_u64]; omega
/-- what was written is read -/
theorem head_back (p : Pkt) (hq : 0 ≤ p.seq) (hq2 : p.seq < 4294967296) (h : headB p = true) (r : List UInt8) : hg (headBytes p ++ r) = (base p, r, 0) := by
  unfold headB at h
  unfold headBytes
  by_cases hf : floodB p.kind = true
  · rw [if_pos hf] at h ⊢
    have hk : 3 ≤ p.kind ∧ p.kind ≤ 6 := by simpa [floodB] using hf
    simp only [Bool.and_eq_true, keyB, hopsB, decide_eq_true_eq] at h
    obtain ⟨⟨h1, h2⟩, ⟨⟨h3, h4⟩, h5⟩, h6⟩ := h
    have ek := u8of_val p.kind (by omega) (by omega)
    have eh := u8of_val p.hops (by omega) (by omega)
    have ef := u8of_val p.frm (by omega) (by omega)
    have et := u64of_val p.t (by omega) (by omega)
    have eq := u64of_val p.seq (by omega) (by omega)
    have hl := u64of_lt p.t
    rw [show ([u8of p.kind] ++ [u8of p.hops] ++ Buf.sevens (u64of p.t) ++ [u8of p.frm] ++ Buf.fixed (u64of p.seq) 4 ++ r) = u8of p.kind :: u8of p.hops :: (Buf.sevens (u64of p.t) ++ (u8of p.frm :: (Buf.fixed (u64of p.seq) 4 ++ r))) by simp]
    have hn := Buf.sevens_get_back (u64of p.t) (u8of p.frm :: (Buf.fixed (u64of p.seq) 4 ++ r)) hl
    have hx := Buf.fixed_get_back (u64of p.seq) 4 r (by decide) (by decide)
    rw [Nat.mod_eq_of_lt (by omega)] at hx
    have hnm := nm_fix (x := u64of p.t) (k := u8of p.frm) (y := u64of p.seq) (left := r) (e := 0) hn (by omega) (by omega) hx
    rw [hg_name (by rw [ek]; simp [knownB]; omega) (by rw [ek]; exact hf) (by rw [eh]; simp [hopsB]; omega)]
    obtain ⟨n1, n2, n3, n4, n5⟩ := hnm
    rw [n1, if_neg (by simp), n2, n3, n4, n5, ek, eh, et, ef, eq]
    rfl
  · have hf : floodB p.kind = false := by simpa using hf
    rw [if_neg (by rw [hf]; decide)] at h ⊢
    simp only [Bool.and_eq_true, knownB, beq_iff_eq, decide_eq_true_eq] at h
    obtain ⟨⟨⟨h1, h2⟩, h3⟩, h4⟩ := h
    have ek := u8of_val p.kind (by omega) (by omega)
    have hk : p.t = 0 ∧ p.frm = 0 ∧ p.seq = 0 := by simpa [noKey, and_assoc] using h4
    obtain ⟨k1, k2, k3⟩ := hk
    show hg (u8of p.kind :: r) = _
    rw [hg_bare (by rw [ek]; simp [knownB]; omega) (by rw [ek]; exact hf), ek]
    unfold base hdP
    rw [k1, k2, k3, h3]
set_option maxRecDepth 100000 in
set_option maxHeartbeats 1000000 in
theorem kind_any (N pr : Nat) (s : List UInt8 × Int) (w : World) (h : Rd w N pr s) :
    Calls Try.prog 109 #[.pointer (some ⟨pr, 0, none⟩)] w fun r w' => r = .returned (.tuple #[.int .i64 (kdV s), .int .i64 (kdE s)]) ∧ Rd w' N pr (rbyte s).2 ∧ Kept w.heap.size [pr] w w' := by
  have hF := hide (rbyte_any N pr s w h)
  have hx := rbyte_lt s
  have hE := hide (fun (W : World) h => err_any N pr (rbyte s).2 W h)
  have HK := hide (fun W => known_any ((rbyte s).1 : Int) W)
  have HV := hide (show kdE s = if (rbyte s).2.2 ≠ 0 then (rbyte s).2.2 else if knownB ((rbyte s).1 : Int) = true then 0 else 7 from rfl)
  have HW := hide (show kdV s = if kdE s = 0 then ((rbyte s).1 : Int) else 0 from rfl)
  generalize kdV s = V at *
  generalize kdE s = E at *
  generalize rbyte s = T at *
  obtain ⟨x, r, e1⟩ := T
  dsimp only at *
  generalize knownB (x : Int) = kb at *
  go_enter Try.func109, Try.ntmps109
  go_wp2_with fail
  refine hF.out.mono ?_
  rintro r w1 ⟨rfl, h1, h2⟩
  go_wp2_with fail
  refine (hE.out _ h1).mono ?_
  rintro r w' ⟨rfl, rfl⟩
  by_cases he : e1 = 0
  · subst he
    go_wp2_with fail
    refine (HK.out _).mono ?_
    rintro r w' ⟨rfl, rfl⟩
    cases kb with
    | true =>
      obtain rfl : E = 0 := by have := HV.out; simpa using this
      obtain rfl : V = x := by have := HW.out; simpa using this
      go_wp2
      go_ret2
      exact ⟨rfl, h1, h2⟩
    | false =>
      obtain rfl : E = 7 := by have := HV.out; simpa using this
      obtain rfl : V = 0 := by have := HW.out; simpa using this
      go_wp2
      go_ret2
      exact ⟨rfl, h1, h2⟩
  · obtain rfl : E = e1 := by have := HV.out; rwa [if_pos he] at this
    obtain rfl : V = 0 := by have := HW.out; rwa [if_neg he] at this
    have he' : (E != 0) = true := by simpa using he
    clear he
    go_wp2
    go_ret2
    exact ⟨rfl, h1, h2⟩
/-- what name leaves -/
def NameR (w w' : World) (r : Ending) (N pr : Nat) (s : List UInt8 × Int) : Prop :=
  ∃ t f q, r = .returned (.tuple #[kv t f q, .int .i64 (nmE s)]) ∧ (nmE s = 0 → t = nmT s ∧ f = nmF s ∧ q = nmQ s ∧ Rd w' N pr (nmS s)) ∧ Kept w.heap.size [pr] w w'
theorem namer_bad {w w' : World} {N pr : Nat} {s : List UInt8 × Int} {t f q : Int} {e : Int} (he : nmE s = e) (hne : e ≠ 0) (hk : Kept w.heap.size [pr] w w') :
    NameR w w' (.returned (.tuple #[kv t f q, .int .i64 e])) N pr s := ⟨t, f, q, by rw [he], fun h => absurd (he ▸ h) hne, hk⟩
theorem namer_last {w w' : World} {N pr : Nat} {s : List UInt8 × Int} {e : Int} (he : nmE s = e) (hr : Rd w' N pr (nmS s)) (hk : Kept w.heap.size [pr] w w') :
    NameR w w' (.returned (.tuple #[kv (nmT s) (nmF s) (nmQ s), .int .i64 e])) N pr s := ⟨_, _, _, by rw [he], fun _ => ⟨rfl, rfl, rfl, hr⟩, hk⟩
set_option maxRecDepth 100000 in
set_option maxHeartbeats 2000000 in
theorem name_of (N pr : Nat) (s : List UInt8 × Int) (w : World) (h : Rd w N pr s) :
    Calls Try.prog 110 #[.pointer (some ⟨pr, 0, none⟩)] w fun r w' => NameR w w' r N pr s := by
  have hpr : pr < w.heap.size := Nat.lt_of_lt_of_le h.lt h.size
  have hN := h.size
  have hF1 := hide (fun W h => rnum_any N pr s W h)
  have hF2 := hide (fun W h => rbyte_any N pr (rnum s).2 W h)
  have hF3 := hide (fun W h => rfix_any N pr (rbyte (rnum s).2).2 4 W h)
  have hE1 := hide (fun (W : World) h => err_any N pr (rnum s).2 W h)
  have hE2 := hide (fun (W : World) h => err_any N pr (rbyte (rnum s).2).2 W h)
  have hE3 := hide (fun (W : World) h => err_any N pr (rfix 4 (rbyte (rnum s).2).2).2 W h)
  have HE := hide (show nmE s = if (rnum s).2.2 ≠ 0 then (rnum s).2.2 else if 1152921504606846976 < (rnum s).1 then 2 else if (rbyte (rnum s).2).2.2 ≠ 0 then (rbyte (rnum s).2).2.2
    else if 64 ≤ (rbyte (rnum s).2).1 then 8 else (rfix 4 (rbyte (rnum s).2).2).2.2 from rfl)
  have HL := hide (fun (w w' : World) (e : Int) => namer_last (w := w) (w' := w') (N := N) (pr := pr) (s := s) (e := e))
  rw [show nmT s = ((rnum s).1 : Int) from rfl, show nmF s = ((rbyte (rnum s).2).1 : Int) from rfl, show nmQ s = ((rfix 4 (rbyte (rnum s).2).2).1 : Int) from rfl, show nmS s = (rfix 4 (rbyte (rnum s).2).2).2 from rfl] at HL
  have b1 := rbyte_lt (rnum s).2
  have b2 := rfix4_lt (rbyte (rnum s).2).2
  generalize rfix 4 (rbyte (rnum s).2).2 = T3 at *
  generalize rbyte (rnum s).2 = T2 at *
  generalize rnum s = T1 at *
  obtain ⟨x1, r1, e1⟩ := T1
  obtain ⟨x2, r2, e2⟩ := T2
  obtain ⟨x3, r3, e3⟩ := T3
  dsimp only at *
  go_enter Try.func110, Try.ntmps110
  go_wp2_with fail
  refine (hF1.out _ (h.grow ((Grow.refl w).alloc _))).mono ?_
  rintro r w1 ⟨rfl, hr1, hb1⟩
  obtain ⟨q0, hg1⟩ := peelK1 hb1 (by simp; omega)
  have q0_ := hide q0
  clear q0
  have q0 := q0_
  clear q0_
  have HK1 := hide (show Kept w.heap.size [pr] w w1 from hg1)
  have hsz1 : w.heap.size ≤ w1.heap.size := HK1.out.size
  have hq1 : w.heap.size ≤ w1.heap.size := hg1.size
  have HS1 := hide hg1
  clear hb1 hg1
  obtain ⟨cq0, fq0, lq0⟩ := (show Box w1 _ _ from q0.out).rules
  go_wp2_with fail
  refine (hE1.out _ hr1).mono ?_
  rintro r w' ⟨rfl, rfl⟩
  by_cases he1 : e1 = 0
  · subst he1
    rw [if_neg (by simp)] at HE
    by_cases hx : 1152921504606846976 < x1
    · rw [if_pos hx] at HE
      go_wp2
      refine bodyPost_ret (v := .tuple #[kv 0 0 0, .int .i64 2]) (by simp [results, Try.results110, go_sem, cq0]) rfl ?_
      refine namer_bad HE.out (by first | exact hne.out | decide) ?_
      repeat (with_reducible refine Kept.setCell ?_ (.inl (by simp; try omega)) _)
      exact HK1.out
    · rw [if_neg hx] at HE
      have hx2 : x1 ≤ 1152921504606846976 := by omega
      clear hx
      go_wp2_with fail
      refine (hF2.out _ hr1).mono ?_
      rintro r w2 ⟨rfl, hr2, hb2⟩
      clear cq0 fq0 lq0
      have hg2 := hb2
      have q0_ := hide ((show Box w1 _ _ from q0.out).kept hg2 (by simp; omega))
      clear q0
      have q0 := q0_
      clear q0_
      have HK2 := hide (Kept.at_ (show Kept w.heap.size [pr] w w1 from HK1.out) hg2)
      clear HK1
      have hsz2 : w.heap.size ≤ w2.heap.size := HK2.out.size
      have hq2 : w1.heap.size ≤ w2.heap.size := hg2.size
      have HS2 := hide hg2
      clear hb2 hg2
      obtain ⟨cq0, fq0, lq0⟩ := (show Box w2 _ _ from q0.out).rules
      go_wp2_with fail
      refine (hE2.out _ hr2).mono ?_
      rintro r w' ⟨rfl, rfl⟩
      by_cases he2 : e2 = 0
      · subst he2
        rw [if_neg (by simp)] at HE
        by_cases hf : 64 ≤ x2
        · rw [if_pos hf] at HE
          go_wp2
          refine bodyPost_ret (v := .tuple #[kv 0 0 0, .int .i64 8]) (by simp [results, Try.results110, go_sem, cq0]) rfl ?_
          refine namer_bad HE.out (by first | exact hne.out | decide) ?_
          repeat (with_reducible refine Kept.setCell ?_ (.inl (by simp; try omega)) _)
          exact HK2.out
        · rw [if_neg hf] at HE
          have hf2 : x2 < 64 := by omega
          clear hf
          go_wp2_with fail
          refine (hF3.out _ hr2).mono ?_
          rintro r w3 ⟨rfl, hr3, hb3⟩
          clear cq0 fq0 lq0
          have hg3 := hb3
          have q0_ := hide ((show Box w2 _ _ from q0.out).kept hg3 (by simp; omega))
          clear q0
          have q0 := q0_
          clear q0_
          have HK3 := hide (Kept.at_ (show Kept w.heap.size [pr] w w2 from HK2.out) hg3)
          clear HK2
          have hsz3 : w.heap.size ≤ w3.heap.size := HK3.out.size
          have hq3 : w2.heap.size ≤ w3.heap.size := hg3.size
          have HS3 := hide hg3
          clear hb3 hg3
          obtain ⟨cq0, fq0, lq0⟩ := (show Box w3 _ _ from q0.out).rules
          go_wp2_with fail
          refine (hE3.out _ hr3).mono ?_
          rintro r w' ⟨rfl, rfl⟩
          go_wp2
          refine bodyPost_ret (v := .tuple #[kv x1 x2 x3, .int .i64 e3]) (by simp [results, Try.results110, go_sem, cq0]) rfl ?_
          refine HL.out _ _ _ HE.out ?_ ?_
          · repeat (with_reducible refine Rd.setOther ?_ (by simp; omega) _)
            exact hr3
          · repeat (with_reducible refine Kept.setCell ?_ (.inl (by simp; try omega)) _)
            exact HK3.out
      · have hne := hide (show e2 ≠ 0 from he2)
        have he2' : (e2 != 0) = true := by simpa using he2
        rw [if_pos he2] at HE
        clear he2
        go_wp2
        refine bodyPost_ret (v := .tuple #[kv 0 0 0, .int .i64 e2]) (by simp [results, Try.results110, go_sem, cq0]) rfl ?_
        refine namer_bad HE.out (by first | exact hne.out | decide) ?_
        repeat (with_reducible refine Kept.setCell ?_ (.inl (by simp; try omega)) _)
        exact HK2.out
  · have hne := hide (show e1 ≠ 0 from he1)
    have he1' : (e1 != 0) = true := by simpa using he1
    rw [if_pos he1] at HE
    clear he1
    go_wp2
    refine bodyPost_ret (v := .tuple #[kv 0 0 0, .int .i64 e1]) (by simp [results, Try.results110, go_sem, cq0]) rfl ?_
    refine namer_bad HE.out (by first | exact hne.out | decide) ?_
    repeat (with_reducible refine Kept.setCell ?_ (.inl (by simp; try omega)) _)
    exact HK1.out
/-- what head.Get leaves -/
def GotH (w w' : World) (r : Ending) (N pr : Nat) (q : Pkt) (rest : List UInt8) (e : Int) : Prop := r = .returned (.tuple #[pv q none 0 0, .int .i64 e]) ∧ (e = 0 → Rd w' N pr (rest, 0)) ∧ Kept w.heap.size [pr] w w'
theorem goth_bad {w w' : World} {N pr : Nat} {rest : List UInt8} {e : Int} (he : e ≠ 0) (hk : Kept w.heap.size [pr] w w') : GotH w w' (.returned (.tuple #[pv noP none 0 0, .int .i64 e])) N pr noP rest e := ⟨rfl, fun h => absurd h he, hk⟩
theorem goth_ok {w w' : World} {N pr : Nat} {rest : List UInt8} {q : Pkt} (hr : Rd w' N pr (rest, 0)) (hk : Kept w.heap.size [pr] w w') : GotH w w' (.returned (.tuple #[pv q none 0 0, .int .i64 0])) N pr q rest 0 := ⟨rfl, fun _ => hr, hk⟩
theorem nmS_ok (s : List UInt8 × Int) (h : nmE s = 0) : (nmS s).2 = 0 := by
  unfold nmE at h
  by_cases h1 : (rnum s).2.2 ≠ 0
  · rw [if_pos h1] at h; exact absurd h h1
  · rw [if_neg h1] at h
    split at h
    · cases h
    · split at h
      · contradiction
      · split at h
        · cases h
        · exact h
theorem rbyte_e (s : List UInt8 × Int) (h : kdE s = 0) : (rbyte s).2.2 = 0 := by
  unfold kdE at h
  by_cases h1 : (rbyte s).2.2 ≠ 0
  · rw [if_pos h1] at h; exact absurd h h1
  · exact Classical.not_not.1 h1
set_option maxRecDepth 100000 in
set_option maxHeartbeats 2000000 in
theorem headget_any (N pr : Nat) (b : List UInt8) (w : World) (h : Rd w N pr (b, 0)) :
    Calls Try.prog 49 #[.pointer (some ⟨pr, 0, none⟩)] w fun r w' => GotH w w' r N pr (hg b).1 (hg b).2.1 (hg b).2.2 := by
  have hpr : pr < w.heap.size := Nat.lt_of_lt_of_le h.lt h.size
  have hN := h.size
  have hK := hide (fun W h => kind_any N pr (b, 0) W h)
  have hF2 := hide (fun W h => rbyte_any N pr (rbyte (b, 0)).2 W h)
  have hE2 := hide (fun (W : World) h => err_any N pr (rbyte (rbyte (b, 0)).2).2 W h)
  have hNm := hide (fun W h => name_of N pr (rbyte (rbyte (b, 0)).2).2 W h)
  have hNe := hide (nmS_ok (rbyte (rbyte (b, 0)).2).2)
  have hKe := hide (rbyte_e (b, 0))
  have b2 := rbyte_lt (rbyte (b, 0)).2
  have HQ := hide (show hg b = if kdE (b, 0) ≠ 0 then (noP, [], kdE (b, 0)) else if floodB (kdV (b, 0)) = false then (hdP (kdV (b, 0)) 0 0 0 0, (rbyte (b, 0)).2.1, 0)
    else if (rbyte (rbyte (b, 0)).2).2.2 ≠ 0 then (noP, [], (rbyte (rbyte (b, 0)).2).2.2) else if hopsB ((rbyte (rbyte (b, 0)).2).1 : Int) = false then (noP, [], 9)
    else if nmE (rbyte (rbyte (b, 0)).2).2 ≠ 0 then (noP, [], nmE (rbyte (rbyte (b, 0)).2).2)
    else (hdP (kdV (b, 0)) ((rbyte (rbyte (b, 0)).2).1 : Int) (nmT (rbyte (rbyte (b, 0)).2).2) (nmF (rbyte (rbyte (b, 0)).2).2) (nmQ (rbyte (rbyte (b, 0)).2).2), (nmS (rbyte (rbyte (b, 0)).2).2).1, 0) from rfl)
  generalize hg b = Q at *
  unfold NameR at hNm
  generalize nmE (rbyte (rbyte (b, 0)).2).2 = E3 at *
  generalize nmT (rbyte (rbyte (b, 0)).2).2 = nt at *
  generalize nmF (rbyte (rbyte (b, 0)).2).2 = nf at *
  generalize nmQ (rbyte (rbyte (b, 0)).2).2 = nq at *
  generalize nmS (rbyte (rbyte (b, 0)).2).2 = S3 at *
  generalize rbyte (rbyte (b, 0)).2 = T2 at *
  generalize kdE (b, 0) = E1 at *
  generalize kdV (b, 0) = kd at *
  generalize rbyte (b, 0) = T1 at *
  obtain ⟨x1, r1, e1⟩ := T1
  obtain ⟨x2, r2, e2⟩ := T2
  obtain ⟨r3, e3⟩ := S3
  dsimp only at *
  have HF := hide (fun W => flood_any kd W)
  have HH := hide (fun W => hops_any (x2 : Int) W)
  generalize floodB kd = fb at *
  generalize hopsB (x2 : Int) = hb at *
  go_enter Try.func49, Try.ntmps49
  go_wp2_with fail
  refine (hK.out _ (h.grow ((Grow.refl w).alloc _))).mono ?_
  rintro r w1 ⟨rfl, hr1, hb1⟩
  obtain ⟨q0, hg1⟩ := peelK1 hb1 (by simp; omega)
  have q0_ := hide q0
  clear q0
  have q0 := q0_
  clear q0_
  have HK1 := hide (show Kept w.heap.size [pr] w w1 from hg1)
  have hsz1 : w.heap.size ≤ w1.heap.size := HK1.out.size
  have hq1 : w.heap.size ≤ w1.heap.size := hg1.size
  have HS1 := hide hg1
  clear hb1 hg1
  obtain ⟨cq0, fq0, lq0⟩ := (show Box w1 _ _ from q0.out).rules
  by_cases hk : E1 = 0
  · obtain rfl := hKe.out hk
    subst hk
    rw [if_neg (by simp)] at HQ
    go_wp2_with fail
    have hlq := lq0
    have hg1 := HK1.out.size
    generalize hW2 : World.alloc w1 _ = w2
    have hb2 := Grow.of_eq hW2
    have hr2 := hr1.grow (Grow.trans ((Grow.refl w1).alloc _) hb2)
    clear hW2
    clear cq0 fq0 lq0
    obtain ⟨p0, hg2'⟩ := peel1 hb2
    have hg2 := Kept.of_below hg2' [pr]
    clear hg2'
    have q0_ := hide ((show Box w1 _ _ from q0.out).kept hg2 (by simp; omega))
    clear q0
    have q0 := q0_
    clear q0_
    have p0_ := hide p0
    clear p0
    have p0 := p0_
    clear p0_
    have HK2 := hide (Kept.at_ (show Kept w.heap.size [pr] w w1 from HK1.out) hg2)
    clear HK1
    have hsz2 : w.heap.size ≤ w2.heap.size := HK2.out.size
    have hq2 : w1.heap.size ≤ w2.heap.size := hg2.size
    have HS2 := hide hg2
    clear hb2 hg2
    obtain ⟨cq0, fq0, lq0⟩ := (show Box w2 _ _ from q0.out).rules
    obtain ⟨cp0, fp0, lp0⟩ := (show Box w2 _ _ from p0.out).rules
    refine (HF.out _).mono ?_
    rintro r w' ⟨rfl, rfl⟩
    cases fb with
    | false =>
      have HP := hide (HQ.out.trans (if_pos rfl))
      go_wp2
      refine bodyPost_ret (v := .tuple #[pv (hdP kd 0 0 0 0) none 0 0, .int .i64 0]) (by simp [results, Try.results49, go_sem, cq0, cp0, hdP]) rfl ?_
      rw [HP.out]
      refine goth_ok ?_ ?_
      · repeat (with_reducible refine Rd.setOther ?_ (by simp; omega) _)
        exact hr2
      · repeat (with_reducible refine Kept.setCell ?_ (.inl (by simp; try omega)) _)
        exact HK2.out
    | true =>
      rw [if_neg (by simp)] at HQ
      go_wp2_with fail
      refine (hF2.out _ hr2).mono ?_
      rintro r w3 ⟨rfl, hr3, hb3⟩
      clear cq0 fq0 lq0 cp0 fp0 lp0
      have hg3 := hb3
      have q0_ := hide ((show Box w2 _ _ from q0.out).kept hg3 (by simp; omega))
      clear q0
      have q0 := q0_
      clear q0_
      have p0_ := hide ((show Box w2 _ _ from p0.out).kept hg3 (by simp; omega))
      clear p0
      have p0 := p0_
      clear p0_
      have HK3 := hide (Kept.at_ (show Kept w.heap.size [pr] w w2 from HK2.out) hg3)
      clear HK2
      have hsz3 : w.heap.size ≤ w3.heap.size := HK3.out.size
      have hq3 : w2.heap.size ≤ w3.heap.size := hg3.size
      have HS3 := hide hg3
      clear hb3 hg3
      obtain ⟨cq0, fq0, lq0⟩ := (show Box w3 _ _ from q0.out).rules
      obtain ⟨cp0, fp0, lp0⟩ := (show Box w3 _ _ from p0.out).rules
      go_wp2_with fail
      clear cq0 fq0 lq0 cp0 fp0 lp0
      generalize hW4 : World.setCell w3 _ _ = w4
      have n4 := Box.store1 (show Box w3 _ _ from p0.out) hW4
      simp only [List.setIfInBounds_toArray, List.set_cons_zero, List.set_cons_succ] at n4
      have q0_ := hide (Box.keep_ne (show Box w3 _ _ from q0.out) hW4 (by simp <;> omega))
      clear q0
      have q0 := q0_
      clear q0_
      have hr3 := Rd.store1 hr3 hW4 (by simp <;> omega)
      have HK4 := hide (Kept.store1 (show Kept w.heap.size [pr] w w3 from HK3.out) hW4 (by simp <;> omega))
      clear HK3
      have hsz4 : w.heap.size ≤ w4.heap.size := HK4.out.size
      have hq4 : w3.heap.size ≤ w4.heap.size := by rw [← hW4]; simp [World.setCell]
      clear hW4
      have p0_ := hide n4
      clear n4 p0
      have p0 := p0_
      clear p0_
      obtain ⟨cq0, fq0, lq0⟩ := (show Box w4 _ _ from q0.out).rules
      obtain ⟨cp0, fp0, lp0⟩ := (show Box w4 _ _ from p0.out).rules
      refine (hE2.out _ hr3).mono ?_
      rintro r w' ⟨rfl, rfl⟩
      by_cases he2 : e2 = 0
      · subst he2
        rw [if_neg (by simp)] at HQ
        go_wp2_with fail
        refine (HH.out _).mono ?_
        rintro r w' ⟨rfl, rfl⟩
        cases hb with
        | false =>
          have HP := hide (HQ.out.trans (if_pos rfl))
          go_wp2
          refine bodyPost_ret (v := .tuple #[pv noP none 0 0, .int .i64 9]) (by simp [results, Try.results49, go_sem, cq0, noP]) rfl ?_
          rw [HP.out]
          refine goth_bad (by first | exact hne.out | decide) ?_
          repeat (with_reducible refine Kept.setCell ?_ (.inl (by simp; try omega)) _)
          exact HK4.out
        | true =>
          rw [if_neg (by simp)] at HQ
          go_wp2_with fail
          refine (hNm.out _ hr3).mono ?_
          rintro r w5 ⟨t5, f5, q5, rfl, hgot5, hb5⟩
          clear cq0 fq0 lq0 cp0 fp0 lp0
          have hg5 := hb5
          have q0_ := hide ((show Box w4 _ _ from q0.out).kept hg5 (by simp; omega))
          clear q0
          have q0 := q0_
          clear q0_
          have p0_ := hide ((show Box w4 _ _ from p0.out).kept hg5 (by simp; omega))
          clear p0
          have p0 := p0_
          clear p0_
          have HK5 := hide (Kept.at_ (show Kept w.heap.size [pr] w w4 from HK4.out) hg5)
          clear HK4
          have hsz5 : w.heap.size ≤ w5.heap.size := HK5.out.size
          have hq5 : w4.heap.size ≤ w5.heap.size := hg5.size
          have HS5 := hide hg5
          clear hb5 hg5
          obtain ⟨cq0, fq0, lq0⟩ := (show Box w5 _ _ from q0.out).rules
          obtain ⟨cp0, fp0, lp0⟩ := (show Box w5 _ _ from p0.out).rules
          by_cases he3 : E3 = 0
          · obtain ⟨rfl, rfl, rfl, hr5⟩ := hgot5 he3
            obtain rfl := hNe.out he3
            subst he3
            have HP := hide (HQ.out.trans (if_neg (by simp)))
            go_wp2
            refine bodyPost_ret (v := .tuple #[pv (hdP kd x2 t5 f5 q5) none 0 0, .int .i64 0]) (by simp [results, Try.results49, go_sem, cq0, cp0, hdP]) rfl ?_
            rw [HP.out]
            refine goth_ok ?_ ?_
            · repeat (with_reducible refine Rd.setOther ?_ (by simp; omega) _)
              exact hr5
            · repeat (with_reducible refine Kept.setCell ?_ (.inl (by simp; try omega)) _)
              exact HK5.out
          · have hne := hide (show E3 ≠ 0 from he3)
            have he3' : (E3 != 0) = true := by simpa using he3
            have HP := hide (HQ.out.trans (if_pos he3))
            clear he3
            go_wp2
            refine bodyPost_ret (v := .tuple #[pv noP none 0 0, .int .i64 E3]) (by simp [results, Try.results49, go_sem, cq0, noP]) rfl ?_
            rw [HP.out]
            refine goth_bad (by first | exact hne.out | decide) ?_
            repeat (with_reducible refine Kept.setCell ?_ (.inl (by simp; try omega)) _)
            exact HK5.out
      · have hne := hide (show e2 ≠ 0 from he2)
        have he2' : (e2 != 0) = true := by simpa using he2
        have HP := hide (HQ.out.trans (if_pos he2))
        clear he2
        go_wp2
        refine bodyPost_ret (v := .tuple #[pv noP none 0 0, .int .i64 e2]) (by simp [results, Try.results49, go_sem, cq0, noP]) rfl ?_
        rw [HP.out]
        refine goth_bad (by first | exact hne.out | decide) ?_
        repeat (with_reducible refine Kept.setCell ?_ (.inl (by simp; try omega)) _)
        exact HK4.out
  · have hne := hide (show E1 ≠ 0 from hk)
    have hk' : (E1 != 0) = true := by simpa using hk
    have HP := hide (HQ.out.trans (if_pos hk))
    clear hk
    go_wp2
    refine bodyPost_ret (v := .tuple #[pv noP none 0 0, .int .i64 E1]) (by simp [results, Try.results49, go_sem, cq0, noP]) rfl ?_
    rw [HP.out]
    refine goth_bad (by first | exact hne.out | decide) ?_
    repeat (with_reducible refine Kept.setCell ?_ (.inl (by simp; try omega)) _)
    exact HK1.out
set_option maxRecDepth 100000 in
set_option maxHeartbeats 1000000 in
theorem fixed_nil (n : Int) (w : World) : Calls Try.prog 41 #[.pointer none, .int .i64 n] w fun e w' => e = .returned (.int .u64 0) ∧ w = w' := by
  go_enter Try.func41, Try.ntmps41
  go_wp2
  go_ret
  exact ⟨rfl, rfl⟩
set_option maxRecDepth 100000 in
set_option maxHeartbeats 1000000 in
theorem byte_nil (w : World) : Calls Try.prog 40 #[.pointer none] w fun e w' => e = .returned (.int .u8 0) ∧ w = w' := by
  go_enter Try.func40, Try.ntmps40
  go_wp2_with fail
  refine (fixed_nil _ _).mono ?_
  rintro r w' ⟨rfl, rfl⟩
  go_wp2
  go_ret
  exact ⟨rfl, rfl⟩
set_option maxRecDepth 100000 in
set_option maxHeartbeats 1000000 in
theorem err_nil (w : World) : Calls Try.prog 30 #[.pointer none] w fun e w' => e = .returned (.int .i64 1) ∧ w = w' := by
  go_enter Try.func30, Try.ntmps30
  go_wp2
  go_ret
  exact ⟨rfl, rfl⟩
set_option maxRecDepth 100000 in
set_option maxHeartbeats 1000000 in
theorem kind_nil (w : World) : Calls Try.prog 109 #[.pointer none] w fun e w' => e = .returned (.tuple #[.int .i64 0, .int .i64 1]) ∧ w = w' := by
  go_enter Try.func109, Try.ntmps109
  go_wp2_with fail
  refine (byte_nil _).mono ?_
  rintro r w' ⟨rfl, rfl⟩
  go_wp2_with fail
  refine (err_nil _).mono ?_
  rintro r w' ⟨rfl, rfl⟩
  go_wp2
  go_ret2
  exact ⟨rfl, rfl⟩
set_option maxRecDepth 100000 in
set_option maxHeartbeats 2000000 in
theorem headget_nil (w : World) : Calls Try.prog 49 #[.pointer none] w fun r w' => r = .returned (.tuple #[pv noP none 0 0, .int .i64 1]) ∧ Grow w w' := by
  go_enter Try.func49, Try.ntmps49
  go_wp2_with fail
  refine (kind_nil _).mono ?_
  rintro r w' ⟨rfl, rfl⟩
  go_wp2
  refine bodyPost_ret (v := .tuple #[pv noP none 0 0, .int .i64 1]) (by simp [results, Try.results49, go_sem, noP]) rfl ?_
  refine ⟨rfl, ?_⟩
  show Below w.heap.size w _
  repeat (with_reducible refine Below.setCell ?_ (by simp) _)
  exact (Grow.refl w).alloc _
end Go.Proofs.Ytpobjcdcimcdnaa
