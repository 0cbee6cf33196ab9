/- The walks of the rest of a reader of package buf. -/
import Derived.Test.YtldgnallbkpchaaRdD
import Derived.Test.YtldgnallbkpchaaBufZ
namespace Go.Proofs.Ytldgnallbkpchaa
open Go.RowKit
theorem rget_bad {α : Type} (z : α) (f : List UInt8 → α × List UInt8 × Int) (s : List UInt8 × Int) (h : s.2 ≠ 0) : Buf.rget z f s = (z, s) := by unfold Buf.rget; rw [if_neg h]
theorem rget_ok {α : Type} (z : α) (f : List UInt8 → α × List UInt8 × Int) (b : List UInt8) : Buf.rget z f (b, 0) = f b := rfl
theorem rfix1_lt (s : List UInt8 × Int) : (rfix 1 s).1 < 256 := by
  have h := rfix_in s 1 (by omega) (by omega)
  rw [show ((1 : Nat) : Int) = 1 from rfl] at h
  rw [h]
  have h1 := Buf.num_lt (rtake s 1).1
  have h2 := rtake_len s 1
  have h3 : 256 ^ (rtake s 1).1.length ≤ 256 ^ 1 := Nat.pow_le_pow_right (by omega) h2
  omega
def rbyte (s : List UInt8 × Int) : Nat × List UInt8 × Int := rfix 1 s
theorem rbyte_lt (s : List UInt8 × Int) : (rbyte s).1 < 256 := rfix1_lt s
set_option maxRecDepth 100000 in
set_option maxHeartbeats 1000000 in
theorem rbyte_any (N p : Nat) (s : List UInt8 × Int) (w : World) (h : Rd w N p s) :
    Calls Try.prog 55 #[.pointer (some ⟨p, 0, none⟩)] w fun r w' => r = .returned (.int .u8 ((rbyte s).1 : Nat)) ∧ Rd w' N p (rbyte s).2 ∧ Kept w.heap.size [p] w w' := by
  have hF := hide (rfix_any N p s 1 w h)
  have hx := rbyte_lt s
  unfold rbyte at *
  generalize rfix 1 s = T at *
  go_enter Try.func55, Try.ntmps55
  go_wp2_with fail
  refine hF.out.mono ?_
  rintro r w1 ⟨rfl, h1, h2⟩
  go_wp2
  go_ret
  exact ⟨ret_int (by omega), h1, h2⟩
/-- a number without its sign, unfolded -/
def zagI (u : Nat) : Int := if u % 2 = 1 then -((u / 2 : Nat) : Int) - 1 else ((u / 2 : Nat) : Int)
theorem zag_zig (x : Int) : zagI (Buf.zig x) = x := by
  unfold zagI Buf.zig
  by_cases h : x < 0
  · rw [if_pos h, if_pos (by omega)]; omega
  · rw [if_neg h, if_neg (by omega)]; omega
theorem zig_zag (u : Nat) : Buf.zig (zagI u) = u := by
  unfold zagI Buf.zig
  by_cases h : u % 2 = 1
  · rw [if_pos h, if_pos (by omega)]; omega
  · rw [if_neg h, if_neg (by omega)]; omega
theorem zag_bounds (u : Nat) (h : u < 18446744073709551616) : -9223372036854775808 ≤ zagI u ∧ zagI u < 9223372036854775808 := by
  unfold zagI
  split <;> omega
theorem i64_xor_m1 (m : Nat) (h : m < 9223372036854775808) : bits .xor .i64 (m : Int) (-1) = -(m : Int) - 1 := by
  show IntKind.i64.wrap ((BitVec.ofInt 64 (m : Int) ^^^ BitVec.ofInt 64 (-1)).toNat : Int) = _
  have e : BitVec.ofInt 64 (-1) = BitVec.allOnes 64 := by decide
  rw [e, BitVec.xor_allOnes, BitVec.toNat_not, BitVec.toNat_ofInt, IntKind.wrap_i64]
  omega
theorem i64_xor_0 (m : Nat) (h : m < 9223372036854775808) : bits .xor .i64 (m : Int) 0 = (m : Int) := by
  show IntKind.i64.wrap ((BitVec.ofInt 64 (m : Int) ^^^ BitVec.ofInt 64 0).toNat : Int) = _
  have e : BitVec.ofInt 64 0 = 0#64 := by decide
  rw [e, BitVec.xor_zero, BitVec.toNat_ofInt, IntKind.wrap_i64]
  omega
theorem zag_val (u : Nat) (h : u < 18446744073709551616) : bits .xor .i64 (wrap64 ((u : Int) / 2)) (wrap64 (-wrap64 (bits .and .u64 (u : Int) 1))) = zagI u := by
  have h1 : bits .and .u64 (u : Int) 1 = ((u % 2 : Nat) : Int) := by
    have := u64_and_nat u 1 h (by omega)
    rw [Nat.and_one_is_mod] at this
    exact this
  have h2 : wrap64 ((u : Int) / 2) = ((u / 2 : Nat) : Int) := by unfold wrap64; omega
  rw [h1, h2]
  unfold zagI
  by_cases hu : u % 2 = 1
  · rw [if_pos hu, hu, show wrap64 (-wrap64 ((1 : Nat) : Int)) = -1 by unfold wrap64; omega]
    exact i64_xor_m1 _ (by omega)
  · rw [if_neg hu, show u % 2 = 0 by omega, show wrap64 (-wrap64 ((0 : Nat) : Int)) = 0 by unfold wrap64; omega]
    exact i64_xor_0 _ (by omega)
set_option maxRecDepth 100000 in
set_option maxHeartbeats 1000000 in
theorem zag_any (u : Nat) (w : World) (h : Hid (u < 18446744073709551616)) :
    Calls Try.prog 147 #[.int .u64 u] w fun r w' => r = .returned (.int .i64 (zagI u)) ∧ w = w' := by
  go_enter Try.func147, Try.ntmps147
  go_wp2
  go_ret
  exact ⟨ret_int (zag_val u h.out), rfl⟩
theorem err_any (N p : Nat) (s : List UInt8 × Int) (w : World) (h : Rd w N p s) :
    Calls Try.prog 45 #[.pointer (some ⟨p, 0, none⟩)] w fun r w' => r = .returned (.int .i64 s.2) ∧ w = w' := by
  have hc0 := h.c0
  go_enter Try.func45, Try.ntmps45
  go_wp2
  go_ret
  exact ⟨rfl, rfl⟩
theorem left_ok (N p : Nat) (b : List UInt8) (w : World) (h : Rd w N p (b, 0)) :
    Calls Try.prog 43 #[.pointer (some ⟨p, 0, none⟩)] w fun r w' => r = .returned (.int .i64 b.length) ∧ w = w' := by
  obtain ⟨A, c, hc0, hc1, hlc, hcm, hb, hset⟩ := h.open0
  go_enter Try.func43, Try.ntmps43
  go_wp2_with fail
  refine (fine_any p 0 _ hc0).mono ?_
  rintro r w' ⟨rfl, rfl⟩
  go_wp2
  go_ret
  exact ⟨rfl, rfl⟩
theorem left_bad (N p : Nat) (b : List UInt8) (e : Int) (w : World) (h : Rd w N p (b, e)) (he : (e == 0) = false) :
    Calls Try.prog 43 #[.pointer (some ⟨p, 0, none⟩)] w fun r w' => r = .returned (.int .i64 0) ∧ w = w' := by
  have hc0 := h.c0
  go_enter Try.func43, Try.ntmps43
  go_wp2_with fail
  refine (fine_any p e _ hc0).mono ?_
  rintro r w' ⟨rfl, rfl⟩
  go_wp2
  go_ret
  exact ⟨rfl, rfl⟩
theorem Rd.bad {w : World} {N p : Nat} {b : List UInt8} {e : Int} (h : Rd w N p (b, e)) (he : e ≠ 0) : b = [] := by
  obtain ⟨A, c, l, h1, h2, h3, h4, h5, h6, h7, h8, h9⟩ := h
  exact h9 he
theorem left_any (N p : Nat) (s : List UInt8 × Int) (w : World) (h : Rd w N p s) :
    Calls Try.prog 43 #[.pointer (some ⟨p, 0, none⟩)] w fun r w' => r = .returned (.int .i64 s.1.length) ∧ w = w' := by
  obtain ⟨b, e⟩ := s
  by_cases he : e = 0
  · subst he; exact left_ok N p b w h
  · obtain rfl := h.bad he
    exact left_bad N p [] e w h (by simpa using he)
/-- what is wrong at the end -/
def rend (s : List UInt8 × Int) : Int := if s.2 = 0 ∧ s.1 ≠ [] then 5 else s.2
theorem end_any (N p : Nat) (s : List UInt8 × Int) (w : World) (h : Rd w N p s) :
    Calls Try.prog 47 #[.pointer (some ⟨p, 0, none⟩)] w fun r w' => r = .returned (.int .i64 (rend s)) ∧ w = w' := by
  obtain ⟨b, e⟩ := s
  by_cases he : e = 0
  · subst he
    have HE := hide (err_any N p (b, 0) w h)
    obtain ⟨A, c, hc0, hc1, hlc, hcm, hb, hset⟩ := h.open0
    by_cases hl : 0 < b.length
    · have HR := hide (show rend (b, 0) = 5 by unfold rend; rw [if_pos ⟨rfl, by rintro rfl; simp at hl⟩])
      go_enter Try.func47, Try.ntmps47
      go_wp2_with fail
      refine (fine_any p 0 _ hc0).mono ?_
      rintro r w' ⟨rfl, rfl⟩
      go_wp2
      go_ret
      exact ⟨by rw [HR.out]; rfl, rfl⟩
    · obtain rfl : b = [] := List.length_eq_zero_iff.1 (by omega)
      go_enter Try.func47, Try.ntmps47
      go_wp2_with fail
      refine (fine_any p 0 _ hc0).mono ?_
      rintro r w' ⟨rfl, rfl⟩
      go_wp2_with fail
      refine HE.out.mono ?_
      rintro r w' ⟨rfl, rfl⟩
      go_wp2
      go_ret
      exact ⟨rfl, rfl⟩
  · have HE := hide (err_any N p (b, e) w h)
    have hc0 := h.c0
    have HR := hide (show rend (b, e) = e by unfold rend; rw [if_neg (fun h => he h.1)])
    have he' : (e == 0) = false := by simpa using he
    clear he
    go_enter Try.func47, Try.ntmps47
    go_wp2_with fail
    refine (fine_any p e _ hc0).mono ?_
    rintro r w' ⟨rfl, rfl⟩
    go_wp2_with fail
    refine HE.out.mono ?_
    rintro r w' ⟨rfl, rfl⟩
    go_wp2
    go_ret
    exact ⟨by rw [HR.out]; rfl, rfl⟩
set_option maxRecDepth 100000 in
set_option maxHeartbeats 1000000 in
theorem read_any (A : Option Addr) (l : List UInt8) (c : Nat) (w : World) (hl : Bytes w A l) (hn : l.length ≤ 1000000000000) :
    Calls Try.prog 42 #[.slice A l.length c] w fun r w' => ∃ N p, r = .returned (.pointer (some ⟨p, 0, none⟩)) ∧ Rd w' N p (l, 0) ∧ w.heap.size ≤ p ∧ Grow w w' := by
  go_enter Try.func42, Try.ntmps42
  go_wp2_with (at_builtin; refine wpList_append_bytes byteT rfl (.tmp 3) (.tmp 4) rfl (Own.made w (base := w.heap.size) #[] 0 (Nat.le_refl _) (by decide) rfl) (hl.alloc _) rfl rfl ?_ ?_ ?_)
  · simp; omega
  · simp
  intro A' c' b' w2 HL hown hg2 _
  have e : b' = l := HL.out.trans (by simp)
  subst e
  have hgr : Grow w w2 := (((Below.refl _ _).alloc (Nat.le_refl _) _).grown hg2 (by simp) (by simp [blk]))
  have hle := hown.le
  have hob := (hown.alloc (.cells #[.int .i64 0, .slice A' b'.length c'] 121))
  have hlt : ∀ q, blk A' = some q → q < w2.heap.size := fun q hq => hown.lt hq
  go_wp2
  go_ret
  refine ⟨w2.heap.size + 1, w2.heap.size, rfl, ⟨A', c', b', heap_alloc_new w2 _, hle.1, hle.2, hob.bytes, Nat.lt_succ_self _, by simp, fun q hq => ⟨by have := hlt q hq; omega, by have := hlt q hq; omega⟩, fun _ => rfl, fun e => absurd rfl e⟩, hgr.size, hgr.alloc _⟩
theorem rnum_lt (s : List UInt8 × Int) : (rnum s).1 < 18446744073709551616 := by
  unfold rnum Buf.rget
  split
  · exact Buf.getNum_lt _
  · exact Nat.zero_lt_of_lt (show 0 < 18446744073709551616 by omega)
set_option maxRecDepth 100000 in
set_option maxHeartbeats 1000000 in
theorem rint_any (N p : Nat) (s : List UInt8 × Int) (w : World) (h : Rd w N p s) :
    Calls Try.prog 57 #[.pointer (some ⟨p, 0, none⟩)] w fun r w' => r = .returned (.int .i64 (zagI (rnum s).1)) ∧ Rd w' N p (rnum s).2 ∧ Kept w.heap.size [p] w w' := by
  have hF := hide (rnum_any N p s w h)
  have hx := hide (rnum_lt s)
  generalize rnum s = T at *
  go_enter Try.func57, Try.ntmps57
  go_wp2_with fail
  refine hF.out.mono ?_
  rintro r w1 ⟨rfl, h1, h2⟩
  go_wp2_with fail
  refine (zag_any T.1 _ hx).mono ?_
  rintro r w' ⟨rfl, rfl⟩
  go_wp2
  go_ret
  exact ⟨rfl, h1, h2⟩
def rbytes (most : Int) (s : List UInt8 × Int) : List UInt8 × List UInt8 × Int := Buf.rget [] (fun b => Buf.getBytes b most) s
/-- bytes that are not there -/
theorem rbytes_none (s : List UInt8 × Int) (most : Int) (h : (rnum s).2.2 ≠ 0) : rbytes most s = ([], (rnum s).2) := by
  obtain ⟨b, e⟩ := s
  by_cases he : e = 0
  · subst he
    have h' : (Buf.getNum b).2.2 ≠ 0 := h
    show Buf.getBytes b most = ([], (Buf.getNum b).2)
    rw [Buf.getNum_bad b h']
    unfold Buf.getBytes
    rw [if_pos h']
  · rw [show rnum (b, e) = (0, b, e) from rget_bad _ _ _ he]; exact rget_bad _ _ _ he
theorem rnum_ok0 (s : List UInt8 × Int) (h : (rnum s).2.2 = 0) : s.2 = 0 ∧ rnum s = Buf.getNum s.1 := by
  by_cases he : s.2 = 0
  · exact ⟨he, by unfold rnum Buf.rget; rw [if_pos he]⟩
  · rw [show rnum s = (0, s) from rget_bad _ _ _ he] at h; exact absurd h he
theorem rbytes_long (s : List UInt8 × Int) (most : Int) (h : (rnum s).2.2 = 0) (hm : most < 0 ∨ most < (rnum s).1) : rbytes most s = ([], [], 4) := by
  obtain ⟨h1, h2⟩ := rnum_ok0 s h
  rw [h2] at h hm
  unfold rbytes Buf.rget
  rw [if_pos h1]
  unfold Buf.getBytes
  dsimp only
  rw [if_neg (by simpa using h), if_pos hm]
theorem rbytes_short (s : List UInt8 × Int) (most : Int) (h : (rnum s).2.2 = 0) (hm : ¬ (most < 0 ∨ most < (rnum s).1)) (hs : (rnum s).2.1.length < (rnum s).1) : rbytes most s = ([], [], 3) := by
  obtain ⟨h1, h2⟩ := rnum_ok0 s h
  rw [h2] at h hm hs
  unfold rbytes Buf.rget
  rw [if_pos h1]
  unfold Buf.getBytes
  dsimp only
  rw [if_neg (by simpa using h), if_neg hm, if_pos hs]
theorem rbytes_ok (s : List UInt8 × Int) (most : Int) (h : (rnum s).2.2 = 0) (hm : ¬ (most < 0 ∨ most < (rnum s).1)) (hs : ¬ (rnum s).2.1.length < (rnum s).1) : rbytes most s = ((rnum s).2.1.take (rnum s).1, (rnum s).2.1.drop (rnum s).1, 0) := by
  obtain ⟨h1, h2⟩ := rnum_ok0 s h
  rw [h2] at h hm hs ⊢
  unfold rbytes Buf.rget
  rw [if_pos h1]
  unfold Buf.getBytes
  dsimp only
  rw [if_neg (by simpa using h), if_neg hm, if_neg hs]
set_option maxRecDepth 100000 in
set_option maxHeartbeats 2000000 in
theorem rbytes_any (N p : Nat) (s : List UInt8 × Int) (most : Int) (w : World) (h : Rd w N p s) (hm2 : most ≤ 9223372036854775807) (hsl : s.1.length ≤ 1000000000000) :
    Calls Try.prog 58 #[.pointer (some ⟨p, 0, none⟩), .int .i64 most] w fun r w' => ∃ A c, r = .returned (.slice A (rbytes most s).1.length c) ∧ (rbytes most s).1.length ≤ c ∧ c ≤ 9223372036854775807 ∧ Own w' w.heap.size A c (rbytes most s).1 ∧ Rd w' N p (rbytes most s).2 ∧ Kept w.heap.size [p] w w' := by
  have hF := hide (rnum_any N p s w h)
  have hx := hide (rnum_lt s)
  have hlen : Hid ((rnum s).2.1.length ≤ s.1.length) := by
    unfold rnum Buf.rget
    split
    · exact Buf.getNum_len _
    · exact Nat.le_refl _
  have L0 := hide (rbytes_none s most)
  have L1 := hide (rbytes_long s most)
  have L2 := hide (rbytes_short s most)
  have L3 := hide (rbytes_ok s most)
  generalize rnum s = T at *
  obtain ⟨x, b, e⟩ := T
  dsimp only at *
  by_cases he : e = 0
  · subst he
    by_cases hm : most < 0 ∨ most < x
    · have HP := hide (L1.out rfl hm)
      have hd : most < 0 ∨ (0 ≤ most ∧ most < (x : Int)) := by omega
      clear hm
      rcases hd with hd | ⟨hd0, hd⟩
      all_goals
        go_enter Try.func58, Try.ntmps58
        go_wp2_with fail
        refine hF.out.mono ?_
        rintro r w1 ⟨rfl, h1, h2⟩
        have hc0 := h1.c0
        have hf0 := h1.fz 0
        go_wp2_with fail
        refine (fine_any p 0 _ hc0).mono ?_
        rintro r w' ⟨rfl, rfl⟩
        go_wp2_with fail
        refine (fail_set p 4 _ hc0 hf0).mono ?_
        rintro r w' ⟨rfl, rfl⟩
        go_wp2
        go_ret
        rw [HP.out]
        exact ⟨none, 0, rfl, Nat.le_refl _, by decide, Own.nil_ _ _, h1.setErr 4 (by decide), h2.setCell (p := ⟨p, 0, none⟩) (.inr (by simp)) _⟩
    · by_cases hs : b.length < x
      · have HP := hide (L2.out rfl hm hs)
        have hm0 : 0 ≤ most := by omega
        have hm1 : (x : Int) ≤ most := by omega
        clear hm
        go_enter Try.func58, Try.ntmps58
        go_wp2_with fail
        refine hF.out.mono ?_
        rintro r w1 ⟨rfl, h1, h2⟩
        obtain ⟨A, c, hc0, hc1, hlc, hcm, hb, hset⟩ := h1.open0
        have hf0 := h1.fz 0
        go_wp2_with fail
        refine (fine_any p 0 _ hc0).mono ?_
        rintro r w' ⟨rfl, rfl⟩
        go_wp2_with fail
        refine (fail_set p 3 _ hc0 hf0).mono ?_
        rintro r w' ⟨rfl, rfl⟩
        go_wp2
        go_ret
        rw [HP.out]
        exact ⟨none, 0, rfl, Nat.le_refl _, by decide, Own.nil_ _ _, h1.setErr 3 (by decide), h2.setCell (p := ⟨p, 0, none⟩) (.inr (by simp)) _⟩
      · have HP := hide (L3.out rfl hm hs)
        have hm0 : 0 ≤ most := by omega
        have hm1 : (x : Int) ≤ most := by omega
        have hsx : x ≤ b.length := by omega
        have hl0 := hlen.out
        clear hm hs
        go_enter Try.func58, Try.ntmps58
        go_wp2_with fail
        refine hF.out.mono ?_
        rintro r w1 ⟨rfl, h1, h2⟩
        obtain ⟨A, c, hc0, hc1, hlc, hcm, hb, hset⟩ := h1.open0
        have hT := hide (take_ok N p b x _ (h1.grow ((Grow.refl w1).alloc (.cells #[] 5))) hsx)
        go_wp2_with fail
        refine (fine_any p 0 _ hc0).mono ?_
        rintro r w' ⟨rfl, rfl⟩
        go_wp2_with fail
        refine hT.out.mono ?_
        rintro r w2 ⟨A2, c2, rfl, hc2, hb2, hr2, hk2⟩
        have hpN := Nat.lt_of_lt_of_le h1.lt h1.size
        have hown0 : Own w2 w1.heap.size (some ⟨w1.heap.size, 0, none⟩) 0 [] := (Own.made w1 (base := w1.heap.size) #[] 0 (Nat.le_refl _) (by decide) rfl).kept fun g hg => hk2.block g (by injection hg with hg; subst hg; simp) (by injection hg with hg; subst hg; simp; omega)
        have hlx : (b.take x).length = x := by rw [List.length_take]; omega
        have hlx' := hide hlx
        have hx0 : x ≤ 1000000000000 := by omega
        have hw12 : w1.heap.size ≤ w2.heap.size := by have := hk2.size; simp at this; omega
        go_wp2_with (at_builtin; refine wpList_append_bytes byteT rfl (.tmp 41) (.tmp 45) rfl hown0 hb2 rfl (by rw [hlx'.out]; rfl) ?_ ?_ ?_)
        · simp; omega
        · exact hw12
        intro A' c' b' w3 HL hown hg3 hat
        have hlb : Hid (b' = b.take x) := HL.out.trans (by simp)
        have hk : Kept w.heap.size [p] w w3 := by
          refine (h2.trans (((Kept.refl w1.heap.size [p] w1).alloc (Nat.le_refl _) _).trans (hk2.mono (by simp) (fun _ _ e => e)) |>.mono h2.size (fun _ _ e => e))).grown hg3 (Nat.le_trans h2.size hw12) (fun q hq => ?_)
          injection hq with hq
          subst hq
          exact .inl h2.size
        have hr3 : Rd w3 N p (b.drop x, 0) := hr2.below ⟨hg3.os, hg3.tape, hg3.output, hg3.size, fun k hk => hg3.block k (Nat.lt_of_lt_of_le hk hr2.size) (fun e => by simp [blk] at e; have := h1.size; omega)⟩
        have hbb := hown.le
        go_wp2
        go_ret
        rw [HP.out]
        have hl3 := hlb.out
        subst hl3
        exact ⟨A', c', rfl, hbb.1, hbb.2, hown.mono h2.size, hr3, hk⟩
  · have HP := hide (L0.out he)
    have he' : (e == 0) = false := by simpa using he
    go_enter Try.func58, Try.ntmps58
    go_wp2_with fail
    refine hF.out.mono ?_
    rintro r w1 ⟨rfl, h1, h2⟩
    have hc0 := h1.c0
    clear he
    go_wp2_with fail
    refine (fine_any p e _ hc0).mono ?_
    rintro r w' ⟨rfl, rfl⟩
    go_wp2
    go_ret
    rw [HP.out]
    exact ⟨none, 0, rfl, Nat.le_refl _, by decide, Own.nil_ _ _, h1, h2⟩
end Go.Proofs.Ytldgnallbkpchaa
