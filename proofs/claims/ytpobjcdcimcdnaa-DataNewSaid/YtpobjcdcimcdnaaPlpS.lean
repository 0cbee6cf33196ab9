/- Walks and plain lemmas that several statements share. -/
import Derived.Test.YtpobjcdcimcdnaaFewS
import Derived.Test.YtpobjcdcimcdnaaPlsS
import Derived.Test.YtpobjcdcimcdnaaDatS
import Derived.Test.YtpobjcdcimcdnaaFrm
namespace Go.Proofs.Ytpobjcdcimcdnaa
open Go.RowKit
theorem wfixed_len (most : Int) (s : Int × List UInt8) (x : Nat) (n : Int) : (Buf.wfixed most s x n).2.length ≤ s.2.length + 8 := by
  unfold Buf.wfixed
  split
  · unfold Buf.wfail; split <;> simp
  · have := wput_len most s (Buf.fixed x n.toNat)
    rw [Buf.fixed_length] at this
    omega
/-- what stands behind the head, written -/
def pulseS (most : Int) (s : Int × List UInt8) (p : Pkt) : Int × List UInt8 :=
  if p.kind = 1 then Buf.wfixed most s (u64of p.stamp) 8 else if p.kind = 2 then Buf.wfixed most (Buf.wfixed most s (u64of p.stamp) 8) (u64of p.value) 8
  else if p.kind = 3 then Buf.wput most s (Buf.sevens (u64of p.no)) else s
def pulseBytes (p : Pkt) : List UInt8 :=
  if p.kind = 1 then Buf.fixed (u64of p.stamp) 8 else if p.kind = 2 then Buf.fixed (u64of p.stamp) 8 ++ Buf.fixed (u64of p.value) 8 else Buf.sevens (u64of p.no)
theorem pulseBytes_len (p : Pkt) : (pulseBytes p).length ≤ 16 := by
  have := Buf.sevens_len (u64of p.no)
  unfold pulseBytes
  split
  · rw [Buf.fixed_length]; omega
  · split
    · rw [List.length_append, Buf.fixed_length, Buf.fixed_length]; omega
    · omega
theorem pulseS_ok (most : Int) (b : List UInt8) (p : Pkt) (hk : p.kind = 1 ∨ p.kind = 2 ∨ p.kind = 3) (h : (b.length : Int) + 16 ≤ most) : pulseS most (0, b) p = (0, b ++ pulseBytes p) := by
  unfold pulseS pulseBytes
  by_cases k1 : p.kind = 1
  · rw [if_pos k1, if_pos k1]; exact wfixed_ok most b _ 8 (by omega) (by omega) (by omega)
  · rw [if_neg k1, if_neg k1]
    by_cases k2 : p.kind = 2
    · rw [if_pos k2, if_pos k2]
      have e := wfixed_ok most b (u64of p.stamp) 8 (by omega) (by omega) (by omega)
      rw [show ((8 : Nat) : Int) = 8 from rfl] at e
      rw [e]
      have e2 := wfixed_ok most (b ++ Buf.fixed (u64of p.stamp) 8) (u64of p.value) 8 (by omega) (by omega) (by rw [List.length_append, Buf.fixed_length]; omega)
      rw [show ((8 : Nat) : Int) = 8 from rfl] at e2
      rw [e2, List.append_assoc]
    · rw [if_neg k2, if_neg k2, if_pos (by omega)]
      have := Buf.sevens_len (u64of p.no)
      exact wput_ok most b _ (by omega)
set_option maxRecDepth 100000 in
set_option maxHeartbeats 2000000 in
theorem pulseput_1 (B p : Nat) (A : Option Addr) (c : Nat) (e : Int) (b : List UInt8) (most : Int) (q : Pkt) (A2 : Option Addr) (n c2 : Nat) (w : World) (h : Wr w B p A c e b most) (hb : b.length ≤ 999999999900) (hB : B ≤ w.heap.size) (k : q.kind = 1) :
    Calls Try.prog 143 #[.pointer (some ⟨p, 0, none⟩), pv q A2 n c2] w fun r w' => r = .returned (.tuple #[]) ∧ Wrote w w' B p A (pulseS most (e, b) q) most := by
  have hlt := h.lt
  have P0 := Putting.start h (pcells q A2 n c2) 65
  have hpx := P0.box
  unfold Holds at hpx
  have k1 : (q.kind == 1) = true := by simpa using k
  have HS := hide (show pulseS most (e, b) q = _ from if_pos k)
  clear k
  go_enter Try.func143, Try.ntmps143
  go_wp2_with fail
  refine (fixed_int B p A c (e, b) most q.stamp 8 _ P0.wr (by simp; omega) (by simp; omega)).mono ?_
  rintro r w1 ⟨rfl, hw1⟩
  obtain ⟨A1, c1, P1⟩ := P0.step hlt (Nat.le_refl _) (by simp) (Grow.refl _) hw1
  go_wp2
  go_end0
  refine ⟨rfl, ?_⟩
  rw [HS.out]
  exact P1.wrote
set_option maxRecDepth 100000 in
set_option maxHeartbeats 2000000 in
theorem pulseput_2 (B p : Nat) (A : Option Addr) (c : Nat) (e : Int) (b : List UInt8) (most : Int) (q : Pkt) (A2 : Option Addr) (n c2 : Nat) (w : World) (h : Wr w B p A c e b most) (hb : b.length ≤ 999999999900) (hB : B ≤ w.heap.size) (k : q.kind = 2) :
    Calls Try.prog 143 #[.pointer (some ⟨p, 0, none⟩), pv q A2 n c2] w fun r w' => r = .returned (.tuple #[]) ∧ Wrote w w' B p A (pulseS most (e, b) q) most := by
  have hlt := h.lt
  have P0 := Putting.start h (pcells q A2 n c2) 65
  have hpx := P0.box
  unfold Holds at hpx
  have k1 : (q.kind == 1) = false := by simp; omega
  have k2 : (q.kind == 2) = true := by simpa using k
  have HS := hide (show pulseS most (e, b) q = Buf.wfixed most (Buf.wfixed most (e, b) (u64of q.stamp) 8) (u64of q.value) 8 from by unfold pulseS; rw [if_neg (by omega), if_pos k])
  clear k
  go_enter Try.func143, Try.ntmps143
  go_wp2_with fail
  refine (fixed_int B p A c (e, b) most q.stamp 8 _ P0.wr (by simp; omega) (by simp; omega)).mono ?_
  rintro r w1 ⟨rfl, hw1⟩
  obtain ⟨A1, c1, P1⟩ := P0.step hlt (Nat.le_refl _) (by simp) (Grow.refl _) hw1
  have hb1 : (Buf.wfixed most (e, b) (u64of q.stamp) 8).2.length ≤ b.length + 8 := wfixed_len most (e, b) _ _
  generalize Buf.wfixed most (e, b) (u64of q.stamp) 8 = s1 at P1 hb1 HS
  have hB1 : B ≤ w1.heap.size := Nat.le_trans hB P1.kept.size
  clear hw1 P0 hpx h
  have hpx := P1.box
  have hz1 : w.heap.size < w1.heap.size := P1.box.lt (by simp)
  unfold Holds at hpx
  go_wp2_with fail
  refine (fixed_int B p A1 c1 s1 most q.value 8 _ P1.wr (by omega) hB1).mono ?_
  rintro r w2 ⟨rfl, hw2⟩
  obtain ⟨A2', c2', P2⟩ := P1.step hlt (Nat.le_refl _) (by simp) (Grow.refl _) hw2
  go_wp2
  go_end0
  refine ⟨rfl, ?_⟩
  rw [HS.out]
  exact P2.wrote
set_option maxRecDepth 100000 in
set_option maxHeartbeats 2000000 in
theorem pulseput_3 (B p : Nat) (A : Option Addr) (c : Nat) (e : Int) (b : List UInt8) (most : Int) (q : Pkt) (A2 : Option Addr) (n c2 : Nat) (w : World) (h : Wr w B p A c e b most) (hb : b.length ≤ 999999999900) (hB : B ≤ w.heap.size) (k : q.kind = 3) :
    Calls Try.prog 143 #[.pointer (some ⟨p, 0, none⟩), pv q A2 n c2] w fun r w' => r = .returned (.tuple #[]) ∧ Wrote w w' B p A (pulseS most (e, b) q) most := by
  have hlt := h.lt
  have P0 := Putting.start h (pcells q A2 n c2) 65
  have hpx := P0.box
  unfold Holds at hpx
  have k1 : (q.kind == 1) = false := by simp; omega
  have k2 : (q.kind == 2) = false := by simp; omega
  have k3 : (q.kind == 3) = true := by simpa using k
  have HS := hide (show pulseS most (e, b) q = Buf.wput most (e, b) (Buf.sevens (u64of q.no)) from by unfold pulseS; rw [if_neg (by omega), if_neg (by omega), if_pos k])
  clear k
  go_enter Try.func143, Try.ntmps143
  go_wp2_with fail
  refine (num_int B p A c (e, b) most q.no _ P0.wr (by simp; omega) (by simp; omega)).mono ?_
  rintro r w1 ⟨rfl, hw1⟩
  obtain ⟨A1, c1, P1⟩ := P0.step hlt (Nat.le_refl _) (by simp) (Grow.refl _) hw1
  go_wp2
  go_end0
  refine ⟨rfl, ?_⟩
  rw [HS.out]
  exact P1.wrote
theorem pulseput_any (B p : Nat) (A : Option Addr) (c : Nat) (e : Int) (b : List UInt8) (most : Int) (q : Pkt) (A2 : Option Addr) (n c2 : Nat) (w : World) (h : Wr w B p A c e b most) (hb : b.length ≤ 999999999900) (hB : B ≤ w.heap.size) (hk : q.kind = 1 ∨ q.kind = 2 ∨ q.kind = 3) :
    Calls Try.prog 143 #[.pointer (some ⟨p, 0, none⟩), pv q A2 n c2] w fun r w' => r = .returned (.tuple #[]) ∧ Wrote w w' B p A (pulseS most (e, b) q) most := by
  rcases hk with k | k | k
  · exact pulseput_1 B p A c e b most q A2 n c2 w h hb hB k
  · exact pulseput_2 B p A c e b most q A2 n c2 w h hb hB k
  · exact pulseput_3 B p A c e b most q A2 n c2 w h hb hB k
set_option maxRecDepth 100000 in
set_option maxHeartbeats 2000000 in
theorem refpulsebytes_any (p : Pkt) (A : Option Addr) (n c : Nat) (w : World) (hk : p.kind = 1 ∨ p.kind = 2 ∨ p.kind = 3) :
    Calls Try.prog 128 #[pv p A n c] w fun r w' => ∃ A c, r = .returned (.slice A (pulseBytes p).length c) ∧ Own w' w.heap.size A c (pulseBytes p) ∧ Grow w w' := by
  have hg0 := (Grow.refl w).alloc (.cells (pcells p A n c) 65)
  have hF1 := hide (fun W => reffixed_any (u64of p.stamp) 8 W (by omega) (u64of_lt _))
  have hF2 := hide (fun W => reffixed_any (u64of p.value) 8 W (by omega) (u64of_lt _))
  have hN := hide (fun W => refnum_any (u64of p.no) W (u64of_lt _))
  have e1 := hide (u64_of p.stamp)
  have e2 := hide (u64_of p.value)
  have e3 := hide (u64_of p.no)
  have L1 : (Buf.fixed (u64of p.stamp) 8).length = 8 := Buf.fixed_length _ _
  have L2 : (Buf.fixed (u64of p.value) 8).length = 8 := Buf.fixed_length _ _
  have HP : Hid (pulseBytes p = if p.kind = 1 then Buf.fixed (u64of p.stamp) 8 else if p.kind = 2 then Buf.fixed (u64of p.stamp) 8 ++ Buf.fixed (u64of p.value) 8 else Buf.sevens (u64of p.no)) := rfl
  generalize Buf.fixed (u64of p.stamp) 8 = x1 at *
  generalize Buf.fixed (u64of p.value) 8 = x2 at *
  generalize Buf.sevens (u64of p.no) = x3 at *
  generalize pulseBytes p = X at *
  have HL1 := hide L1
  have HL2 := hide L2
  clear L1 L2
  rcases hk with k | k | k
  · obtain rfl : X = x1 := HP.out.trans (if_pos k)
    have k1 : (p.kind == 1) = true := by simpa using k
    clear k
    go_enter Try.func128, Try.ntmps128
    go_wp2_with fail
    rw [e1.out]
    refine (hF1.out _).mono ?_
    rintro r w1 ⟨A1, c1, rfl, hown1, hg1⟩
    go_wp2
    go_ret
    exact ⟨A1, c1, rfl, hown1.mono (by simp), Grow.trans hg0 hg1⟩
  · obtain rfl : X = x1 ++ x2 := HP.out.trans (by rw [if_neg (by omega), if_pos k])
    have k1 : (p.kind == 1) = false := by simp; omega
    have k2 : (p.kind == 2) = true := by simpa using k
    clear k
    go_enter Try.func128, Try.ntmps128
    go_wp2_with fail
    obtain ⟨w1, hw1⟩ : ∃ w1, World.alloc w (.cells (pcells p A n c) 65) = w1 := ⟨_, rfl⟩
    have p0 := Box.new w (pcells p A n c) 65 rfl
    rw [hw1] at p0 hg0
    have hw1' := hide hw1
    generalize World.alloc w _ = wx at *
    obtain rfl := hw1
    clear hw1'
    have R0 := fun (W : World) (h : Below wx.heap.size wx.drew W) => (p0.keep (h.block _ p0.lt)).cell
    have hrf : ∀ w, Below wx.heap.size w w := Below.refl _
    have htr : ∀ a b c, Below wx.heap.size a b → Below wx.heap.size b c → Below wx.heap.size a c := fun _ _ _ h k => h.trans k
    refine wpR_region (Below wx.heap.size) [] (by kernel_rfl) ?_
    refine wpR_take hrf htr 0 rfl (by kernel_rfl) (fun _ _ _ h => h) rfl (v := ?_) ?_ ?_
    rotate_left
    · (intro w' hG; go_simp; try with_reducible rfl)
    try simp only [Act.put, List.setIfInBounds_toArray, List.set_cons_zero, List.set_cons_succ]
    refine wpR_take hrf htr 1 rfl (by kernel_rfl) (fun _ _ _ h => h) rfl (v := ?_) ?_ ?_
    rotate_left
    · (intro w' hG; go_simp; try with_reducible rfl)
    try simp only [Act.put, List.setIfInBounds_toArray, List.set_cons_zero, List.set_cons_succ]
    refine wpR_take hrf htr 2 rfl (by kernel_rfl) (fun _ _ _ h => h) rfl (v := ?_) ?_ ?_
    rotate_left
    · (intro w' hG; go_simp; try with_reducible rfl)
    try simp only [Act.put, List.setIfInBounds_toArray, List.set_cons_zero, List.set_cons_succ]
    refine wpR_take hrf htr 4 rfl (by kernel_rfl) (fun _ _ _ h => h) rfl (v := ?_) ?_ ?_
    rotate_left
    · (intro w' hG; go_simp; try with_reducible rfl)
    try simp only [Act.put, List.setIfInBounds_toArray, List.set_cons_zero, List.set_cons_succ]
    refine wpR_take hrf htr 5 rfl (by kernel_rfl) (fun _ _ _ h => h) rfl (v := ?_) ?_ ?_
    rotate_left
    · (intro w' hG; go_simp; try with_reducible rfl)
    try simp only [Act.put, List.setIfInBounds_toArray, List.set_cons_zero, List.set_cons_succ]
    refine wpR_take hrf htr 6 rfl (by kernel_rfl) (fun _ _ _ h => h) rfl (v := ?_) ?_ ?_
    rotate_left
    · (intro w' hG; go_simp; try with_reducible rfl)
    try simp only [Act.put, List.setIfInBounds_toArray, List.set_cons_zero, List.set_cons_succ]
    refine wpR_call 3 rfl (by kernel_rfl) rfl fun K hK => ?_
    go_simp
    rw [e1.out]
    refine (hF1.out _).mono ?_
    rintro r w1 ⟨A1, c1, rfl, hown1, hg1⟩
    refine hK.out _ _ (.inr (hg1)) ?_
    clear hK
    try simp only [Act.put, List.setIfInBounds_toArray, List.set_cons_zero, List.set_cons_succ]
    have R0 := fun (W : World) (h : Below wx.heap.size w1 W) => R0 W (Below.trans hg1 h)
    refine wpR_call 7 rfl (by kernel_rfl) rfl fun K hK => ?_
    go_simp
    rw [e2.out]
    refine (hF2.out _).mono ?_
    rintro r w2 ⟨A2, c2, rfl, hown2, hg2⟩
    refine hK.out _ _ (.inr (Below.mono hg2 hg1.size)) ?_
    clear hK
    try simp only [Act.put, List.setIfInBounds_toArray, List.set_cons_zero, List.set_cons_succ]
    have hl1 := HL1.out
    have hl2 := HL2.out
    have hown1 := hown1.below hg2
    refine wpR_call 8 rfl (by kernel_rfl) rfl fun K hK => ?_
    refine oper_append_bytes byteT (.tmp 16) (.tmp 20) rfl hown1 hown2.bytes rfl rfl (by omega) (Nat.le_trans hg1.size hg2.size) ?_
    intro A3 c3 l3 w3 HL hown3 hg3 _
    refine hK.out _ _ (.inr ((Below.refl _ _).grown hg3 (Nat.le_trans hg1.size hg2.size) (fun q hq => hown1.base hq))) ?_
    clear hK
    try simp only [Act.put, List.setIfInBounds_toArray, List.set_cons_zero, List.set_cons_succ]
    refine wpR_take hrf htr 9 rfl (by kernel_rfl) (fun _ _ _ h => h) rfl (v := ?_) ?_ ?_
    rotate_left
    · (intro w' hG; go_simp; try with_reducible rfl)
    try simp only [Act.put, List.setIfInBounds_toArray, List.set_cons_zero, List.set_cons_succ]
    refine wpR_done (by kernel_rfl) ?_ _
    have e := HL.out
    subst e
    have hgr : Grow w w3 := Grow.trans hg0 (Below.trans (Grow.of_drew hg1) (Below.grown (Below.mono hg2 hg1.size) hg3 (Nat.le_trans hg1.size hg2.size) (fun q hq => hown1.base hq)))
    go_wp2
    go_ret
    exact ⟨A3, c3, rfl, hown3.mono hg0.size, hgr⟩
  · obtain rfl : X = x3 := HP.out.trans (by rw [if_neg (by omega), if_neg (by omega)])
    have k1 : (p.kind == 1) = false := by simp; omega
    have k2 : (p.kind == 2) = false := by simp; omega
    clear k
    go_enter Try.func128, Try.ntmps128
    go_wp2_with fail
    rw [e3.out]
    refine (hN.out _).mono ?_
    rintro r w1 ⟨A1, c1, rfl, hown1, hg1⟩
    go_wp2
    go_ret
    exact ⟨A1, c1, rfl, hown1.mono (by simp), Grow.trans hg0 hg1⟩
end Go.Proofs.Ytpobjcdcimcdnaa
namespace Go.Proofs.Ytpobjcdcimcdnaa
open Go.RowKit
theorem i64_back (s : Int) (h : (Lit.int .i64 s).wf = true) : i64of (u64of s) = s := by
  show wrap64 ((u64of s : Nat) : Int) = s
  have hb := bounds_i64 h
  rw [← u64_of, IntKind.wrap_u64]
  unfold wrap64
  omega
theorem fixed8_back (s : Int) (r : List UInt8) : Buf.getFixed (Buf.fixed (u64of s) 8 ++ r) 8 = (u64of s, r, 0) := by
  have h := Buf.fixed_get_back (u64of s) 8 r (by omega) (by omega)
  have h2 := u64of_lt s
  rw [Nat.mod_eq_of_lt (by omega)] at h
  exact h
theorem pulse_kind (p : Pkt) (l : List UInt8) (h : pulseB p l = true) : (p.kind = 1 ∨ p.kind = 2 ∨ p.kind = 3) ∧ headB p = true ∧ l = [] := by
  by_cases k1 : p.kind = 1
  · cases hh : headB p with
    | false => unfold pulseB at h; rw [if_pos hh] at h; cases h
    | true => rw [pulse_one p l hh k1] at h; simp at h; exact ⟨.inl k1, rfl, h.2⟩
  · by_cases k2 : p.kind = 2
    · cases hh : headB p with
      | false => unfold pulseB at h; rw [if_pos hh] at h; cases h
      | true => rw [pulse_two p l hh k2] at h; simp at h; exact ⟨.inr (.inl k2), rfl, h.2⟩
    · by_cases k3 : p.kind = 3
      · cases hh : headB p with
        | false => unfold pulseB at h; rw [if_pos hh] at h; cases h
        | true => rw [pulse_three p l hh k3] at h; simp at h; exact ⟨.inr (.inr k3), rfl, h.1.1.2⟩
      · rw [pulse_other p l k1 k2 k3] at h; cases h
/-- what was written is read -/
theorem pulse_back (p : Pkt) (l : List UInt8) (ok : p.Ok) (h : pulseB p l = true) (r : List UInt8) : ∃ q, pg (pulseBytes p ++ r) (base p) = (q, r, 0) ∧ sameB p q = true := by
  obtain ⟨hk, hh, _⟩ := pulse_kind p l h
  rcases hk with k | k | k
  · rw [pulse_one p l hh k] at h
    simp at h
    refine ⟨{ base p with stamp := p.stamp }, ?_, ?_⟩
    · unfold pg pulseBytes
      rw [if_pos (show (base p).kind = 1 from k), if_pos k]
      unfold pg1
      rw [show rfix 8 (Buf.fixed (u64of p.stamp) 8 ++ r, 0) = (u64of p.stamp, r, 0) from fixed8_back p.stamp r]
      dsimp only
      rw [if_pos rfl, i64_back _ ok.stamp]
    · have := h.1
      simp [sameB, restB, keyEq, base] at this ⊢
      grind
  · rw [pulse_two p l hh k] at h
    simp at h
    refine ⟨{ base p with stamp := p.stamp, value := p.value }, ?_, ?_⟩
    · unfold pg pulseBytes
      rw [if_neg (show ¬ (base p).kind = 1 by show ¬ p.kind = 1; omega), if_pos (show (base p).kind = 2 from k), if_neg (by omega), if_pos k]
      unfold pg2
      rw [List.append_assoc, show rfix 8 (Buf.fixed (u64of p.stamp) 8 ++ (Buf.fixed (u64of p.value) 8 ++ r), 0) = (u64of p.stamp, Buf.fixed (u64of p.value) 8 ++ r, 0) from fixed8_back p.stamp _]
      dsimp only
      rw [show rfix 8 (Buf.fixed (u64of p.value) 8 ++ r, 0) = (u64of p.value, r, 0) from fixed8_back p.value r]
      dsimp only
      rw [if_pos rfl, i64_back _ ok.stamp, i64_back _ ok.value]
    · have := h.1
      simp [sameB, restB, keyEq, base] at this ⊢
      grind
  · rw [pulse_three p l hh k] at h
    simp at h
    have hno : 0 ≤ p.no ∧ p.no ≤ 1152921504606846976 := ⟨h.1.2, h.2⟩
    have hx : ((u64of p.no : Nat) : Int) = p.no := by rw [← u64_of, IntKind.wrap_u64]; omega
    refine ⟨{ base p with no := p.no }, ?_, ?_⟩
    · unfold pg pulseBytes
      rw [if_neg (show ¬ (base p).kind = 1 by show ¬ p.kind = 1; omega), if_neg (show ¬ (base p).kind = 2 by show ¬ p.kind = 2; omega), if_pos (show (base p).kind = 3 from k), if_neg (by omega), if_neg (by omega)]
      unfold pg3
      rw [show rnum (Buf.sevens (u64of p.no) ++ r, 0) = (u64of p.no, r, 0) from Buf.sevens_get_back _ _ (u64of_lt _)]
      have en : noG (u64of p.no, r, 0) = 0 := if_neg (fun h => by have := h.2; dsimp only at this; omega)
      rw [en, if_pos rfl]
      dsimp only
      rw [hx]
    · have := h.1.1.1
      simp [sameB, restB, keyEq, base] at this ⊢
      grind
end Go.Proofs.Ytpobjcdcimcdnaa
