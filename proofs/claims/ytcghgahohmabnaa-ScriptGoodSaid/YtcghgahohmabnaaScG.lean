/- Acts (chapter 46): the document's bytes of one, of many. -/
import Derived.Test.YtcghgahohmabnaaSc3
import Derived.Test.YtcghgahohmabnaaScB
import Derived.Test.YtcghgahohmabnaaFtB
namespace Go.Proofs.Ytcghgahohmabnaa
open Go.RowKit
set_option maxRecDepth 100000 in
set_option maxHeartbeats 2000000 in
theorem refzig_any (x : Int) (w : World) (h1 : Hid (-9223372036854775808 ≤ x)) (h2 : Hid (x < 9223372036854775808)) :
    Calls Try.prog 142 #[.int .i64 x] w fun r w' => r = .returned (.int .u64 (Buf.zig x : Nat)) ∧ w = w' := by
  have h1 := h1.out
  have h2 := h2.out
  by_cases hx : x < 0
  · have HZ := hide (show (Buf.zig x : Int) = -2 * x - 1 by unfold Buf.zig; rw [if_pos hx]; omega)
    go_enter Try.func142, Try.ntmps142
    go_wp2
    go_ret
    exact ⟨ret_int (by rw [HZ.out]; first | omega | (simp only [wrap64, IntKind.wrap_i64]; omega) | (simp only [IntKind.wrap_u64]; omega)), rfl⟩
  · have HZ := hide (show (Buf.zig x : Int) = 2 * x by unfold Buf.zig; rw [if_neg hx]; omega)
    go_enter Try.func142, Try.ntmps142
    go_wp2
    go_ret
    exact ⟨ret_int (by rw [HZ.out]; first | omega | (simp only [wrap64, IntKind.wrap_i64]; omega) | (simp only [IntKind.wrap_u64]; omega)), rfl⟩
set_option maxRecDepth 100000 in
set_option maxHeartbeats 2000000 in
theorem refone_1 (p : ActP) (A : Option Addr) (l : List UInt8) (c : Nat) (w : World) (_hb : Bytes w A l) (_hlen : l.length ≤ 1000000) (hk : p.kind = 1) :
    Calls Try.prog 118 #[av p A l.length c] w fun r w' => ∃ A' c', r = .returned (.slice A' (actBytes p l).length c') ∧ Own w' w.heap.size A' c' (actBytes p l) ∧ Grow w w' := by
  obtain ⟨kind, node, n, f⟩ := p
  dsimp only at *
  subst hk
  have HX := hide (show actBytes ⟨1, node, n, f⟩ l = [u8of 1] ++ [u8of n] from rfl)
  generalize actBytes _ l = X at *
  have ho1 := Own.one (w.alloc (.cells (acells ⟨1, node, n, f⟩ A l.length c) 108)) (base := w.heap.size) 1 (by decide) (by decide) (by simp)
  simp only [World.size_alloc] at ho1
  go_enter Try.func118, Try.ntmps118
  go_wp2_with (at_builtin; refine Hid.out (?_ : Hid _))
  refine hide ?_
  refine (wpList_append_bytes byteT rfl (.tmp 12) (.tmp 16) rfl (ho1.alloc _) (fbytes_m _ n (by simp)) rfl rfl ?_ ?_ ?_)
  · simp
  · simp; omega
  intro A2 c2 l2 w2 HL2 ho2 hg2 _
  have hg := grown_after ((((Grow.refl w).alloc _).alloc _).alloc _) hg2 (fun q h => by simp [blk] at h; omega)
  go_wp2
  go_ret
  have e : l2 = X := by rw [HX.out, HL2.out]; rfl
  subst e
  exact ⟨A2, c2, rfl, ho2, hg⟩
set_option maxRecDepth 100000 in
set_option maxHeartbeats 2000000 in
theorem refone_4 (p : ActP) (A : Option Addr) (l : List UInt8) (c : Nat) (w : World) (_hb : Bytes w A l) (_hlen : l.length ≤ 1000000) (hk : p.kind = 4) :
    Calls Try.prog 118 #[av p A l.length c] w fun r w' => ∃ A' c', r = .returned (.slice A' (actBytes p l).length c') ∧ Own w' w.heap.size A' c' (actBytes p l) ∧ Grow w w' := by
  obtain ⟨kind, node, n, f⟩ := p
  dsimp only at *
  subst hk
  have HX := hide (show actBytes ⟨4, node, n, f⟩ l = [u8of 4] ++ [u8of node] from rfl)
  generalize actBytes _ l = X at *
  have ho1 := Own.one (w.alloc (.cells (acells ⟨4, node, n, f⟩ A l.length c) 108)) (base := w.heap.size) 4 (by decide) (by decide) (by simp)
  simp only [World.size_alloc] at ho1
  go_enter Try.func118, Try.ntmps118
  go_wp2_with (at_builtin; refine Hid.out (?_ : Hid _))
  refine hide ?_
  refine (wpList_append_bytes byteT rfl (.tmp 50) (.tmp 54) rfl (ho1.alloc _) (fbytes_m _ node (by simp)) rfl rfl ?_ ?_ ?_)
  · simp
  · simp; omega
  intro A2 c2 l2 w2 HL2 ho2 hg2 _
  have hg := grown_after ((((Grow.refl w).alloc _).alloc _).alloc _) hg2 (fun q h => by simp [blk] at h; omega)
  go_wp2
  go_ret
  have e : l2 = X := by rw [HX.out, HL2.out]; rfl
  subst e
  exact ⟨A2, c2, rfl, ho2, hg⟩
set_option maxRecDepth 100000 in
set_option maxHeartbeats 2000000 in
theorem refone_5 (p : ActP) (A : Option Addr) (l : List UInt8) (c : Nat) (w : World) (_hb : Bytes w A l) (_hlen : l.length ≤ 1000000) (hk : p.kind = 5) :
    Calls Try.prog 118 #[av p A l.length c] w fun r w' => ∃ A' c', r = .returned (.slice A' (actBytes p l).length c') ∧ Own w' w.heap.size A' c' (actBytes p l) ∧ Grow w w' := by
  obtain ⟨kind, node, n, f⟩ := p
  dsimp only at *
  subst hk
  have HX := hide (show actBytes ⟨5, node, n, f⟩ l = [u8of 5] ++ [u8of node] from rfl)
  generalize actBytes _ l = X at *
  have ho1 := Own.one (w.alloc (.cells (acells ⟨5, node, n, f⟩ A l.length c) 108)) (base := w.heap.size) 5 (by decide) (by decide) (by simp)
  simp only [World.size_alloc] at ho1
  go_enter Try.func118, Try.ntmps118
  go_wp2_with (at_builtin; refine Hid.out (?_ : Hid _))
  refine hide ?_
  refine (wpList_append_bytes byteT rfl (.tmp 50) (.tmp 54) rfl (ho1.alloc _) (fbytes_m _ node (by simp)) rfl rfl ?_ ?_ ?_)
  · simp
  · simp; omega
  intro A2 c2 l2 w2 HL2 ho2 hg2 _
  have hg := grown_after ((((Grow.refl w).alloc _).alloc _).alloc _) hg2 (fun q h => by simp [blk] at h; omega)
  go_wp2
  go_ret
  have e : l2 = X := by rw [HX.out, HL2.out]; rfl
  subst e
  exact ⟨A2, c2, rfl, ho2, hg⟩
set_option maxRecDepth 100000 in
set_option maxHeartbeats 2000000 in
theorem refone_7 (p : ActP) (A : Option Addr) (l : List UInt8) (c : Nat) (w : World) (_hb : Bytes w A l) (_hlen : l.length ≤ 1000000) (hk : p.kind = 7) :
    Calls Try.prog 118 #[av p A l.length c] w fun r w' => ∃ A' c', r = .returned (.slice A' (actBytes p l).length c') ∧ Own w' w.heap.size A' c' (actBytes p l) ∧ Grow w w' := by
  obtain ⟨kind, node, n, f⟩ := p
  dsimp only at *
  subst hk
  have HX := hide (show actBytes ⟨7, node, n, f⟩ l = [u8of 7] ++ [u8of node] from rfl)
  generalize actBytes _ l = X at *
  have ho1 := Own.one (w.alloc (.cells (acells ⟨7, node, n, f⟩ A l.length c) 108)) (base := w.heap.size) 7 (by decide) (by decide) (by simp)
  simp only [World.size_alloc] at ho1
  go_enter Try.func118, Try.ntmps118
  go_wp2_with (at_builtin; refine Hid.out (?_ : Hid _))
  refine hide ?_
  refine (wpList_append_bytes byteT rfl (.tmp 50) (.tmp 54) rfl (ho1.alloc _) (fbytes_m _ node (by simp)) rfl rfl ?_ ?_ ?_)
  · simp
  · simp; omega
  intro A2 c2 l2 w2 HL2 ho2 hg2 _
  have hg := grown_after ((((Grow.refl w).alloc _).alloc _).alloc _) hg2 (fun q h => by simp [blk] at h; omega)
  go_wp2
  go_ret
  have e : l2 = X := by rw [HX.out, HL2.out]; rfl
  subst e
  exact ⟨A2, c2, rfl, ho2, hg⟩
set_option maxRecDepth 100000 in
set_option maxHeartbeats 2000000 in
theorem refone_8 (p : ActP) (A : Option Addr) (l : List UInt8) (c : Nat) (w : World) (_hb : Bytes w A l) (_hlen : l.length ≤ 1000000) (hk : p.kind = 8) :
    Calls Try.prog 118 #[av p A l.length c] w fun r w' => ∃ A' c', r = .returned (.slice A' (actBytes p l).length c') ∧ Own w' w.heap.size A' c' (actBytes p l) ∧ Grow w w' := by
  obtain ⟨kind, node, n, f⟩ := p
  dsimp only at *
  subst hk
  have HX := hide (show actBytes ⟨8, node, n, f⟩ l = [u8of 8] ++ [u8of node] from rfl)
  generalize actBytes _ l = X at *
  have ho1 := Own.one (w.alloc (.cells (acells ⟨8, node, n, f⟩ A l.length c) 108)) (base := w.heap.size) 8 (by decide) (by decide) (by simp)
  simp only [World.size_alloc] at ho1
  go_enter Try.func118, Try.ntmps118
  go_wp2_with (at_builtin; refine Hid.out (?_ : Hid _))
  refine hide ?_
  refine (wpList_append_bytes byteT rfl (.tmp 50) (.tmp 54) rfl (ho1.alloc _) (fbytes_m _ node (by simp)) rfl rfl ?_ ?_ ?_)
  · simp
  · simp; omega
  intro A2 c2 l2 w2 HL2 ho2 hg2 _
  have hg := grown_after ((((Grow.refl w).alloc _).alloc _).alloc _) hg2 (fun q h => by simp [blk] at h; omega)
  go_wp2
  go_ret
  have e : l2 = X := by rw [HX.out, HL2.out]; rfl
  subst e
  exact ⟨A2, c2, rfl, ho2, hg⟩
set_option maxRecDepth 100000 in
set_option maxHeartbeats 2000000 in
theorem refone_3 (p : ActP) (A : Option Addr) (l : List UInt8) (c : Nat) (w : World) (_hb : Bytes w A l) (_hlen : l.length ≤ 1000000) (hk : p.kind = 3) :
    Calls Try.prog 118 #[av p A l.length c] w fun r w' => ∃ A' c', r = .returned (.slice A' (actBytes p l).length c') ∧ Own w' w.heap.size A' c' (actBytes p l) ∧ Grow w w' := by
  obtain ⟨kind, node, n, f⟩ := p
  dsimp only at *
  subst hk
  have HX := hide (show actBytes ⟨3, node, n, f⟩ l = [u8of 3] ++ fateBytes f from rfl)
  have hfl := fateBytes_len10 f
  have HB := hide (fun W => reffb_any f W)
  generalize actBytes _ l = X at *
  generalize fateBytes f = Y at *
  have ho1 := Own.one (w.alloc (.cells (acells ⟨3, node, n, f⟩ A l.length c) 108)) (base := w.heap.size) 3 (by decide) (by decide) (by simp)
  simp only [World.size_alloc] at ho1
  go_enter Try.func118, Try.ntmps118
  go_wp2_with fail
  refine (HB.out _).mono ?_
  rintro r w2 ⟨A3, c3, rfl, ho3, hb2⟩
  have ho2 := ho1.below hb2
  have hg2 := Grow.trans (((Grow.refl w).alloc _).alloc _) hb2
  have hs2 := hb2.size
  simp at hs2
  go_wp2_with (at_builtin; refine Hid.out (?_ : Hid _))
  refine hide ?_
  refine (wpList_append_bytes byteT rfl (.tmp 33) (.tmp 36) rfl ho2 ho3.bytes rfl rfl ?_ ?_ ?_)
  · simp; omega
  · omega
  intro A4 c4 l4 w4 HL4 ho4 hg4 _
  have hg := grown_after hg2 hg4 (fun q h => by simp [blk] at h; omega)
  go_wp2
  go_ret
  have e : l4 = X := by rw [HX.out, HL4.out]; rfl
  subst e
  exact ⟨A4, c4, rfl, ho4, hg⟩
set_option maxRecDepth 100000 in
set_option maxHeartbeats 2000000 in
theorem refone_2 (p : ActP) (A : Option Addr) (l : List UInt8) (c : Nat) (w : World) (hb : Bytes w A l) (_hlen : l.length ≤ 1000000) (hn1 : -9223372036854775808 ≤ p.n) (hn2 : p.n < 9223372036854775808) (hk : p.kind = 2) :
    Calls Try.prog 118 #[av p A l.length c] w fun r w' => ∃ A' c', r = .returned (.slice A' (actBytes p l).length c') ∧ Own w' w.heap.size A' c' (actBytes p l) ∧ Grow w w' := by
  obtain ⟨kind, node, n, f⟩ := p
  dsimp only at *
  subst hk
  have HX := hide (show actBytes ⟨2, node, n, f⟩ l = ([u8of 2] ++ [u8of node]) ++ Buf.sevens (Buf.zig n) from rfl)
  generalize actBytes _ l = X at *
  have HZ := hide (fun W => refzig_any n W (hide hn1) (hide hn2))
  have hzl := zig_lt n hn1 hn2
  have HN := hide (fun W => refnum_any (Buf.zig n) W hzl)
  have hyl := Buf.sevens_len (Buf.zig n)
  generalize Buf.sevens (Buf.zig n) = Y at *
  have p0 := Box.new w (acells ⟨2, node, n, f⟩ A l.length c) 108 rfl
  have hwz := hide (show (World.alloc w (.cells (acells ⟨2, node, n, f⟩ A l.length c) 108)).heap.size = w.heap.size + 1 by simp)
  have hg0 := (Grow.refl w).alloc (.cells (acells ⟨2, node, n, f⟩ A l.length c) 108)
  have hbx := hb.alloc (.cells (acells ⟨2, node, n, f⟩ A l.length c) 108)
  obtain ⟨wx, hwx⟩ : ∃ wx, World.alloc w (.cells (acells ⟨2, node, n, f⟩ A l.length c) 108) = wx := ⟨_, rfl⟩
  rw [hwx] at p0 hg0 hwz hbx
  have ho1 := Own.one wx (base := wx.heap.size) 2 (by decide) (by decide) (Nat.le_refl _)
  have hg1 := (Grow.refl wx).alloc (.cells #[.int .u8 2] 5)
  go_enter Try.func118, Try.ntmps118
  obtain ⟨cp0, fp0, lp0⟩ := p0.rules
  go_wp2_with fail
  have hwxh := hide hwx
  clear hwx cp0 fp0 lp0
  generalize hw1 : World.alloc wx _ = w1 at *
  have hw1h := hide hw1
  clear hw1
  have HG := hide hg1
  have hz := HG.out.size
  have hb1 := hbx.grow HG.out
  obtain ⟨cp0, fp0, lp0⟩ := (Box.grow p0 HG.out).rules
  have hrf : ∀ a, Below wx.heap.size a a := Below.refl _
  have htr : ∀ a b c, Below wx.heap.size a b → Below wx.heap.size b c → Below wx.heap.size a c := fun _ _ _ h k => h.trans k
  have R0 := fun (W : World) (h : Below wx.heap.size w1.drew W) => (p0.keep ((Below.trans HG.out (Below.undrew h)).block _ p0.lt)).cell
  refine wpR_region (Below wx.heap.size) [] (by kernel_rfl) ?_
  refine wpR_take hrf htr 0 rfl (by kernel_rfl) (fun _ _ _ h => h) rfl (v := ?_) ?_ ?_
  rotate_left
  · (intro w' hG; go_simp; try with_reducible rfl)
  try simp only [Act.put, List.setIfInBounds_toArray, List.set_cons_zero, List.set_cons_succ]
  refine wpR_take hrf htr 1 rfl (by kernel_rfl) (fun _ _ _ h => h) rfl (v := ?_) ?_ ?_
  rotate_left
  · (intro w' hG; go_simp; try with_reducible rfl)
  try simp only [Act.put, List.setIfInBounds_toArray, List.set_cons_zero, List.set_cons_succ]
  refine wpR_take hrf htr 2 rfl (by kernel_rfl) (fun _ _ _ h => h) rfl (v := ?_) ?_ ?_
  rotate_left
  · (intro w' hG; go_simp; try with_reducible rfl)
  try simp only [Act.put, List.setIfInBounds_toArray, List.set_cons_zero, List.set_cons_succ]
  refine wpR_take hrf htr 3 rfl (by kernel_rfl) (fun _ _ _ h => h) rfl (v := ?_) ?_ ?_
  rotate_left
  · (intro w' hG; go_simp; try with_reducible rfl)
  try simp only [Act.put, List.setIfInBounds_toArray, List.set_cons_zero, List.set_cons_succ]
  refine wpR_take hrf htr 6 rfl (by kernel_rfl) (fun _ _ _ h => h) rfl (v := ?_) ?_ ?_
  rotate_left
  · (intro w' hG; go_simp; try with_reducible rfl)
  try simp only [Act.put, List.setIfInBounds_toArray, List.set_cons_zero, List.set_cons_succ]
  refine wpR_take hrf htr 7 rfl (by kernel_rfl) (fun _ _ _ h => h) rfl (v := ?_) ?_ ?_
  rotate_left
  · (intro w' hG; go_simp; try with_reducible rfl)
  try simp only [Act.put, List.setIfInBounds_toArray, List.set_cons_zero, List.set_cons_succ]
  refine wpR_call 4 rfl (by kernel_rfl) rfl fun K hK => ?_
  go_simp
  skip
  refine hK.out _ _ (.inr (Below.alloc (Below.refl wx.heap.size (World.drew w1)) hz (.cells #[.int .u8 (IntKind.u8.wrap node)] 5))) ?_
  clear hK
  try simp only [Act.put, List.setIfInBounds_toArray, List.set_cons_zero, List.set_cons_succ]
  have hb4 : Below wx.heap.size (World.drew w1) (World.drew (World.alloc w1 (.cells #[.int .u8 (IntKind.u8.wrap node)] 5))) := Below.alloc (Below.refl wx.heap.size (World.drew w1)) hz (.cells #[.int .u8 (IntKind.u8.wrap node)] 5)
  have hby : Bytes (World.drew (World.alloc w1 (.cells #[.int .u8 (IntKind.u8.wrap node)] 5))) (some ⟨w1.heap.size, 0, none⟩) [u8of node] := Bytes.one w1 (IntKind.u8.wrap node) (u8w_bounds node).1 (u8w_bounds node).2 rfl
  have ho4 : Own (World.drew (World.alloc w1 (.cells #[.int .u8 (IntKind.u8.wrap node)] 5))) _ _ _ _ := (ho1.alloc (.cells #[.int .u8 (IntKind.u8.wrap node)] 5)).drew
  have hz4 : wx.heap.size ≤ (World.drew (World.alloc w1 (.cells #[.int .u8 (IntKind.u8.wrap node)] 5))).heap.size := Nat.le_trans hz hb4.size
  generalize World.drew (World.alloc w1 (.cells #[.int .u8 (IntKind.u8.wrap node)] 5)) = w4 at *
  have R0 := fun (W : World) (h : Below wx.heap.size w4 W) => R0 W (Below.trans hb4 h)
  refine wpR_call 5 rfl (by kernel_rfl) rfl fun K hK => ?_
  refine foper_append byteT (.tmp 20) (.tmp 24) rfl ho4 hby rfl rfl (by simp) (by have := hwz.out; omega) ?_
  intro A5 c5 l5 w5 HL5 ho5 hg5 _
  refine hK.out _ _ (.inr ((Below.refl _ _).grown hg5 hz4 (fun q hq => by have := ho4.base hq; omega))) ?_
  clear hK
  try simp only [Act.put, List.setIfInBounds_toArray, List.set_cons_zero, List.set_cons_succ]
  have hb5 : Below wx.heap.size w4 w5 := (Below.refl _ _).grown hg5 hz4 (fun q hq => by have := ho4.base hq; omega)
  have hz5 : wx.heap.size ≤ w5.heap.size := Nat.le_trans hz4 hb5.size
  have R0 := fun (W : World) (h : Below wx.heap.size w5 W) => R0 W (Below.trans hb5 h)
  have hl5 := congrArg List.length HL5.out
  simp only [List.length_append, List.length_cons, List.length_nil] at hl5
  have hl5_ := hide hl5
  clear hl5
  refine wpR_call 8 rfl (by kernel_rfl) rfl fun K hK => ?_
  go_simp
  refine (HZ.out _).mono ?_
  rintro r w' ⟨rfl, rfl⟩
  refine hK.out _ _ (.inr (Below.refl _ _)) ?_
  clear hK
  try simp only [Act.put, List.setIfInBounds_toArray, List.set_cons_zero, List.set_cons_succ]
  refine wpR_call 9 rfl (by kernel_rfl) rfl fun K hK => ?_
  go_simp
  refine (HN.out _).mono ?_
  rintro r w8 ⟨AY, cY, rfl, hoY, hbY⟩
  refine hK.out _ _ (.inr (Below.mono hbY hz5)) ?_
  clear hK
  try simp only [Act.put, List.setIfInBounds_toArray, List.set_cons_zero, List.set_cons_succ]
  have hb8 : Below wx.heap.size w5 w8 := Below.mono hbY hz5
  have hz8 : wx.heap.size ≤ w8.heap.size := Nat.le_trans hz5 hb8.size
  have ho8 := ho5.below hbY
  refine wpR_call 10 rfl (by kernel_rfl) rfl fun K hK => ?_
  refine foper_append byteT (.tmp 25) (.tmp 29) rfl ho8 hoY.bytes rfl rfl (by have := hl5_.out; omega) (by have := hwz.out; omega) ?_
  intro A9 c9 l9 w9 HL9 ho9 hg9 _
  refine hK.out _ _ (.inr ((Below.refl _ _).grown hg9 hz8 (fun q hq => by have := ho8.base hq; omega))) ?_
  clear hK
  try simp only [Act.put, List.setIfInBounds_toArray, List.set_cons_zero, List.set_cons_succ]
  have hb9 : Below wx.heap.size w8 w9 := (Below.refl _ _).grown hg9 hz8 (fun q hq => by have := ho8.base hq; omega)
  refine wpR_take hrf htr 11 rfl (by kernel_rfl) (fun _ _ _ h => h) rfl (v := ?_) ?_ ?_
  rotate_left
  · (intro w' hG; go_simp; try with_reducible rfl)
  try simp only [Act.put, List.setIfInBounds_toArray, List.set_cons_zero, List.set_cons_succ]
  refine wpR_done (by kernel_rfl) ?_ _
  have hgr : Below wx.heap.size w1 w9 := Below.undrew (Below.trans hb4 (Below.trans hb5 (Below.trans hb8 hb9)))
  have e : l9 = X := by rw [HX.out, HL9.out, HL5.out]; rfl
  go_wp2
  go_ret
  subst e
  exact ⟨A9, c9, rfl, ho9.mono (by have := hwz.out; omega), Grow.trans hg0 (Below.trans HG.out hgr)⟩
theorem Bytes.belowN {w w' : World} {B : Nat} {A : Option Addr} {l : List UInt8} (h : Bytes w A l) (hb : Below B w w') (hA : l ≠ [] → ∀ q, blk A = some q → q < B) : Bytes w' A l := by
  intro hne
  obtain ⟨b, o, rfl, hc⟩ := h hne
  have hq := hA hne b rfl
  have hbk := hb.block b hq
  exact ⟨b, o, rfl, fun i hi => by rw [← hc i hi]; exact World.cell?_of_block (w := w) hbk⟩
set_option maxRecDepth 100000 in
set_option maxHeartbeats 2000000 in
theorem refone_6 (p : ActP) (A : Option Addr) (l : List UInt8) (c : Nat) (w : World) (hb : Bytes w A l) (hlen : l.length ≤ 1000000) (hk : p.kind = 6) :
    Calls Try.prog 118 #[av p A l.length c] w fun r w' => ∃ A' c', r = .returned (.slice A' (actBytes p l).length c') ∧ Own w' w.heap.size A' c' (actBytes p l) ∧ Grow w w' := by
  obtain ⟨kind, node, n, f⟩ := p
  dsimp only at *
  subst hk
  have HX := hide (show actBytes ⟨6, node, n, f⟩ l = ([u8of 6] ++ [u8of node]) ++ (Buf.sevens l.length ++ l) from rfl)
  generalize actBytes _ l = X at *
  have HN := hide (fun W h => refbytes_any A l c W h (by omega))
  have hyl : (Buf.sevens l.length ++ l).length ≤ 1000010 := by have := Buf.sevens_len l.length; rw [List.length_append]; omega
  generalize Buf.sevens l.length ++ l = Y at *
  have hbin : l ≠ [] → ∀ q, blk A = some q → q < (World.alloc w (.cells (acells ⟨6, node, n, f⟩ A l.length c) 108)).heap.size := fun hne q hq => by have := hb.inn hne q hq; simp; omega
  have p0 := Box.new w (acells ⟨6, node, n, f⟩ A l.length c) 108 rfl
  have hwz := hide (show (World.alloc w (.cells (acells ⟨6, node, n, f⟩ A l.length c) 108)).heap.size = w.heap.size + 1 by simp)
  have hg0 := (Grow.refl w).alloc (.cells (acells ⟨6, node, n, f⟩ A l.length c) 108)
  have hbx := hb.alloc (.cells (acells ⟨6, node, n, f⟩ A l.length c) 108)
  obtain ⟨wx, hwx⟩ : ∃ wx, World.alloc w (.cells (acells ⟨6, node, n, f⟩ A l.length c) 108) = wx := ⟨_, rfl⟩
  rw [hwx] at p0 hg0 hwz hbx hbin
  have ho1 := Own.one wx (base := wx.heap.size) 6 (by decide) (by decide) (Nat.le_refl _)
  have hg1 := (Grow.refl wx).alloc (.cells #[.int .u8 6] 5)
  go_enter Try.func118, Try.ntmps118
  obtain ⟨cp0, fp0, lp0⟩ := p0.rules
  go_wp2_with fail
  have hwxh := hide hwx
  clear hwx cp0 fp0 lp0
  generalize hw1 : World.alloc wx _ = w1 at *
  have hw1h := hide hw1
  clear hw1
  have HG := hide hg1
  have hz := HG.out.size
  have hb1 := hbx.grow HG.out
  obtain ⟨cp0, fp0, lp0⟩ := (Box.grow p0 HG.out).rules
  have hrf : ∀ a, Below wx.heap.size a a := Below.refl _
  have htr : ∀ a b c, Below wx.heap.size a b → Below wx.heap.size b c → Below wx.heap.size a c := fun _ _ _ h k => h.trans k
  have R0 := fun (W : World) (h : Below wx.heap.size w1.drew W) => (p0.keep ((Below.trans HG.out (Below.undrew h)).block _ p0.lt)).cell
  refine wpR_region (Below wx.heap.size) [] (by kernel_rfl) ?_
  refine wpR_take hrf htr 0 rfl (by kernel_rfl) (fun _ _ _ h => h) rfl (v := ?_) ?_ ?_
  rotate_left
  · (intro w' hG; go_simp; try with_reducible rfl)
  try simp only [Act.put, List.setIfInBounds_toArray, List.set_cons_zero, List.set_cons_succ]
  refine wpR_take hrf htr 1 rfl (by kernel_rfl) (fun _ _ _ h => h) rfl (v := ?_) ?_ ?_
  rotate_left
  · (intro w' hG; go_simp; try with_reducible rfl)
  try simp only [Act.put, List.setIfInBounds_toArray, List.set_cons_zero, List.set_cons_succ]
  refine wpR_take hrf htr 2 rfl (by kernel_rfl) (fun _ _ _ h => h) rfl (v := ?_) ?_ ?_
  rotate_left
  · (intro w' hG; go_simp; try with_reducible rfl)
  try simp only [Act.put, List.setIfInBounds_toArray, List.set_cons_zero, List.set_cons_succ]
  refine wpR_take hrf htr 3 rfl (by kernel_rfl) (fun _ _ _ h => h) rfl (v := ?_) ?_ ?_
  rotate_left
  · (intro w' hG; go_simp; try with_reducible rfl)
  try simp only [Act.put, List.setIfInBounds_toArray, List.set_cons_zero, List.set_cons_succ]
  refine wpR_take hrf htr 6 rfl (by kernel_rfl) (fun _ _ _ h => h) rfl (v := ?_) ?_ ?_
  rotate_left
  · (intro w' hG; go_simp; try with_reducible rfl)
  try simp only [Act.put, List.setIfInBounds_toArray, List.set_cons_zero, List.set_cons_succ]
  refine wpR_take hrf htr 7 rfl (by kernel_rfl) (fun _ _ _ h => h) rfl (v := ?_) ?_ ?_
  rotate_left
  · (intro w' hG; go_simp; try with_reducible rfl)
  try simp only [Act.put, List.setIfInBounds_toArray, List.set_cons_zero, List.set_cons_succ]
  refine wpR_call 4 rfl (by kernel_rfl) rfl fun K hK => ?_
  go_simp
  skip
  refine hK.out _ _ (.inr (Below.alloc (Below.refl wx.heap.size (World.drew w1)) hz (.cells #[.int .u8 (IntKind.u8.wrap node)] 5))) ?_
  clear hK
  try simp only [Act.put, List.setIfInBounds_toArray, List.set_cons_zero, List.set_cons_succ]
  have hb4 : Below wx.heap.size (World.drew w1) (World.drew (World.alloc w1 (.cells #[.int .u8 (IntKind.u8.wrap node)] 5))) := Below.alloc (Below.refl wx.heap.size (World.drew w1)) hz (.cells #[.int .u8 (IntKind.u8.wrap node)] 5)
  have hby : Bytes (World.drew (World.alloc w1 (.cells #[.int .u8 (IntKind.u8.wrap node)] 5))) (some ⟨w1.heap.size, 0, none⟩) [u8of node] := Bytes.one w1 (IntKind.u8.wrap node) (u8w_bounds node).1 (u8w_bounds node).2 rfl
  have ho4 : Own (World.drew (World.alloc w1 (.cells #[.int .u8 (IntKind.u8.wrap node)] 5))) _ _ _ _ := (ho1.alloc (.cells #[.int .u8 (IntKind.u8.wrap node)] 5)).drew
  have hz4 : wx.heap.size ≤ (World.drew (World.alloc w1 (.cells #[.int .u8 (IntKind.u8.wrap node)] 5))).heap.size := Nat.le_trans hz hb4.size
  generalize World.drew (World.alloc w1 (.cells #[.int .u8 (IntKind.u8.wrap node)] 5)) = w4 at *
  have R0 := fun (W : World) (h : Below wx.heap.size w4 W) => R0 W (Below.trans hb4 h)
  refine wpR_call 5 rfl (by kernel_rfl) rfl fun K hK => ?_
  refine foper_append byteT (.tmp 40) (.tmp 44) rfl ho4 hby rfl rfl (by simp) (by have := hwz.out; omega) ?_
  intro A5 c5 l5 w5 HL5 ho5 hg5 _
  refine hK.out _ _ (.inr ((Below.refl _ _).grown hg5 hz4 (fun q hq => by have := ho4.base hq; omega))) ?_
  clear hK
  try simp only [Act.put, List.setIfInBounds_toArray, List.set_cons_zero, List.set_cons_succ]
  have hb5 : Below wx.heap.size w4 w5 := (Below.refl _ _).grown hg5 hz4 (fun q hq => by have := ho4.base hq; omega)
  have hz5 : wx.heap.size ≤ w5.heap.size := Nat.le_trans hz4 hb5.size
  have R0 := fun (W : World) (h : Below wx.heap.size w5 W) => R0 W (Below.trans hb5 h)
  have hl5 := congrArg List.length HL5.out
  simp only [List.length_append, List.length_cons, List.length_nil] at hl5
  have hl5_ := hide hl5
  clear hl5
  refine wpR_call 8 rfl (by kernel_rfl) rfl fun K hK => ?_
  go_simp
  refine (HN.out _ (hb1.belowN (Below.undrew (Below.trans hb4 hb5)) hbin)).mono ?_
  rintro r w8 ⟨AY, cY, rfl, hoY, hbY⟩
  refine hK.out _ _ (.inr (Below.mono hbY hz5)) ?_
  clear hK
  try simp only [Act.put, List.setIfInBounds_toArray, List.set_cons_zero, List.set_cons_succ]
  have hb8 : Below wx.heap.size w5 w8 := Below.mono hbY hz5
  have hz8 : wx.heap.size ≤ w8.heap.size := Nat.le_trans hz5 hb8.size
  have ho8 := ho5.below hbY
  refine wpR_call 9 rfl (by kernel_rfl) rfl fun K hK => ?_
  refine foper_append byteT (.tmp 45) (.tmp 48) rfl ho8 hoY.bytes rfl rfl (by have := hl5_.out; omega) (by have := hwz.out; omega) ?_
  intro A9 c9 l9 w9 HL9 ho9 hg9 _
  refine hK.out _ _ (.inr ((Below.refl _ _).grown hg9 hz8 (fun q hq => by have := ho8.base hq; omega))) ?_
  clear hK
  try simp only [Act.put, List.setIfInBounds_toArray, List.set_cons_zero, List.set_cons_succ]
  have hb9 : Below wx.heap.size w8 w9 := (Below.refl _ _).grown hg9 hz8 (fun q hq => by have := ho8.base hq; omega)
  refine wpR_take hrf htr 10 rfl (by kernel_rfl) (fun _ _ _ h => h) rfl (v := ?_) ?_ ?_
  rotate_left
  · (intro w' hG; go_simp; try with_reducible rfl)
  try simp only [Act.put, List.setIfInBounds_toArray, List.set_cons_zero, List.set_cons_succ]
  refine wpR_done (by kernel_rfl) ?_ _
  have hgr : Below wx.heap.size w1 w9 := Below.undrew (Below.trans hb4 (Below.trans hb5 (Below.trans hb8 hb9)))
  have e : l9 = X := by rw [HX.out, HL9.out, HL5.out]; rfl
  go_wp2
  go_ret
  subst e
  exact ⟨A9, c9, rfl, ho9.mono (by have := hwz.out; omega), Grow.trans hg0 (Below.trans HG.out hgr)⟩
theorem refone_any (p : ActP) (A : Option Addr) (l : List UInt8) (c : Nat) (w : World) (hb : Bytes w A l) (hlen : l.length ≤ 1000000) (hg : actB p l = true) :
    Calls Try.prog 118 #[av p A l.length c] w fun r w' => ∃ A' c', r = .returned (.slice A' (actBytes p l).length c') ∧ Own w' w.heap.size A' c' (actBytes p l) ∧ Grow w w' := by
  have hn := (actB_n p l hg).1
  have hk : p.kind = 1 ∨ p.kind = 2 ∨ p.kind = 3 ∨ p.kind = 4 ∨ p.kind = 5 ∨ p.kind = 6 ∨ p.kind = 7 ∨ p.kind = 8 := by
    unfold actB at hg
    split at hg
    · omega
    split at hg
    · omega
    split at hg
    · omega
    split at hg
    · omega
    split at hg
    · omega
    · cases hg
  rcases hk with k | k | k | k | k | k | k | k
  · exact refone_1 p A l c w hb hlen k
  · exact refone_2 p A l c w hb hlen hn.1 hn.2 k
  · exact refone_3 p A l c w hb hlen k
  · exact refone_4 p A l c w hb hlen k
  · exact refone_5 p A l c w hb hlen k
  · exact refone_6 p A l c w hb hlen k
  · exact refone_7 p A l c w hb hlen k
  · exact refone_8 p A l c w hb hlen k
end Go.Proofs.Ytcghgahohmabnaa
