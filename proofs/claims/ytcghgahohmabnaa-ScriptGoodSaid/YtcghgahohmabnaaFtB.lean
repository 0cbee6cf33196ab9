/- The walk of the document of fate.Put. -/
import Derived.Test.YtcghgahohmabnaaFtG
import Derived.Test.YtcghgahohmabnaaR05
namespace Go.Proofs.Ytcghgahohmabnaa
open Go.RowKit
theorem Below.undrew {B : Nat} {a b : World} (h : Below B a.drew b) : Below B a b := ⟨h.os, h.tape, h.output, h.size, h.block⟩
theorem foper_append {P : Program} (bt : ByteT P) {o : Oper} {a : Act} {w : World} {K : Act → World → Prop} {Q : Exit → Act → World → Prop} (s x : Operand)
    (ho : o.op = .call { callee := .builtin .append, args := #[s, x], argTypes := #[22, 22] }) {base : Nat} {A : Option Addr} {c : Nat} {l : List UInt8} (hown : Own w base A c l)
    {A2 : Option Addr} {c2 : Nat} {l2 : List UInt8} (hb : Bytes w A2 l2) (hs : a.eval s = .slice A l.length c) (hx : a.eval x = .slice A2 l2.length c2) (hsum : l.length + l2.length ≤ 140737488355328) (hbase : base ≤ w.heap.size)
    (h : ∀ A' c' l' w', Hid (l' = l ++ l2) → Own w' base A' c' l' → w.grownBy w' (blk A) → (blk A' = blk A ∨ blk A' = some w.heap.size) → K (a.put o.dst (.slice A' l'.length c')) w') : Oper.wp P o a w K Q := by
  obtain ⟨A', c', w', hr, h1, h2, h3⟩ := run_append_bytes bt w (ty := o.type) hown (c2 := c2) hb hsum hbase
  unfold Oper.wp execOp
  simp only [ho, resolve, invoke, builtin, Sem.run_bind, Sem.run_pure, Result.andThen_ok, List.map_toArray, List.map_cons, List.map_nil, hs, hx, hr]
  exact h A' c' _ w' rfl h1 h2 h3
theorem fone_u8 (w : World) (x : Int) (base : Nat) (hb : base ≤ w.heap.size) : Own (w.alloc (.cells #[.int .u8 (IntKind.u8.wrap x)] 5)) base (some ⟨w.heap.size, 0, none⟩) 1 [u8of x] := Own.one w (IntKind.u8.wrap x) (u8w_bounds x).1 (u8w_bounds x).2 hb
theorem fbytes_m (w : World) (x : Int) {t : TypeId} {g : Nat} (hg : w.heap.size = g) : Bytes (w.alloc (.cells #[.int .u8 (x % 256)] t)) (some ⟨g, 0, none⟩) [u8of x] := by
  have h := Bytes.one w (IntKind.u8.wrap x) (u8w_bounds x).1 (u8w_bounds x).2 (t := t) hg
  unfold u8of
  rw [IntKind.wrap_u8] at h ⊢
  exact h
theorem fateBytes_bad (f : Fate) (h : fateB f = false) : fateBytes f = [u8of f.kind] := by unfold fateBytes; rw [if_pos h]
theorem fateBytes_0 (f : Fate) (h : fateB f = true) (k : f.kind = 0) : fateBytes f = [u8of f.kind] ++ [u8of f.delay] := by unfold fateBytes; rw [if_neg (by rw [h]; decide), if_pos k]
theorem fateBytes_1 (f : Fate) (h : fateB f = true) (k : f.kind = 1) : fateBytes f = [u8of f.kind] := by unfold fateBytes; rw [if_neg (by rw [h]; decide), if_neg (by omega), if_neg (by omega), if_neg (by omega)]
theorem fateBytes_2 (f : Fate) (h : fateB f = true) (k : f.kind = 2) : fateBytes f = ([u8of f.kind] ++ [u8of f.delay]) ++ [u8of f.again] := by unfold fateBytes; rw [if_neg (by rw [h]; decide), if_neg (by omega), if_pos k]
theorem fateBytes_3 (f : Fate) (h : fateB f = true) (k : f.kind = 3) : fateBytes f = (([u8of f.kind] ++ [u8of f.delay]) ++ Buf.fixed (u64of f.pos) 4) ++ Buf.fixed (u64of f.bits) 4 := by unfold fateBytes; rw [if_neg (by rw [h]; decide), if_neg (by omega), if_neg (by omega), if_pos k]
set_option maxRecDepth 100000 in
set_option maxHeartbeats 2000000 in
theorem reffb_bad (q : Fate) (w : World) (hg : fateB q = false) :
    Calls Try.prog 64 #[fv q] w fun r w' => ∃ A c, r = .returned (.slice A (fateBytes q).length c) ∧ Own w' w.heap.size A c (fateBytes q) ∧ Grow w w' := by
  have hg0 := (Grow.refl w).alloc (.cells (fcells q) 78)
  have HG := hide (fun W => reffgood_any q W)
  rw [hg] at HG
  have HX := hide (fateBytes_bad q hg)
  generalize fateBytes q = X at *
  clear hg
  go_enter Try.func64, Try.ntmps64
  go_wp2_with fail
  have p0 := Box.new w (fcells q) 78 rfl
  have hwz_ : (World.alloc w (.cells (fcells q) 78)).heap.size = w.heap.size + 1 := by simp
  obtain ⟨w1, hw1⟩ : ∃ w1, World.alloc w (.cells (fcells q) 78) = w1 := ⟨_, rfl⟩
  rw [hw1] at p0 hg0 hwz_
  have hwz := hide hwz_
  clear hwz_
  have hw1' := hide hw1
  generalize World.alloc w _ = wx at *
  obtain rfl := hw1
  clear hw1'
  have hx0 := hg0.size
  have ho1 := fone_u8 wx q.kind wx.heap.size (Nat.le_refl _)
  simp only [IntKind.wrap_u8, hwz.out] at ho1
  have hb1 : Grow wx (World.alloc wx (.cells #[.int .u8 (q.kind % 256)] 5)) := (Grow.refl wx).alloc _
  generalize World.alloc wx _ = w1 at *
  refine (HG.out _).mono ?_
  rintro r w2 ⟨rfl, hbg⟩
  have ho := ho1.below hbg
  have HG := hide (Grow.trans hb1 hbg)
  clear ho1 hb1 hbg
  obtain rfl : X = [u8of q.kind] := HX.out
  obtain ⟨cp0, fp0, lp0⟩ := (Box.grow p0 HG.out).rules
  go_wp2
  go_ret
  exact ⟨_, 1, rfl, ho.mono (by omega), Grow.trans hg0 HG.out⟩
set_option maxRecDepth 100000 in
set_option maxHeartbeats 2000000 in
theorem reffb_1 (q : Fate) (w : World) (hg : fateB q = true) (hk : q.kind = 1) :
    Calls Try.prog 64 #[fv q] w fun r w' => ∃ A c, r = .returned (.slice A (fateBytes q).length c) ∧ Own w' w.heap.size A c (fateBytes q) ∧ Grow w w' := by
  have hg0 := (Grow.refl w).alloc (.cells (fcells q) 78)
  have HG := hide (fun W => reffgood_any q W)
  rw [hg] at HG
  have HX := hide (fateBytes_1 q hg hk)
  generalize fateBytes q = X at *
  clear hg
  have k1 : (q.kind == 1) = true := by simpa using hk
  have k2 : (q.kind == 2) = false := by simpa using (by omega : q.kind ≠ 2)
  have k3 : (q.kind == 3) = false := by simpa using (by omega : q.kind ≠ 3)
  clear hk
  go_enter Try.func64, Try.ntmps64
  go_wp2_with fail
  have p0 := Box.new w (fcells q) 78 rfl
  have hwz_ : (World.alloc w (.cells (fcells q) 78)).heap.size = w.heap.size + 1 := by simp
  obtain ⟨w1, hw1⟩ : ∃ w1, World.alloc w (.cells (fcells q) 78) = w1 := ⟨_, rfl⟩
  rw [hw1] at p0 hg0 hwz_
  have hwz := hide hwz_
  clear hwz_
  have hw1' := hide hw1
  generalize World.alloc w _ = wx at *
  obtain rfl := hw1
  clear hw1'
  have hx0 := hg0.size
  have ho1 := fone_u8 wx q.kind wx.heap.size (Nat.le_refl _)
  simp only [IntKind.wrap_u8, hwz.out] at ho1
  have hb1 : Grow wx (World.alloc wx (.cells #[.int .u8 (q.kind % 256)] 5)) := (Grow.refl wx).alloc _
  generalize World.alloc wx _ = w1 at *
  refine (HG.out _).mono ?_
  rintro r w2 ⟨rfl, hbg⟩
  have ho := ho1.below hbg
  have HG := hide (Grow.trans hb1 hbg)
  clear ho1 hb1 hbg
  obtain rfl : X = [u8of q.kind] := HX.out
  obtain ⟨cp0, fp0, lp0⟩ := (Box.grow p0 HG.out).rules
  go_wp2
  go_ret
  exact ⟨_, 1, rfl, ho.mono (by omega), Grow.trans hg0 HG.out⟩
set_option maxRecDepth 100000 in
set_option maxHeartbeats 2000000 in
theorem reffb_0 (q : Fate) (w : World) (hg : fateB q = true) (hk : q.kind = 0) :
    Calls Try.prog 64 #[fv q] w fun r w' => ∃ A c, r = .returned (.slice A (fateBytes q).length c) ∧ Own w' w.heap.size A c (fateBytes q) ∧ Grow w w' := by
  have hg0 := (Grow.refl w).alloc (.cells (fcells q) 78)
  have HG := hide (fun W => reffgood_any q W)
  rw [hg] at HG
  have HX := hide (fateBytes_0 q hg hk)
  generalize fateBytes q = X at *
  clear hg
  have k1 : (q.kind == 1) = false := by simpa using (by omega : q.kind ≠ 1)
  have k2 : (q.kind == 2) = false := by simpa using (by omega : q.kind ≠ 2)
  have k3 : (q.kind == 3) = false := by simpa using (by omega : q.kind ≠ 3)
  clear hk
  go_enter Try.func64, Try.ntmps64
  go_wp2_with fail
  have p0 := Box.new w (fcells q) 78 rfl
  have hwz_ : (World.alloc w (.cells (fcells q) 78)).heap.size = w.heap.size + 1 := by simp
  obtain ⟨w1, hw1⟩ : ∃ w1, World.alloc w (.cells (fcells q) 78) = w1 := ⟨_, rfl⟩
  rw [hw1] at p0 hg0 hwz_
  have hwz := hide hwz_
  clear hwz_
  have hw1' := hide hw1
  generalize World.alloc w _ = wx at *
  obtain rfl := hw1
  clear hw1'
  have hx0 := hg0.size
  have ho1 := fone_u8 wx q.kind wx.heap.size (Nat.le_refl _)
  simp only [IntKind.wrap_u8, hwz.out] at ho1
  have hb1 : Grow wx (World.alloc wx (.cells #[.int .u8 (q.kind % 256)] 5)) := (Grow.refl wx).alloc _
  generalize World.alloc wx _ = w1 at *
  refine (HG.out _).mono ?_
  rintro r w2 ⟨rfl, hbg⟩
  have ho := ho1.below hbg
  have HG := hide (Grow.trans hb1 hbg)
  clear ho1 hb1 hbg
  obtain ⟨cp0, fp0, lp0⟩ := (Box.grow p0 HG.out).rules
  have hz := HG.out.size
  go_wp2_with (at_builtin; refine wpList_append_bytes byteT rfl (.tmp 17) (.tmp 21) rfl (ho.alloc _) (fbytes_m _ q.delay rfl) rfl rfl ?_ ?_ ?_)
  · simp; try ((try have e2 := hl2_.out); (try have e4 := hl4_.out); have := hwz.out; omega)
  · (try have e2 := hl2_.out); (try have e4 := hl4_.out); have := hwz.out; simp; omega
  intro A2 c2 l2 w2 HL2 ho2 hg2 _
  have hgr := Below.grown (Below.alloc HG.out hz (.cells #[.int .u8 (q.delay % 256)] 5)) hg2 (by simp; omega) (fun q hq => by have := ho.base hq; have := hwz.out; omega)
  clear cp0 fp0 lp0
  clear HG hz hg2
  have HG := hide (show Grow wx w2 from hgr)
  clear hgr ho
  have hl2 := congrArg List.length HL2.out
  simp only [List.length_append, List.length_cons, List.length_nil] at hl2
  have hl2_ := hide hl2
  clear hl2
  obtain ⟨cp0, fp0, lp0⟩ := (Box.grow p0 HG.out).rules
  have e : l2 = X := by rw [HX.out, HL2.out]; rfl
  go_wp2
  go_ret
  subst e
  exact ⟨A2, c2, rfl, ho2.mono (by omega), Grow.trans hg0 HG.out⟩
set_option maxRecDepth 100000 in
set_option maxHeartbeats 2000000 in
theorem reffb_2 (q : Fate) (w : World) (hg : fateB q = true) (hk : q.kind = 2) :
    Calls Try.prog 64 #[fv q] w fun r w' => ∃ A c, r = .returned (.slice A (fateBytes q).length c) ∧ Own w' w.heap.size A c (fateBytes q) ∧ Grow w w' := by
  have hg0 := (Grow.refl w).alloc (.cells (fcells q) 78)
  have HG := hide (fun W => reffgood_any q W)
  rw [hg] at HG
  have HX := hide (fateBytes_2 q hg hk)
  generalize fateBytes q = X at *
  clear hg
  have k1 : (q.kind == 1) = false := by simpa using (by omega : q.kind ≠ 1)
  have k2 : (q.kind == 2) = true := by simpa using hk
  have k3 : (q.kind == 3) = false := by simpa using (by omega : q.kind ≠ 3)
  clear hk
  go_enter Try.func64, Try.ntmps64
  go_wp2_with fail
  have p0 := Box.new w (fcells q) 78 rfl
  have hwz_ : (World.alloc w (.cells (fcells q) 78)).heap.size = w.heap.size + 1 := by simp
  obtain ⟨w1, hw1⟩ : ∃ w1, World.alloc w (.cells (fcells q) 78) = w1 := ⟨_, rfl⟩
  rw [hw1] at p0 hg0 hwz_
  have hwz := hide hwz_
  clear hwz_
  have hw1' := hide hw1
  generalize World.alloc w _ = wx at *
  obtain rfl := hw1
  clear hw1'
  have hx0 := hg0.size
  have ho1 := fone_u8 wx q.kind wx.heap.size (Nat.le_refl _)
  simp only [IntKind.wrap_u8, hwz.out] at ho1
  have hb1 : Grow wx (World.alloc wx (.cells #[.int .u8 (q.kind % 256)] 5)) := (Grow.refl wx).alloc _
  generalize World.alloc wx _ = w1 at *
  refine (HG.out _).mono ?_
  rintro r w2 ⟨rfl, hbg⟩
  have ho := ho1.below hbg
  have HG := hide (Grow.trans hb1 hbg)
  clear ho1 hb1 hbg
  obtain ⟨cp0, fp0, lp0⟩ := (Box.grow p0 HG.out).rules
  have hz := HG.out.size
  go_wp2_with (at_builtin; refine wpList_append_bytes byteT rfl (.tmp 17) (.tmp 21) rfl (ho.alloc _) (fbytes_m _ q.delay rfl) rfl rfl ?_ ?_ ?_)
  · simp; try ((try have e2 := hl2_.out); (try have e4 := hl4_.out); have := hwz.out; omega)
  · (try have e2 := hl2_.out); (try have e4 := hl4_.out); have := hwz.out; simp; omega
  intro A2 c2 l2 w2 HL2 ho2 hg2 _
  have hgr := Below.grown (Below.alloc HG.out hz (.cells #[.int .u8 (q.delay % 256)] 5)) hg2 (by simp; omega) (fun q hq => by have := ho.base hq; have := hwz.out; omega)
  clear cp0 fp0 lp0
  clear HG hz hg2
  have HG := hide (show Grow wx w2 from hgr)
  clear hgr ho
  have hl2 := congrArg List.length HL2.out
  simp only [List.length_append, List.length_cons, List.length_nil] at hl2
  have hl2_ := hide hl2
  clear hl2
  obtain ⟨cp0, fp0, lp0⟩ := (Box.grow p0 HG.out).rules
  have hz := HG.out.size
  go_wp2_with (at_builtin; refine wpList_append_bytes byteT rfl (.tmp 26) (.tmp 30) rfl (ho2.alloc _) (fbytes_m _ q.again rfl) rfl rfl ?_ ?_ ?_)
  · simp; try ((try have e2 := hl2_.out); (try have e4 := hl4_.out); have := hwz.out; omega)
  · (try have e2 := hl2_.out); (try have e4 := hl4_.out); have := hwz.out; simp; omega
  intro A4 c4 l4 w4 HL4 ho4 hg4 _
  have hgr := Below.grown (Below.alloc HG.out hz (.cells #[.int .u8 (q.again % 256)] 5)) hg4 (by simp; omega) (fun q hq => by have := ho2.base hq; have := hwz.out; omega)
  clear cp0 fp0 lp0
  clear HG hz hg4
  have HG := hide (show Grow wx w4 from hgr)
  clear hgr ho2
  have hl4 := congrArg List.length HL4.out
  simp only [List.length_append, List.length_cons, List.length_nil] at hl4
  have hl4_ := hide hl4
  clear hl4
  obtain ⟨cp0, fp0, lp0⟩ := (Box.grow p0 HG.out).rules
  have e : l4 = X := by rw [HX.out, HL4.out, HL2.out]; rfl
  go_wp2
  go_ret
  subst e
  exact ⟨A4, c4, rfl, ho4.mono (by omega), Grow.trans hg0 HG.out⟩
set_option maxRecDepth 100000 in
set_option maxHeartbeats 2000000 in
theorem reffb_3 (q : Fate) (w : World) (hg : fateB q = true) (hk : q.kind = 3) :
    Calls Try.prog 64 #[fv q] w fun r w' => ∃ A c, r = .returned (.slice A (fateBytes q).length c) ∧ Own w' w.heap.size A c (fateBytes q) ∧ Grow w w' := by
  have hg0 := (Grow.refl w).alloc (.cells (fcells q) 78)
  have HG := hide (fun W => reffgood_any q W)
  rw [hg] at HG
  have HX := hide (fateBytes_3 q hg hk)
  have hF1 := hide (fun W => reffixed_any (u64of q.pos) 4 W (by omega) (u64of_lt _))
  have hF2 := hide (fun W => reffixed_any (u64of q.bits) 4 W (by omega) (u64of_lt _))
  have eP := hide (u64_of q.pos)
  have eB := hide (u64_of q.bits)
  have hs1_ := hide (show (Buf.fixed (u64of q.pos) 4).length = 4 from Buf.fixed_length _ _)
  have hs2_ := hide (show (Buf.fixed (u64of q.bits) 4).length = 4 from Buf.fixed_length _ _)
  generalize Buf.fixed (u64of q.pos) 4 = x1 at *
  generalize Buf.fixed (u64of q.bits) 4 = x2 at *
  generalize fateBytes q = X at *
  clear hg
  have k1 : (q.kind == 1) = false := by simpa using (by omega : q.kind ≠ 1)
  have k2 : (q.kind == 2) = false := by simpa using (by omega : q.kind ≠ 2)
  have k3 : (q.kind == 3) = true := by simpa using hk
  clear hk
  go_enter Try.func64, Try.ntmps64
  go_wp2_with fail
  have p0 := Box.new w (fcells q) 78 rfl
  have hwz_ : (World.alloc w (.cells (fcells q) 78)).heap.size = w.heap.size + 1 := by simp
  obtain ⟨w1, hw1⟩ : ∃ w1, World.alloc w (.cells (fcells q) 78) = w1 := ⟨_, rfl⟩
  rw [hw1] at p0 hg0 hwz_
  have hwz := hide hwz_
  clear hwz_
  have hw1' := hide hw1
  generalize World.alloc w _ = wx at *
  obtain rfl := hw1
  clear hw1'
  have hx0 := hg0.size
  have ho1 := fone_u8 wx q.kind wx.heap.size (Nat.le_refl _)
  simp only [IntKind.wrap_u8, hwz.out] at ho1
  have hb1 : Grow wx (World.alloc wx (.cells #[.int .u8 (q.kind % 256)] 5)) := (Grow.refl wx).alloc _
  generalize World.alloc wx _ = w1 at *
  refine (HG.out _).mono ?_
  rintro r w2 ⟨rfl, hbg⟩
  have ho := ho1.below hbg
  have HG := hide (Grow.trans hb1 hbg)
  clear ho1 hb1 hbg
  obtain ⟨cp0, fp0, lp0⟩ := (Box.grow p0 HG.out).rules
  have hz := HG.out.size
  go_wp2_with (at_builtin; refine wpList_append_bytes byteT rfl (.tmp 17) (.tmp 21) rfl (ho.alloc _) (fbytes_m _ q.delay rfl) rfl rfl ?_ ?_ ?_)
  · simp; try ((try have e2 := hl2_.out); (try have e4 := hl4_.out); have := hwz.out; omega)
  · (try have e2 := hl2_.out); (try have e4 := hl4_.out); have := hwz.out; simp; omega
  intro A2 c2 l2 w2 HL2 ho2 hg2 _
  have hgr := Below.grown (Below.alloc HG.out hz (.cells #[.int .u8 (q.delay % 256)] 5)) hg2 (by simp; omega) (fun q hq => by have := ho.base hq; have := hwz.out; omega)
  clear cp0 fp0 lp0
  clear HG hz hg2
  have HG := hide (show Grow wx w2 from hgr)
  clear hgr ho
  have hl2 := congrArg List.length HL2.out
  simp only [List.length_append, List.length_cons, List.length_nil] at hl2
  have hl2_ := hide hl2
  clear hl2
  obtain ⟨cp0, fp0, lp0⟩ := (Box.grow p0 HG.out).rules
  have hz := HG.out.size
  have hrf : ∀ a, Below wx.heap.size a a := Below.refl _
  have htr : ∀ a b c, Below wx.heap.size a b → Below wx.heap.size b c → Below wx.heap.size a c := fun _ _ _ h k => h.trans k
  go_wp2_with fail
  have R0 := fun (W : World) (h : Below wx.heap.size w2.drew W) => (p0.keep ((Below.trans HG.out (Below.undrew h)).block _ p0.lt)).cell
  refine wpR_region (Below wx.heap.size) [] (by kernel_rfl) ?_
  refine wpR_take hrf htr 0 rfl (by kernel_rfl) (fun _ _ _ h => h) rfl (v := ?_) ?_ ?_
  rotate_left
  · (intro w' hG; go_simp; try with_reducible rfl)
  try simp only [Act.put, List.setIfInBounds_toArray, List.set_cons_zero, List.set_cons_succ]
  refine wpR_take hrf htr 1 rfl (by kernel_rfl) (fun _ _ _ h => h) rfl (v := ?_) ?_ ?_
  rotate_left
  · (intro w' hG; go_simp; try with_reducible rfl)
  try simp only [Act.put, List.setIfInBounds_toArray, List.set_cons_zero, List.set_cons_succ]
  refine wpR_take hrf htr 2 rfl (by kernel_rfl) (fun _ _ _ h => h) rfl (v := ?_) ?_ ?_
  rotate_left
  · (intro w' hG; go_simp; try with_reducible rfl)
  try simp only [Act.put, List.setIfInBounds_toArray, List.set_cons_zero, List.set_cons_succ]
  refine wpR_take hrf htr 3 rfl (by kernel_rfl) (fun _ _ _ h => h) rfl (v := ?_) ?_ ?_
  rotate_left
  · (intro w' hG; go_simp; try with_reducible rfl)
  try simp only [Act.put, List.setIfInBounds_toArray, List.set_cons_zero, List.set_cons_succ]
  refine wpR_take hrf htr 6 rfl (by kernel_rfl) (fun _ _ _ h => h) rfl (v := ?_) ?_ ?_
  rotate_left
  · (intro w' hG; go_simp; try with_reducible rfl)
  try simp only [Act.put, List.setIfInBounds_toArray, List.set_cons_zero, List.set_cons_succ]
  refine wpR_take hrf htr 7 rfl (by kernel_rfl) (fun _ _ _ h => h) rfl (v := ?_) ?_ ?_
  rotate_left
  · (intro w' hG; go_simp; try with_reducible rfl)
  try simp only [Act.put, List.setIfInBounds_toArray, List.set_cons_zero, List.set_cons_succ]
  refine wpR_take hrf htr 8 rfl (by kernel_rfl) (fun _ _ _ h => h) rfl (v := ?_) ?_ ?_
  rotate_left
  · (intro w' hG; go_simp; try with_reducible rfl)
  try simp only [Act.put, List.setIfInBounds_toArray, List.set_cons_zero, List.set_cons_succ]
  refine wpR_call 4 rfl (by kernel_rfl) rfl fun K hK => ?_
  go_simp
  rw [eP.out]
  refine (hF1.out _).mono ?_
  rintro r w3 ⟨A3, c3, rfl, ho3, hb3⟩
  refine hK.out _ _ (.inr (Below.mono hb3 hz)) ?_
  clear hK
  try simp only [Act.put, List.setIfInBounds_toArray, List.set_cons_zero, List.set_cons_succ]
  have hz3 : wx.heap.size ≤ w3.heap.size := Nat.le_trans hz hb3.size
  have hown := ho2.drew.below hb3
  have R0 := fun (W : World) (h : Below wx.heap.size w3 W) => R0 W (Below.trans (Below.mono hb3 hz) h)
  refine wpR_call 5 rfl (by kernel_rfl) rfl fun K hK => ?_
  refine foper_append byteT (.tmp 35) (.tmp 39) rfl hown ho3.bytes rfl rfl (by have := hl2_.out; have := hs1_.out; omega) (by have := hwz.out; omega) ?_
  intro A5 c5 l5 w5 HL5 ho5 hg5 _
  refine hK.out _ _ (.inr ((Below.refl _ _).grown hg5 hz3 (fun q hq => by have := hown.base hq; have := hwz.out; omega))) ?_
  clear hK
  try simp only [Act.put, List.setIfInBounds_toArray, List.set_cons_zero, List.set_cons_succ]
  have hgr5 : Below wx.heap.size w2 w5 := Below.undrew (Below.trans (Below.mono hb3 hz) ((Below.refl _ _).grown hg5 hz3 (fun q hq => by have := hown.base hq; have := hwz.out; omega)))
  have hz5 : wx.heap.size ≤ w5.heap.size := Nat.le_trans hz hgr5.size
  have R0 := fun (W : World) (h : Below wx.heap.size w5 W) => R0 W (Below.trans ((Below.refl _ _).grown hg5 hz3 (fun q hq => by have := hown.base hq; have := hwz.out; omega)) h)
  refine wpR_call 9 rfl (by kernel_rfl) rfl fun K hK => ?_
  go_simp
  rw [eB.out]
  refine (hF2.out _).mono ?_
  rintro r w6 ⟨A6, c6, rfl, ho6, hb6⟩
  refine hK.out _ _ (.inr (Below.mono hb6 hz5)) ?_
  clear hK
  try simp only [Act.put, List.setIfInBounds_toArray, List.set_cons_zero, List.set_cons_succ]
  have hz6 : wx.heap.size ≤ w6.heap.size := Nat.le_trans hz5 hb6.size
  have hown5 := ho5.below hb6
  have hl5 := congrArg List.length HL5.out
  rw [List.length_append] at hl5
  have hl5_ := hide hl5
  clear hl5
  clear R0
  refine wpR_call 10 rfl (by kernel_rfl) rfl fun K hK => ?_
  refine foper_append byteT (.tmp 40) (.tmp 44) rfl hown5 ho6.bytes rfl rfl (by have := hl2_.out; have := hs1_.out; have := hs2_.out; have := hl5_.out; omega) (by have := hwz.out; omega) ?_
  intro A7 c7 l7 w7 HL7 ho7 hg7 _
  refine hK.out _ _ (.inr ((Below.refl _ _).grown hg7 hz6 (fun q hq => by have := hown5.base hq; have := hwz.out; omega))) ?_
  clear hK
  try simp only [Act.put, List.setIfInBounds_toArray, List.set_cons_zero, List.set_cons_succ]
  refine wpR_take hrf htr 11 rfl (by kernel_rfl) (fun _ _ _ h => h) rfl (v := ?_) ?_ ?_
  rotate_left
  · (intro w' hG; go_simp; try with_reducible rfl)
  try simp only [Act.put, List.setIfInBounds_toArray, List.set_cons_zero, List.set_cons_succ]
  refine wpR_done (by kernel_rfl) ?_ _
  have hgr7 : Below wx.heap.size w2 w7 := Below.trans hgr5 (Below.trans (Below.mono hb6 hz5) ((Below.refl _ _).grown hg7 hz6 (fun q hq => by have := hown5.base hq; have := hwz.out; omega)))
  have e : l7 = X := by rw [HX.out, HL7.out, HL5.out, HL2.out]; rfl
  go_wp2
  go_ret
  subst e
  exact ⟨A7, c7, rfl, ho7.mono (by omega), Grow.trans hg0 (Below.trans HG.out hgr7)⟩
theorem reffb_any (q : Fate) (w : World) :
    Calls Try.prog 64 #[fv q] w fun r w' => ∃ A c, r = .returned (.slice A (fateBytes q).length c) ∧ Own w' w.heap.size A c (fateBytes q) ∧ Grow w w' := by
  cases hg : fateB q with
  | false => exact reffb_bad q w hg
  | true =>
    rcases fateB_range q hg with k | k | k | k
    · exact reffb_0 q w hg k
    · exact reffb_1 q w hg k
    · exact reffb_2 q w hg k
    · exact reffb_3 q w hg k
end Go.Proofs.Ytcghgahohmabnaa
