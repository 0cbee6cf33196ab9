/- The walks of the document of chunk.Get, of chunk.Put and of its document, of a packet that is cut short, of the chapter's example. -/
import Derived.Test.YtpobjcdcimcdnaaChkG
namespace Go.Proofs.Ytpobjcdcimcdnaa
open Go.RowKit
theorem u8_u8of (x : Int) : u8 (u8of x) = .int .u8 (IntKind.u8.wrap x) := byte_val _ (u8w_bounds x).1 (u8w_bounds x).2
theorem lit3 (x y z : Int) : (#[.int .u8 (IntKind.u8.wrap x), .int .u8 (IntKind.u8.wrap y), .int .u8 (IntKind.u8.wrap z)] : Array Value) = ([u8of x, u8of y, u8of z].map u8).toArray := by
  simp only [List.map_cons, List.map_nil, u8_u8of]
def chunkS (most : Int) (s : Int × List UInt8) (p : Pkt) (l : List UInt8) : Int × List UInt8 := Buf.wput most (Buf.wput most (Buf.wput most s (Buf.sevens (u64of p.no))) [u8of p.to, u8of p.index, u8of p.total]) (Buf.sevens l.length ++ l)
def chunkBytes (p : Pkt) (l : List UInt8) : List UInt8 := (Buf.sevens (u64of p.no) ++ [u8of p.to, u8of p.index, u8of p.total]) ++ (Buf.sevens l.length ++ l)
theorem chunkBytes_len (p : Pkt) (l : List UInt8) : (chunkBytes p l).length ≤ l.length + 23 := by
  have h1 := Buf.sevens_len (u64of p.no)
  have h2 := Buf.sevens_len l.length
  unfold chunkBytes
  simp only [List.length_append, List.length_cons, List.length_nil]
  omega
theorem wput_ok' (most : Int) (b l : List UInt8) (h : (b.length : Int) + l.length ≤ most) : Buf.wput most (0, b) l = (0, b ++ l) := by
  unfold Buf.wput
  rw [if_neg (by simp), if_neg (by dsimp only; omega)]
theorem chunkS_ok (most : Int) (b : List UInt8) (p : Pkt) (l : List UInt8) (h : (b.length : Int) + l.length + 23 ≤ most) : chunkS most (0, b) p l = (0, b ++ chunkBytes p l) := by
  have h1 := Buf.sevens_len (u64of p.no)
  have h2 := Buf.sevens_len l.length
  unfold chunkS chunkBytes
  rw [wput_ok' most b _ (by omega), wput_ok' most _ _ (by simp only [List.length_append, List.length_cons, List.length_nil]; omega), wput_ok' most _ _ (by simp only [List.length_append, List.length_cons, List.length_nil]; omega)]
  simp only [List.append_assoc]
set_option maxRecDepth 100000 in
set_option maxHeartbeats 4000000 in
theorem chunkput_any (B p : Nat) (A : Option Addr) (c : Nat) (e : Int) (b : List UInt8) (most : Int) (q : Pkt) (A2 : Option Addr) (l : List UInt8) (c2 : Nat) (w : World) (h : Wr w B p A c e b most) (hl : Bytes w A2 l) (hb : b.length ≤ 999999999900) (hll : l.length ≤ 1000000000)
    (hB : B ≤ w.heap.size) (hd : l ≠ [] → ∀ g, blk A2 = some g → g ≠ p ∧ blk A ≠ some g ∧ g < w.heap.size) :
    Calls Try.prog 71 #[.pointer (some ⟨p, 0, none⟩), pv q A2 l.length c2] w fun r w' => r = .returned (.tuple #[]) ∧ Wrote w w' B p A (chunkS most (e, b) q l) most := by
  have hlt := h.lt
  have P0 := Putting.start h (pcells q A2 l.length c2) 65
  have hpx := P0.box
  unfold Holds at hpx
  have HS := hide (show chunkS most (e, b) q l = Buf.wput most (Buf.wput most (Buf.wput most (e, b) (Buf.sevens (u64of q.no))) [u8of q.to, u8of q.index, u8of q.total]) (Buf.sevens l.length ++ l) from rfl)
  generalize chunkS most (e, b) q l = X at *
  go_enter Try.func71, Try.ntmps71
  go_wp2_with fail
  refine (num_int B p A c (e, b) most q.no _ P0.wr (by simp; omega) (by simp; omega)).mono ?_
  rintro r w1 ⟨rfl, hw1⟩
  obtain ⟨A1, c1, P1⟩ := P0.step hlt (Nat.le_refl _) (by simp) (Grow.refl _) hw1
  have hb1 : (Buf.wput most (e, b) (Buf.sevens (u64of q.no))).2.length ≤ b.length + 10 := Nat.le_trans (wput_len most (e, b) _) (Nat.add_le_add_left (Buf.sevens_len _) _)
  generalize Buf.wput most (e, b) (Buf.sevens (u64of q.no)) = s1 at P1 hb1 HS
  have hB1 : B ≤ w1.heap.size := Nat.le_trans hB P1.kept.size
  clear hw1 P0 hpx h
  have hpx := P1.box
  have hz1 : w.heap.size < w1.heap.size := P1.box.lt (by simp)
  unfold Holds at hpx
  go_wp2_with fail
  refine (byte_at B p A1 c1 s1.1 s1.2 most _ [u8of q.to, u8of q.index, u8of q.total] 3 3 _ rfl (P1.wr.grow ((Grow.refl _).alloc _)) (Bytes.lit _ _ _ _ _ (lit3 _ _ _)) (by omega) (by omega) (by simp; omega)).mono ?_
  rintro r w2 ⟨rfl, hw2⟩
  obtain ⟨A2', c2', P2⟩ := P1.step hlt (Nat.le_refl _) (by simp) ((Grow.refl _).alloc _) hw2
  have hb2 : (Buf.wput most s1 [u8of q.to, u8of q.index, u8of q.total]).2.length ≤ s1.2.length + 3 := wput_len most s1 [u8of q.to, u8of q.index, u8of q.total]
  generalize Buf.wput most s1 [u8of q.to, u8of q.index, u8of q.total] = s2 at P2 hb2 HS
  have hB2 : B ≤ w2.heap.size := Nat.le_trans hB P2.kept.size
  clear hw2 P1 hpx
  have hpx := P2.box
  have hz2 : w.heap.size < w2.heap.size := P2.box.lt (by simp)
  unfold Holds at hpx
  have hl2 : Bytes w2 A2 l := fun hne => hl.kept P2.kept (fun g hg hm => by
    obtain ⟨h1, h2, _⟩ := hd hne g hg
    rcases List.mem_cons.1 hm with e | e
    · exact h1 e
    · exact h2 (by simpa using e)) hne
  have hd2 : l ≠ [] → ∀ g, blk A2 = some g → blk A2' ≠ some g := fun hne g hg hm => by
    obtain ⟨h1, h2, h3⟩ := hd hne g hg
    rcases P2.orig g hm with e | e
    · exact h2 e
    · omega
  go_wp2_with fail
  refine (wbytes_any B p A2' c2' s2.1 s2.2 most A2 l c2 _ P2.wr hl2 (by omega) (by omega) hB2 hd2).mono ?_
  rintro r w3 ⟨rfl, hw3⟩
  obtain ⟨A3, c3, P3⟩ := P2.step hlt (Nat.le_refl _) (by simp) (Grow.refl _) hw3
  go_wp2
  go_end0
  refine ⟨rfl, ?_⟩
  rw [HS.out]
  exact P3.wrote
set_option maxRecDepth 100000 in
set_option maxHeartbeats 4000000 in
theorem refchunkbytes_any (p : Pkt) (A : Option Addr) (l : List UInt8) (c : Nat) (w : World) (hl : Bytes w A l) (hn : l.length ≤ 1000000) :
    Calls Try.prog 72 #[pv p A l.length c] w fun r w' => ∃ A c, r = .returned (.slice A (chunkBytes p l).length c) ∧ Own w' w.heap.size A c (chunkBytes p l) ∧ Grow w w' := by
  have hg0 := (Grow.refl w).alloc (.cells (pcells p A l.length c) 65)
  have hN := hide (fun W => refnum_any (u64of p.no) W (u64of_lt _))
  have hB := hide (fun W h => refbytes_any A l c W h (by omega))
  have hs1 := Buf.sevens_len (u64of p.no)
  have hs2 : (Buf.sevens l.length ++ l).length ≤ l.length + 10 := by have := Buf.sevens_len l.length; rw [List.length_append]; omega
  have e3 := hide (u64_of p.no)
  have HX : Hid (chunkBytes p l = (Buf.sevens (u64of p.no) ++ [u8of p.to, u8of p.index, u8of p.total]) ++ (Buf.sevens l.length ++ l)) := rfl
  generalize chunkBytes p l = X at *
  generalize Buf.sevens (u64of p.no) = x1 at *
  generalize Buf.sevens l.length ++ l = x3 at *
  go_enter Try.func72, Try.ntmps72
  go_wp2_with fail
  have p0 := Box.new w (pcells p A l.length c) 65 rfl
  have hl0 := hl.grow hg0
  obtain ⟨w1, hw1⟩ : ∃ w1, World.alloc w (.cells (pcells p A l.length c) 65) = w1 := ⟨_, rfl⟩
  rw [hw1] at p0 hg0 hl0
  have hw1' := hide hw1
  generalize World.alloc w _ = wx at *
  obtain rfl := hw1
  clear hw1'
  have R0 := fun (W : World) (h : Below wx.heap.size wx.drew W) => (p0.keep (h.block _ p0.lt)).cell
  have hrf : ∀ w, Below wx.heap.size w w := Below.refl _
  have htr : ∀ a b c, Below wx.heap.size a b → Below wx.heap.size b c → Below wx.heap.size a c := fun _ _ _ h k => h.trans k
  refine wpR_region (Below wx.heap.size) [] (by kernel_rfl) ?_
  refine wpR_take hrf htr 0 rfl (by kernel_rfl) (fun _ _ _ h => h) rfl (v := ?_) ?_ ?_
  rotate_left
  · (intro w' hG; go_simp; try with_reducible rfl)
  try simp only [Act.put, List.setIfInBounds_toArray, List.set_cons_zero, List.set_cons_succ]
  refine wpR_take hrf htr 1 rfl (by kernel_rfl) (fun _ _ _ h => h) rfl (v := ?_) ?_ ?_
  rotate_left
  · (intro w' hG; go_simp; try with_reducible rfl)
  try simp only [Act.put, List.setIfInBounds_toArray, List.set_cons_zero, List.set_cons_succ]
  refine wpR_take hrf htr 2 rfl (by kernel_rfl) (fun _ _ _ h => h) rfl (v := ?_) ?_ ?_
  rotate_left
  · (intro w' hG; go_simp; try with_reducible rfl)
  try simp only [Act.put, List.setIfInBounds_toArray, List.set_cons_zero, List.set_cons_succ]
  refine wpR_take hrf htr 4 rfl (by kernel_rfl) (fun _ _ _ h => h) rfl (v := ?_) ?_ ?_
  rotate_left
  · (intro w' hG; go_simp; try with_reducible rfl)
  try simp only [Act.put, List.setIfInBounds_toArray, List.set_cons_zero, List.set_cons_succ]
  refine wpR_take hrf htr 5 rfl (by kernel_rfl) (fun _ _ _ h => h) rfl (v := ?_) ?_ ?_
  rotate_left
  · (intro w' hG; go_simp; try with_reducible rfl)
  try simp only [Act.put, List.setIfInBounds_toArray, List.set_cons_zero, List.set_cons_succ]
  refine wpR_take hrf htr 6 rfl (by kernel_rfl) (fun _ _ _ h => h) rfl (v := ?_) ?_ ?_
  rotate_left
  · (intro w' hG; go_simp; try with_reducible rfl)
  try simp only [Act.put, List.setIfInBounds_toArray, List.set_cons_zero, List.set_cons_succ]
  refine wpR_take hrf htr 7 rfl (by kernel_rfl) (fun _ _ _ h => h) rfl (v := ?_) ?_ ?_
  rotate_left
  · (intro w' hG; go_simp; try with_reducible rfl)
  try simp only [Act.put, List.setIfInBounds_toArray, List.set_cons_zero, List.set_cons_succ]
  refine wpR_take hrf htr 8 rfl (by kernel_rfl) (fun _ _ _ h => h) rfl (v := ?_) ?_ ?_
  rotate_left
  · (intro w' hG; go_simp; try with_reducible rfl)
  try simp only [Act.put, List.setIfInBounds_toArray, List.set_cons_zero, List.set_cons_succ]
  refine wpR_take hrf htr 9 rfl (by kernel_rfl) (fun _ _ _ h => h) rfl (v := ?_) ?_ ?_
  rotate_left
  · (intro w' hG; go_simp; try with_reducible rfl)
  try simp only [Act.put, List.setIfInBounds_toArray, List.set_cons_zero, List.set_cons_succ]
  refine wpR_take hrf htr 10 rfl (by kernel_rfl) (fun _ _ _ h => h) rfl (v := ?_) ?_ ?_
  rotate_left
  · (intro w' hG; go_simp; try with_reducible rfl)
  try simp only [Act.put, List.setIfInBounds_toArray, List.set_cons_zero, List.set_cons_succ]
  refine wpR_take hrf htr 11 rfl (by kernel_rfl) (fun _ _ _ h => h) rfl (v := ?_) ?_ ?_
  rotate_left
  · (intro w' hG; go_simp; try with_reducible rfl)
  try simp only [Act.put, List.setIfInBounds_toArray, List.set_cons_zero, List.set_cons_succ]
  refine wpR_take hrf htr 12 rfl (by kernel_rfl) (fun _ _ _ h => h) rfl (v := ?_) ?_ ?_
  rotate_left
  · (intro w' hG; go_simp; try with_reducible rfl)
  try simp only [Act.put, List.setIfInBounds_toArray, List.set_cons_zero, List.set_cons_succ]
  refine wpR_two 3 13 rfl rfl (by kernel_rfl) rfl rfl (fun K hK => ?_) (fun K hK => ?_)
  · go_simp
    rw [e3.out]
    refine (hN.out _).mono ?_
    rintro r w1 ⟨A1, c1, rfl, hown1, hg1⟩
    refine hK.out _ _ (.inr (hg1)) ?_
    clear hK
    try simp only [Act.put, List.setIfInBounds_toArray, List.set_cons_zero, List.set_cons_succ]
    have hwx : wx.heap.size ≤ w1.heap.size := hg1.size
    have R0 := fun (W : World) (h : Below wx.heap.size w1 W) => R0 W (Below.trans hg1 h)
    refine wpR_call 13 rfl (by kernel_rfl) rfl fun K hK => ?_
    go_simp
    skip
    refine hK.out _ _ (.inr ((Below.refl _ _).alloc hg1.size _)) ?_
    clear hK
    try simp only [Act.put, List.setIfInBounds_toArray, List.set_cons_zero, List.set_cons_succ]
    have hlit := Bytes.lit w1 [u8of p.to, u8of p.index, u8of p.total] #[.int .u8 (IntKind.u8.wrap p.to), .int .u8 (IntKind.u8.wrap p.index), .int .u8 (IntKind.u8.wrap p.total)] 5 (0, 0) (lit3 _ _ _)
    refine wpR_call 14 rfl (by kernel_rfl) rfl fun K hK => ?_
    refine oper_append_bytes byteT (.tmp 7) (.tmp 17) rfl (hown1.alloc (.cells #[.int .u8 (IntKind.u8.wrap p.to), .int .u8 (IntKind.u8.wrap p.index), .int .u8 (IntKind.u8.wrap p.total)] 5)) hlit rfl rfl (by simp; omega) (by simp; omega) ?_
    intro A3 c3 l3 w3 HL hown3 hg3 _
    refine hK.out _ _ (.inr ((Below.refl _ _).grown hg3 (by simp; omega) (fun q hq => hown1.base hq))) ?_
    clear hK
    try simp only [Act.put, List.setIfInBounds_toArray, List.set_cons_zero, List.set_cons_succ]
    have hgr : Grow wx w3 := Below.trans (Grow.of_drew hg1) (Below.grown ((Below.refl wx.heap.size w1).alloc hg1.size (.cells #[.int .u8 (IntKind.u8.wrap p.to), .int .u8 (IntKind.u8.wrap p.index), .int .u8 (IntKind.u8.wrap p.total)] 5)) hg3 (by simp; omega) (fun q hq => hown1.base hq))
    have hown3b : wx.heap.size ≤ wx.drew.heap.size := Nat.le_refl _
    refine wpR_take hrf htr 15 rfl (by kernel_rfl) (fun _ _ _ h => h) rfl (v := ?_) ?_ ?_
    rotate_left
    · (intro w' hG; go_simp; try with_reducible rfl)
    try simp only [Act.put, List.setIfInBounds_toArray, List.set_cons_zero, List.set_cons_succ]
    refine wpR_done (by kernel_rfl) ?_ _
    have e := HL.out
    subst e
    clear R0
    have hge3 : ∀ q, blk A3 = some q → wx.heap.size ≤ q := fun q h => Nat.le_trans hown3b (hown3.base h)
    have hx3 : (x1 ++ [u8of p.to, u8of p.index, u8of p.total]).length = x1.length + 3 := by rw [List.length_append]; rfl
    generalize x1 ++ [u8of p.to, u8of p.index, u8of p.total] = y at *
    have hx3_ := hide hx3
    clear hx3
    have HG3 := hide hgr
    clear hgr
    obtain ⟨cp0, fp0, lp0⟩ := (Box.grow p0 HG3.out).rules
    have hl3 := hl0.grow HG3.out
    go_wp2_with fail
    refine (hB.out _ hl3).mono ?_
    rintro r w4 ⟨A4, c4, rfl, hown4, hb4⟩
    clear cp0 fp0
    have hg4 := hb4.size
    have hg3 := HG3.out.size
    go_wp2_with (at_builtin; refine wpList_append_bytes byteT rfl (.tmp 19) (.tmp 22) rfl (Own.mono (hown3.below hb4) (show wx.heap.size ≤ _ from hown3b)) hown4.bytes rfl rfl ?_ ?_ ?_)
    · have := hx3_.out; omega
    · omega
    intro A5 c5 l5 w5 HL5 hown5 hg5 _
    go_wp2
    go_ret
    have e5 : l5 = X := HL5.out.trans HX.out.symm
    subst e5
    exact ⟨A5, c5, rfl, hown5.mono hg0.size, Grow.trans hg0 (Below.grown (Below.trans HG3.out (Below.mono hb4 hg3)) hg5 (by omega) (fun q hq => by have := hge3 q hq; omega))⟩
  · go_simp
    skip
    refine hK.out _ _ (.inr (by exact (Grow.refl (World.drew wx)).alloc _)) ?_
    clear hK
    try simp only [Act.put, List.setIfInBounds_toArray, List.set_cons_zero, List.set_cons_succ]
    have hlit := Bytes.lit wx.drew [u8of p.to, u8of p.index, u8of p.total] #[.int .u8 (IntKind.u8.wrap p.to), .int .u8 (IntKind.u8.wrap p.index), .int .u8 (IntKind.u8.wrap p.total)] 5 (0, 0) (lit3 _ _ _)
    have R0 := fun (W : World) (h : Below wx.heap.size (wx.drew.alloc (.cells #[.int .u8 (IntKind.u8.wrap p.to), .int .u8 (IntKind.u8.wrap p.index), .int .u8 (IntKind.u8.wrap p.total)] 5)) W) => R0 W (Below.trans (by exact (Grow.refl (World.drew wx)).alloc _) h)
    refine wpR_call 3 rfl (by kernel_rfl) rfl fun K hK => ?_
    go_simp
    rw [e3.out]
    refine (hN.out _).mono ?_
    rintro r w1 ⟨A1, c1, rfl, hown1, hg1⟩
    refine hK.out _ _ (.inr (Below.mono hg1 (by simp))) ?_
    clear hK
    try simp only [Act.put, List.setIfInBounds_toArray, List.set_cons_zero, List.set_cons_succ]
    have hlit := hlit.grow hg1
    have hwx : wx.heap.size < w1.heap.size := by have := hg1.size; simp at this; omega
    refine wpR_call 14 rfl (by kernel_rfl) rfl fun K hK => ?_
    refine oper_append_bytes byteT (.tmp 7) (.tmp 17) rfl hown1 hlit rfl rfl (by simp; omega) hg1.size ?_
    intro A3 c3 l3 w3 HL hown3 hg3 _
    refine hK.out _ _ (.inr ((Below.refl _ _).grown hg3 (by omega) (fun q hq => by have := hown1.base hq; try simp at this; omega))) ?_
    clear hK
    try simp only [Act.put, List.setIfInBounds_toArray, List.set_cons_zero, List.set_cons_succ]
    have hgr : Grow wx w3 := Below.trans (Grow.of_drew ((Grow.refl wx.drew).alloc (.cells #[.int .u8 (IntKind.u8.wrap p.to), .int .u8 (IntKind.u8.wrap p.index), .int .u8 (IntKind.u8.wrap p.total)] 5))) (Below.grown (Below.mono hg1 (by simp)) hg3 (by first | omega | (simp; omega)) (fun q hq => by have := hown1.base hq; try simp at this; omega))
    have hown3b : wx.heap.size ≤ (wx.drew.alloc (.cells #[.int .u8 (IntKind.u8.wrap p.to), .int .u8 (IntKind.u8.wrap p.index), .int .u8 (IntKind.u8.wrap p.total)] 5)).heap.size := by simp
    refine wpR_take hrf htr 15 rfl (by kernel_rfl) (fun _ _ _ h => h) rfl (v := ?_) ?_ ?_
    rotate_left
    · (intro w' hG; go_simp; try with_reducible rfl)
    try simp only [Act.put, List.setIfInBounds_toArray, List.set_cons_zero, List.set_cons_succ]
    refine wpR_done (by kernel_rfl) ?_ _
    have e := HL.out
    subst e
    clear R0
    have hge3 : ∀ q, blk A3 = some q → wx.heap.size ≤ q := fun q h => Nat.le_trans hown3b (hown3.base h)
    have hx3 : (x1 ++ [u8of p.to, u8of p.index, u8of p.total]).length = x1.length + 3 := by rw [List.length_append]; rfl
    generalize x1 ++ [u8of p.to, u8of p.index, u8of p.total] = y at *
    have hx3_ := hide hx3
    clear hx3
    have HG3 := hide hgr
    clear hgr
    obtain ⟨cp0, fp0, lp0⟩ := (Box.grow p0 HG3.out).rules
    have hl3 := hl0.grow HG3.out
    go_wp2_with fail
    refine (hB.out _ hl3).mono ?_
    rintro r w4 ⟨A4, c4, rfl, hown4, hb4⟩
    clear cp0 fp0
    have hg4 := hb4.size
    have hg3 := HG3.out.size
    go_wp2_with (at_builtin; refine wpList_append_bytes byteT rfl (.tmp 19) (.tmp 22) rfl (Own.mono (hown3.below hb4) (show wx.heap.size ≤ _ from hown3b)) hown4.bytes rfl rfl ?_ ?_ ?_)
    · have := hx3_.out; omega
    · omega
    intro A5 c5 l5 w5 HL5 hown5 hg5 _
    go_wp2
    go_ret
    have e5 : l5 = X := HL5.out.trans HX.out.symm
    subst e5
    exact ⟨A5, c5, rfl, hown5.mono hg0.size, Grow.trans hg0 (Below.grown (Below.trans HG3.out (Below.mono hb4 hg3)) hg5 (by omega) (fun q hq => by have := hge3 q hq; omega))⟩
set_option maxRecDepth 100000 in
set_option maxHeartbeats 2000000 in
theorem cut13_any (p : Pkt) (A : Option Addr) (l : List UInt8) (c : Nat) (w : World) (hl : l.length ≤ c) (hc : c ≤ 9223372036854775807) (hb : Bytes w A l) :
    Calls Try.prog 64 #[pv p A l.length c] w fun e w' => ∃ A' c', e = .returned (pv p A' (l.take 80).length c') ∧ Own w' w.heap.size A' c' (l.take 80) ∧ Grow w w' := by
  by_cases h : l.length ≤ 80
  · have HT : Hid (l.take 80 = l) := hide (List.take_of_length_le h)
    go_enter Try.func64, Try.ntmps64
    go_wp2_with (at_builtin; refine wpList_append_bytes byteT rfl (.tmp 3) (.tmp 10) rfl (Own.made' ((w.alloc (.cells (pcells p A l.length c) 65)).alloc (.cells (pcells noP none 0 0) 65)) w.heap.size (w.heap.size + 1 + 1) (by simp) (by omega)) (((hb.alloc _).alloc _).alloc _) rfl rfl ?_ ?_ ?_)
    · simp; omega
    · simp; omega
    intro A' c' l' w2 HL hown hg hat
    obtain ⟨p0, q0, hg2⟩ := app2 hg rfl
    have hq : ∀ q, blk A' = some q → q ≠ w.heap.size ∧ q ≠ w.heap.size + 1 := fun q hq => by
      rcases hat with h | h
      · rw [h] at hq; simp [blk] at hq; omega
      · rw [h] at hq; simp at hq; omega
    obtain ⟨cp0, fp0, lp0⟩ := p0.rules
    obtain ⟨cq0, fq0, lq0⟩ := q0.rules
    clear hg hat
    go_wp2
    have e : l' = l.take 80 := by rw [HT.out]; exact HL.out.trans (by simp)
    subst e
    refine bodyPost_ret (v := pv p A' (l.take 80).length c') (by simp [results, Try.results64, go_sem, cq0]) rfl ?_
    refine ⟨A', c', rfl, ?_, ?_⟩
    · repeat (with_reducible refine Own.setAt ?_ ?_ _; rotate_left; · (intro q h; have := hq q h; simp; omega))
      exact hown
    · show Below w.heap.size w _
      repeat (with_reducible refine Below.setCell ?_ (by simp) _)
      exact hg2
  · have HT : Hid (80 = (l.take 80).length) := hide (by rw [List.length_take]; omega)
    have hb' : Bytes w A (l.take 80) := hb.take 80
    go_enter Try.func64, Try.ntmps64
    go_wp2_with (at_builtin; refine wpList_append_bytes byteT rfl (.tmp 3) (.tmp 10) rfl (Own.made' ((w.alloc (.cells (pcells p A l.length c) 65)).alloc (.cells (pcells noP none 0 0) 65)) w.heap.size (w.heap.size + 1 + 1) (by simp) (by omega)) (((hb'.alloc _).alloc _).alloc _) rfl (by rw [← HT.out]; rfl) ?_ ?_ ?_)
    · rw [← HT.out]; simp
    · simp; omega
    intro A' c' l' w2 HL hown hg hat
    obtain ⟨p0, q0, hg2⟩ := app2 hg rfl
    have hq : ∀ q, blk A' = some q → q ≠ w.heap.size ∧ q ≠ w.heap.size + 1 := fun q hq => by
      rcases hat with h | h
      · rw [h] at hq; simp [blk] at hq; omega
      · rw [h] at hq; simp at hq; omega
    obtain ⟨cp0, fp0, lp0⟩ := p0.rules
    obtain ⟨cq0, fq0, lq0⟩ := q0.rules
    clear hg hat
    go_wp2
    have e : l' = l.take 80 := by exact HL.out.trans (by simp)
    subst e
    refine bodyPost_ret (v := pv p A' (l.take 80).length c') (by simp [results, Try.results64, go_sem, cq0]) rfl ?_
    refine ⟨A', c', rfl, ?_, ?_⟩
    · repeat (with_reducible refine Own.setAt ?_ ?_ _; rotate_left; · (intro q h; have := hq q h; simp; omega))
      exact hown
    · show Below w.heap.size w _
      repeat (with_reducible refine Below.setCell ?_ (by simp) _)
      exact hg2
def mateB (p q : Pkt) : Bool := p.no == q.no && p.to == q.to && p.total == q.total
theorem run_eqState (p q : Pkt) (W : World) : (Op.equalIn 10000 133 (.agg #[.int .i64 p.no, .int .i64 p.to, .int .i64 p.total]) (.agg #[.int .i64 q.no, .int .i64 q.to, .int .i64 q.total])).run Try.prog W = .ok (mateB p q) W := by
  by_cases h1 : p.no = q.no <;> by_cases h2 : p.to = q.to <;> by_cases h3 : p.total = q.total <;> simp [go_sem, mateB, h1, h2, h3]
set_option maxRecDepth 100000 in
set_option maxHeartbeats 2000000 in
theorem mate_any (p q : Pkt) (A B : Option Addr) (n m c d : Nat) (w : World) (hn : n ≤ 1000000000000) (hm : m ≤ 1000000000000) :
    Calls Try.prog 70 #[pv p A n c, pv q B m d] w fun e w' => e = .returned (.bool (chunkB p n && (chunkB q m && mateB p q))) ∧ Grow w w' := by
  have HP := hide (fun W => chunkgood_any p A n c W hn)
  have HQ := hide (fun W => chunkgood_any q B m d W hm)
  have HS := fun W => run_eqState p q W
  generalize chunkB p n = b1 at *
  generalize chunkB q m = b2 at *
  generalize mateB p q = b3 at *
  go_enter Try.func70, Try.ntmps70
  go_wp2_with fail
  refine (HP.out _).mono ?_
  rintro r w1 ⟨rfl, hb1⟩
  obtain ⟨p0, q0, hg1⟩ := peel2 hb1
  have p0_ := hide p0
  clear p0
  have p0 := p0_
  clear p0_
  have q0_ := hide q0
  clear q0
  have q0 := q0_
  clear q0_
  have HG1 := hide (show Grow w w1 from hg1)
  have hsz1 : w.heap.size ≤ w1.heap.size := HG1.out.size
  have hq1 : w.heap.size ≤ w1.heap.size := hg1.size
  have HS1 := hide hg1
  clear hb1 hg1
  obtain ⟨cp0, fp0, lp0⟩ := (show Box w1 _ _ from p0.out).rules
  obtain ⟨cq0, fq0, lq0⟩ := (show Box w1 _ _ from q0.out).rules
  cases b1 with
  | false =>
    go_wp2
    go_ret
    exact ⟨rfl, HG1.out⟩
  | true =>
    go_wp2_with fail
    refine (HQ.out _).mono ?_
    rintro r w2 ⟨rfl, hb2⟩
    clear cp0 fp0 lp0 cq0 fq0 lq0
    have hg2 := hb2
    have p0_ := hide ((show Box w1 _ _ from p0.out).grow hg2)
    clear p0
    have p0 := p0_
    clear p0_
    have q0_ := hide ((show Box w1 _ _ from q0.out).grow hg2)
    clear q0
    have q0 := q0_
    clear q0_
    have HG2 := hide (Grow.trans (show Grow w w1 from HG1.out) hg2)
    clear HG1
    have hsz2 : w.heap.size ≤ w2.heap.size := HG2.out.size
    have hq2 : w1.heap.size ≤ w2.heap.size := hg2.size
    have HS2 := hide hg2
    clear hb2 hg2
    obtain ⟨cp0, fp0, lp0⟩ := (show Box w2 _ _ from p0.out).rules
    obtain ⟨cq0, fq0, lq0⟩ := (show Box w2 _ _ from q0.out).rules
    cases b2 with
    | false =>
      go_wp2
      go_ret
      exact ⟨rfl, HG2.out⟩
    | true =>
      go_wp2
      go_ret
      exact ⟨by cases b3 <;> rfl, HG2.out⟩
theorem ex13_S : chunkS 9 (0, []) (chunkP 9 1 0 2 3 0 1) [97, 98] = (0, [2, 3, 0, 1, 2, 97, 98]) := by decide +kernel
theorem ex13_B : chunkB (chunkP 9 1 0 2 3 0 1) 2 = true := by decide
theorem ex13_M : mateB (chunkP 9 1 0 2 3 0 1) (chunkP 9 1 0 2 3 0 1) = true := by decide
set_option maxRecDepth 100000 in
set_option maxHeartbeats 2000000 in
theorem works13_any (w : World) : Calls Try.prog 69 #[] w fun e w' => e = .returned (.bool true) ∧ Grow w w' := by
  have hPut := hide (fun (g : Nat) (A : Option Addr) (c : Nat) (W : World) (hwr : Wr W g g none 0 0 [] 9) (hl : Bytes W A [97, 98]) (hq : g ≤ W.heap.size) (hd : ∀ k, blk A = some k → k ≠ g ∧ blk none ≠ some k ∧ k < W.heap.size) => chunkput_any g g none 0 0 [] 9 (chunkP 9 1 0 2 3 0 1) A [97, 98] c W hwr hl (by simp) (by simp) hq (fun _ => hd))
  rw [ex13_S] at hPut
  have hG := hide (fun A c W => chunkgood_any (chunkP 9 1 0 2 3 0 1) A 2 c W (by decide))
  have hM := hide (fun A c W => mate_any (chunkP 9 1 0 2 3 0 1) (chunkP 9 1 0 2 3 0 1) A A 2 2 c c W (by decide) (by decide))
  rw [ex13_B] at hG
  rw [ex13_B, ex13_M] at hM
  have kc := fun (w : World) (C : Array Value) (n c : Nat) => Lib.run_convert_bytes_const (P := Try.prog) w 25 5 C n c Try.underlying25 Try.underlying5
  go_enter Try.func69, Try.ntmps69
  go_wp2_with fail
  refine (chunknew_any 9 1 0 2 3 0 1 (some ⟨w.heap.size, 0, none⟩) [97, 98] 2 _ (Bytes.lit w [97, 98] #[.int .u8 97, .int .u8 98] 5 (2, 3) rfl) (by decide)).mono ?_
  rintro r w1 ⟨A1, c1, rfl, hown1, hb1⟩
  have hb1 := Grow.trans ((Grow.refl w).alloc _) hb1
  have hby := hown1.bytes
  have hlt1 := fun q h => hown1.lt (q := q) h
  clear hown1
  have hg1 := hb1
  have HG1 := hide (show Grow w w1 from hg1)
  have hsz1 : w.heap.size ≤ w1.heap.size := HG1.out.size
  have hq1 : w.heap.size ≤ w1.heap.size := hg1.size
  have HS1 := hide hg1
  clear hb1 hg1
  go_wp2_with fail
  refine (new_at 9 (w1.heap.size + 1) _ (by decide) (by decide) (by simp)).mono ?_
  rintro r w2 ⟨rfl, hwr, hb2⟩
  obtain ⟨p0, hg2⟩ := peel1 hb2
  have p0_ := hide p0
  clear p0
  have p0 := p0_
  clear p0_
  have hby := hby.grow hg2
  have HG2 := hide (Grow.trans (show Grow w w1 from HG1.out) hg2)
  clear HG1
  have hsz2 : w.heap.size ≤ w2.heap.size := HG2.out.size
  have hq2 : w1.heap.size ≤ w2.heap.size := hg2.size
  have HS2 := hide hg2
  clear hb2 hg2
  obtain ⟨cp0, fp0, lp0⟩ := (show Box w2 _ _ from p0.out).rules
  go_wp2_with fail
  have hlp := lp0
  refine (hPut.out _ _ _ _ hwr hby (by omega) (fun k hk => by have := hlt1 k hk; exact ⟨by omega, by simp [blk], by omega⟩)).mono ?_
  rintro r w3 ⟨rfl, A3, c3, hwr3, hb3, _⟩
  simp only [foot, blk, Option.map_none, Option.toList_none] at hb3
  clear cp0 fp0 lp0
  have hg3 := hb3
  have p0_ := hide ((show Box w2 _ _ from p0.out).kept hg3 (by simp; try omega))
  clear p0
  have p0 := p0_
  clear p0_
  have HG3 := hide (Kept.fresh1 hg3 (show Grow w w2 from HG2.out) (by omega))
  clear HG2
  have hsz3 : w.heap.size ≤ w3.heap.size := HG3.out.size
  have hq3 : w2.heap.size ≤ w3.heap.size := hg3.size
  have HS3 := hide hg3
  clear hb3 hg3
  obtain ⟨cp0, fp0, lp0⟩ := (show Box w3 _ _ from p0.out).rules
  go_wp2_with fail
  refine (done_ok _ _ A3 c3 _ 9 _ hwr3 (by simp)).mono ?_
  rintro r w4 ⟨A4, c4, rfl, hown4, hb4⟩
  have hcv : (convert 25 9 (.slice A4 7 c4)).run Try.prog w4 = .ok (.string ⟨#[2, 3, 0, 1, 2, 97, 98]⟩) w4 := conv_any c4 hown4.bytes
  clear hwr hwr3 hown4
  clear cp0 fp0 lp0
  have hg4 := hb4
  have p0_ := hide ((show Box w3 _ _ from p0.out).grow hg4)
  clear p0
  have p0 := p0_
  clear p0_
  have HG4 := hide (Grow.trans (show Grow w w3 from HG3.out) hg4)
  clear HG3
  have hsz4 : w.heap.size ≤ w4.heap.size := HG4.out.size
  have hq4 : w3.heap.size ≤ w4.heap.size := hg4.size
  have HS4 := hide hg4
  clear hb4 hg4
  obtain ⟨cp0, fp0, lp0⟩ := (show Box w4 _ _ from p0.out).rules
  go_wp2_with fail
  refine (hG.out _ _ _).mono ?_
  rintro r w5 ⟨rfl, hb5⟩
  clear cp0 fp0 lp0
  have hg5 := hb5
  have p0_ := hide ((show Box w4 _ _ from p0.out).grow hg5)
  clear p0
  have p0 := p0_
  clear p0_
  have HG5 := hide (Grow.trans (show Grow w w4 from HG4.out) hg5)
  clear HG4
  have hsz5 : w.heap.size ≤ w5.heap.size := HG5.out.size
  have hq5 : w4.heap.size ≤ w5.heap.size := hg5.size
  have HS5 := hide hg5
  clear hb5 hg5
  obtain ⟨cp0, fp0, lp0⟩ := (show Box w5 _ _ from p0.out).rules
  go_wp2_with fail
  refine (hM.out _ _ _).mono ?_
  rintro r w6 ⟨rfl, hb6⟩
  clear cp0 fp0 lp0
  have hg6 := hb6
  have p0_ := hide ((show Box w5 _ _ from p0.out).grow hg6)
  clear p0
  have p0 := p0_
  clear p0_
  have HG6 := hide (Grow.trans (show Grow w w5 from HG5.out) hg6)
  clear HG5
  have hsz6 : w.heap.size ≤ w6.heap.size := HG6.out.size
  have hq6 : w5.heap.size ≤ w6.heap.size := hg6.size
  have HS6 := hide hg6
  clear hb6 hg6
  obtain ⟨cp0, fp0, lp0⟩ := (show Box w6 _ _ from p0.out).rules
  go_wp2
  go_ret
  exact ⟨rfl, HG6.out⟩
end Go.Proofs.Ytpobjcdcimcdnaa
