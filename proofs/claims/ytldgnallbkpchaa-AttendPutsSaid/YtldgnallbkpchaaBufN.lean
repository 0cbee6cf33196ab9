/- The walks of numbers in sevens, and of the rest of a writer. -/
import Derived.Test.YtldgnallbkpchaaBufW
namespace Go.Proofs.Ytldgnallbkpchaa
open Go.RowKit
theorem or128 (X : Nat) : bits .or .u8 ((X : Int) % 256) 128 = ((X % 128 + 128 : Nat) : Int) := by
  have h := u8_or_nat (X % 256) 128 (by omega) (by omega)
  rw [(show ∀ a : Fin 256, a.val ||| 128 = a.val % 128 + 128 by decide +kernel) ⟨X % 256, by omega⟩] at h
  have e : ((X : Int) % 256) = ((X % 256 : Nat) : Int) := by omega
  rw [e]
  rw [show X % 256 % 128 = X % 128 by omega] at h
  exact h
set_option maxRecDepth 100000 in
set_option maxHeartbeats 1000000 in
theorem sevens_any (x : Nat) (w : World) (hx : Hid (x < 18446744073709551616)) :
    Calls Try.prog 139 #[.int .u64 x] w fun r w' => ∃ A c, r = .returned (.slice A (Buf.sevens x).length c) ∧ Own w' w.heap.size A c (Buf.sevens x) ∧ Grow w w' := by
  go_enter Try.func139, Try.ntmps139
  go_wp2
  go_loopw [0, 3] (fun v b wr => ∃ (k X : Nat) (A : Option Addr) (c : Nat) (l : List UInt8), v = .int .u64 (X : Nat) ∧ b = .slice A l.length c ∧ Hid (X = x / 128 ^ k) ∧ Hid (l = Buf.sevTo x k) ∧ Hid (∀ j, j < k → 128 ≤ x / 128 ^ j) ∧ Own wr w.heap.size A c l ∧ Below w.heap.size w wr)
    (fun v _ _ => (intOf v).toNat)
  case atStart => exact ⟨0, x, none, 0, [], rfl, rfl, hide (by simp), hide rfl, hide (fun j h => absurd h (by omega)), Own.nil_ _ _, Below.refl _ _⟩
  case round =>
    obtain ⟨k, X, A, c, l, rfl, rfl, HX, HL, HJ, hown, hbel⟩ := hrel
    have HK := hide (fun (h : 128 ≤ X) => Buf.seven_small x k hx.out (by rw [← HX.out]; exact h))
    have HLL := hide (show l.length = k by rw [HL.out, Buf.sevTo_length])
    by_cases h : 128 ≤ X
    · have hk9 := HK.out h
      have hlen : l.length ≤ 9 := by rw [HLL.out]; omega
      have h1 := Bytes.one wr ((X % 128 + 128 : Nat) : Int) (by omega) (by omega) (t := 5) rfl
      have hbel1 := hbel.alloc hbel.size (.cells #[.int .u8 ((X % 128 + 128 : Nat) : Int)] 5)
      have EO := or128 X
      go_wp2_with (at_builtin; refine wpList_append_bytes byteT rfl (.tmp 6) (.tmp 10) rfl (hown.alloc _) h1 rfl rfl ?_ ?_ ?_)
      · simp; omega
      · exact hbel1.size
      intro A' c' l' w2 HL' hown2 hg2 _
      have hbel2 : Below w.heap.size w w2 := hbel1.grown hg2 hbel1.size (fun q hq => hown.base hq)
      go_wp2
      go_roundw
      case rel => exact ⟨k + 1, X / 128, A', c', l', rfl, rfl, hide (by rw [HX.out, Nat.div_div_eq_div_mul, Nat.pow_succ]), hide (by rw [HL'.out, HL.out, show ((X : Int) % 128 + 128).toNat = X % 128 + 128 by omega, HX.out]; rfl), hide (fun j hj => by
          rcases Nat.lt_or_ge j k with h' | h'
          · exact HJ.out j h'
          · obtain rfl : j = k := by omega
            rw [← HX.out]; exact h), hown2, hbel2⟩
      case measure => simp [intOf]; omega
    · have hk : k ≤ 9 := by
        rcases Nat.eq_zero_or_pos k with h0 | h0
        · omega
        · have := Buf.seven_small x (k - 1) hx.out (HJ.out (k - 1) (by omega)); omega
      have HS := hide (show Buf.sevens x = Buf.sevTo x k ++ [UInt8.ofNat (x / 128 ^ k)] from Buf.sevF_of k 9 x hk HJ.out (by rw [← HX.out]; omega))
      have hlen : l.length ≤ 9 := by rw [HLL.out]; exact hk
      have h1 := Bytes.one wr ((X : Nat) : Int) (by omega) (by omega) (t := 5) rfl
      have hbel1 := hbel.alloc hbel.size (.cells #[.int .u8 ((X : Nat) : Int)] 5)
      go_wp2_with (at_builtin; refine wpList_append_bytes byteT rfl (.tmp 14) (.tmp 17) rfl (hown.alloc _) h1 rfl rfl ?_ ?_ ?_)
      · simp; omega
      · exact hbel1.size
      intro A' c' l' w2 HL' hown2 hg2 _
      have hbel2 : Below w.heap.size w w2 := hbel1.grown hg2 hbel1.size (fun q hq => hown.base hq)
      have e : l' = Buf.sevens x := by rw [HL'.out, HS.out, HL.out, HX.out]
      subst e
      go_wp2
      go_ret
      exact ⟨A', c', rfl, hown2, hbel2⟩
/-- block g has n cells, of which the first k are f -/
def RowTo (w : World) (g n k : Nat) (f : Nat → Value) : Prop := ∃ (cs : Array Value) (t : TypeId), w.heap[g]? = some (.cells cs t (0, 0)) ∧ cs.size = n ∧ ∀ i, i < k → cs[i]? = some (f i)
section
variable {w w' : World} {g n k : Nat} {f : Nat → Value}
theorem RowTo.cell (h : RowTo w g n k f) (hk : k < n) : ∃ v, w.cell? ⟨g, k, none⟩ = some v := by
  obtain ⟨cs, t, hb, hs, _⟩ := h
  rw [cell_of_row w g k cs t (0, 0) hb]
  exact ⟨cs[k], by simp [hs, hk]⟩
theorem RowTo.at_ (h : RowTo w g n k f) (i : Nat) (hi : i < k) : w.cell? ⟨g, i, none⟩ = some (f i) := by
  obtain ⟨cs, t, hb, hs, hc⟩ := h
  rw [cell_of_row w g i cs t (0, 0) hb]
  exact hc i hi
theorem RowTo.frozen (h : RowTo w g n k f) (i : Nat) : w.frozen? ⟨g, i, none⟩ = false := by
  obtain ⟨cs, t, hb, _⟩ := h
  exact frozen_of_row w g i cs t hb
theorem RowTo.set (h : RowTo w g n k f) (hk : k < n) : RowTo (w.setCell ⟨g, k, none⟩ (f k)) g n (k + 1) f := by
  obtain ⟨cs, t, hb, hs, hc⟩ := h
  refine ⟨cs.setIfInBounds k _, t, heap_setCell_same w g k cs t _ hb, by simpa using hs, fun i hi => ?_⟩
  rw [Array.getElem?_setIfInBounds]
  by_cases e : k = i
  · subst e; simp [hs, hk]
  · rw [if_neg e]; exact hc i (by omega)
theorem RowTo.keep (h : RowTo w g n k f) (hb : w'.heap[g]? = w.heap[g]?) : RowTo w' g n k f := by
  obtain ⟨cs, t, h1, h2, hc⟩ := h
  exact ⟨cs, t, by rw [hb]; exact h1, h2, hc⟩
end
/-- byte i of a number, as a value -/
def byteAt (x i : Nat) : Value := .int .u8 ((x / 2 ^ (8 * i) : Nat) % 256 : Int)
theorem byteAt_eq (x i : Nat) : byteAt x i = u8 (UInt8.ofNat (x / 256 ^ i)) := by
  unfold byteAt u8
  rw [UInt8.toNat_ofNat', show (256 : Nat) ^ i = 2 ^ (8 * i) by rw [Nat.pow_mul]]
  congr 1
set_option maxRecDepth 100000 in
set_option maxHeartbeats 1000000 in
theorem bytes8_any (x : Nat) (w : World) : Calls Try.prog 144 #[.int .u64 x] w fun r w' => r = .returned (.agg #[byteAt x 0, byteAt x 1, byteAt x 2, byteAt x 3, byteAt x 4, byteAt x 5, byteAt x 6, byteAt x 7]) ∧ Grow w w' := by
  have h0 : RowTo ((w.alloc (.cells #[.int .u8 0, .int .u8 0, .int .u8 0, .int .u8 0, .int .u8 0, .int .u8 0, .int .u8 0, .int .u8 0] 128)).alloc (.cells #[.int .u8 0, .int .u8 0, .int .u8 0, .int .u8 0, .int .u8 0, .int .u8 0, .int .u8 0, .int .u8 0] 128)) (w.heap.size + 1) 8 0 (byteAt x) := ⟨_, _, by rw [show w.heap.size + 1 = (w.alloc (.cells #[.int .u8 0, .int .u8 0, .int .u8 0, .int .u8 0, .int .u8 0, .int .u8 0, .int .u8 0, .int .u8 0] 128)).heap.size by simp]; exact heap_alloc_new _ _, rfl, fun i h => absurd h (by omega)⟩
  have hr0 : RowTo ((w.alloc (.cells #[.int .u8 0, .int .u8 0, .int .u8 0, .int .u8 0, .int .u8 0, .int .u8 0, .int .u8 0, .int .u8 0] 128)).alloc (.cells #[.int .u8 0, .int .u8 0, .int .u8 0, .int .u8 0, .int .u8 0, .int .u8 0, .int .u8 0, .int .u8 0] 128)) w.heap.size 8 8 (fun _ => .int .u8 0) := ⟨#[.int .u8 0, .int .u8 0, .int .u8 0, .int .u8 0, .int .u8 0, .int .u8 0, .int .u8 0, .int .u8 0], _, (Below.heap_alloc _ _ _ (by simp)).trans (heap_alloc_new w _), rfl, fun i h => by
    match i, h with
    | 0, _ | 1, _ | 2, _ | 3, _ | 4, _ | 5, _ | 6, _ | 7, _ => rfl⟩
  have hbel0 := ((Below.refl w.heap.size w).alloc (Nat.le_refl _) (.cells #[.int .u8 0, .int .u8 0, .int .u8 0, .int .u8 0, .int .u8 0, .int .u8 0, .int .u8 0, .int .u8 0] 128)).alloc (by simp) (.cells #[.int .u8 0, .int .u8 0, .int .u8 0, .int .u8 0, .int .u8 0, .int .u8 0, .int .u8 0, .int .u8 0] 128)
  go_enter Try.func144, Try.ntmps144
  go_wp2
  go_loopw [5] (fun i wr => ∃ k : Nat, k ≤ 8 ∧ i = .int .i64 k ∧ RowTo wr (w.heap.size + 1) 8 k (byteAt x) ∧ RowTo wr w.heap.size 8 8 (fun _ => .int .u8 0) ∧ Below w.heap.size w wr) (fun i _ => 8 - (intOf i).toNat)
  case atStart => exact ⟨0, by omega, rfl, h0, hr0, hbel0⟩
  case round =>
    obtain ⟨k, hk, rfl, hm, hr, hbel⟩ := hrel
    clear h0 hr0 hbel0
    by_cases hlt : k < 8
    · obtain ⟨v0, hc0⟩ := hm.cell hlt
      have hf0 := hm.frozen k
      have EB := hide (show Value.int .u8 ((x : Int) / 2 ^ (8 * k) % 256) = byteAt x k by simp [byteAt])
      go_wp2
      rw [EB.out]
      go_roundw
      case rel => exact ⟨k + 1, by omega, by go_num, hm.set hlt, hr.keep (Below.heap_setCell _ _ _ _ (by simp)), hbel.setCell (p := ⟨w.heap.size + 1, k, none⟩) (by simp) _⟩
      case measure => simp [intOf]; omega
    · obtain rfl : k = 8 := by omega
      have key : ∀ i, ∃ b, byteAt x i = .int .u8 b := fun i => ⟨_, rfl⟩
      obtain ⟨b0, e0⟩ := key 0
      have a0 := hm.at_ 0 (by omega)
      rw [e0] at a0
      have E0 := hide e0
      clear e0
      have r0 := hr.at_ 0 (by omega)
      have f0 := hr.frozen 0
      obtain ⟨b1, e1⟩ := key 1
      have a1 := hm.at_ 1 (by omega)
      rw [e1] at a1
      have E1 := hide e1
      clear e1
      have r1 := hr.at_ 1 (by omega)
      have f1 := hr.frozen 1
      obtain ⟨b2, e2⟩ := key 2
      have a2 := hm.at_ 2 (by omega)
      rw [e2] at a2
      have E2 := hide e2
      clear e2
      have r2 := hr.at_ 2 (by omega)
      have f2 := hr.frozen 2
      obtain ⟨b3, e3⟩ := key 3
      have a3 := hm.at_ 3 (by omega)
      rw [e3] at a3
      have E3 := hide e3
      clear e3
      have r3 := hr.at_ 3 (by omega)
      have f3 := hr.frozen 3
      obtain ⟨b4, e4⟩ := key 4
      have a4 := hm.at_ 4 (by omega)
      rw [e4] at a4
      have E4 := hide e4
      clear e4
      have r4 := hr.at_ 4 (by omega)
      have f4 := hr.frozen 4
      obtain ⟨b5, e5⟩ := key 5
      have a5 := hm.at_ 5 (by omega)
      rw [e5] at a5
      have E5 := hide e5
      clear e5
      have r5 := hr.at_ 5 (by omega)
      have f5 := hr.frozen 5
      obtain ⟨b6, e6⟩ := key 6
      have a6 := hm.at_ 6 (by omega)
      rw [e6] at a6
      have E6 := hide e6
      clear e6
      have r6 := hr.at_ 6 (by omega)
      have f6 := hr.frozen 6
      obtain ⟨b7, e7⟩ := key 7
      have a7 := hm.at_ 7 (by omega)
      rw [e7] at a7
      have E7 := hide e7
      clear e7
      have r7 := hr.at_ 7 (by omega)
      have f7 := hr.frozen 7
      have hsz : w.heap.size + 1 < wr.heap.size := by
        obtain ⟨cs, t, hb, _⟩ := hm
        exact (Array.getElem?_eq_some_iff.1 hb).1
      clear key hm hr
      go_wp2
      refine bodyPost_ret (v := .agg #[.int .u8 b0, .int .u8 b1, .int .u8 b2, .int .u8 b3, .int .u8 b4, .int .u8 b5, .int .u8 b6, .int .u8 b7]) (by simp [results, Try.results144, go_sem, r0, r1, r2, r3, r4, r5, r6, r7]) rfl ⟨by rw [E0.out, E1.out, E2.out, E3.out, E4.out, E5.out, E6.out, E7.out], ?_⟩
      exact (((((((hbel.setCell (Nat.le_refl _) _).setCell (Nat.le_refl _) _).setCell (Nat.le_refl _) _).setCell (Nat.le_refl _) _).setCell (Nat.le_refl _) _).setCell (Nat.le_refl _) _).setCell (Nat.le_refl _) _).setCell (Nat.le_refl _) _
theorem fix8 (x : Nat) : #[byteAt x 0, byteAt x 1, byteAt x 2, byteAt x 3, byteAt x 4, byteAt x 5, byteAt x 6, byteAt x 7] = ((Buf.fixed x 8).map u8).toArray := by
  simp only [byteAt_eq]
  simp [Buf.fixed, Nat.div_div_eq_div_mul]
theorem byte_at (B p : Nat) (A : Option Addr) (c : Nat) (e : Int) (b : List UInt8) (most : Int) (A2 : Option Addr) (l : List UInt8) (n c2 : Nat) (w : World) (hn : l.length = n) (h : Wr w B p A c e b most) (hl : Bytes w A2 l)
    (hb : b.length ≤ 1000000000000) (hll : n ≤ 1000000000000) (hB : B ≤ w.heap.size) :
    Calls Try.prog 51 #[.pointer (some ⟨p, 0, none⟩), .slice A2 n c2] w fun r w' => r = .returned (.tuple #[]) ∧ Wrote w w' B p A (Buf.wput most (e, b) l) most := by
  subst hn
  exact byte_any B p A c e b most A2 l c2 w h hl hb hll hB
set_option maxRecDepth 100000 in
set_option maxHeartbeats 1000000 in
theorem fixed_any (B p : Nat) (A : Option Addr) (c : Nat) (e : Int) (b : List UInt8) (most : Int) (x : Nat) (n : Int) (w : World) (h : Wr w B p A c e b most)
    (hb : b.length ≤ 1000000000000) (hB : B ≤ w.heap.size) :
    Calls Try.prog 52 #[.pointer (some ⟨p, 0, none⟩), .int .u64 x, .int .i64 n] w fun r w' => r = .returned (.tuple #[]) ∧ Wrote w w' B p A (Buf.wfixed most (e, b) x n) most := by
  by_cases hn : n < 1 ∨ 8 < n
  · have hd : (decide (n < 1) || decide (8 < n)) = true := by simpa using hn
    by_cases he : e = 0
    · subst he
      have HP := hide (show Buf.wfixed most (0, b) x n = (1, b) by unfold Buf.wfixed; rw [if_pos hn]; rfl)
      have hc := h.c0
      have hf := h.fz 0
      rcases hn with hn | hn
      all_goals
        clear hd
        go_enter Try.func52, Try.ntmps52
        go_wp2_with fail
        refine (fail_set p 1 _ hc hf).mono ?_
        rintro r w' ⟨rfl, rfl⟩
        go_wp2
        refine bodyPost_ret (results_none rfl _ _ _) rfl ?_
        refine ⟨rfl, ?_⟩
        rw [HP.out]
        exact ⟨A, c, h.setErr 1, (Kept.refl _ _ w).setCell (p := ⟨p, 0, none⟩) (.inr (by simp [foot])) _, fun q hq => .inl hq⟩
    · have he' : (e == 0) = false := by simpa using he
      have HP := hide (show Buf.wfixed most (e, b) x n = (e, b) by unfold Buf.wfixed; rw [if_pos hn]; unfold Buf.wfail; rw [if_pos he])
      have hc := h.c0
      clear he
      rcases hn with hn | hn
      all_goals
        clear hd
        go_enter Try.func52, Try.ntmps52
        go_wp2_with fail
        refine (fail_keep p 1 e _ hc he').mono ?_
        rintro r w' ⟨rfl, rfl⟩
        go_wp2
        refine bodyPost_ret (results_none rfl _ _ _) rfl ?_
        refine ⟨rfl, ?_⟩
        rw [HP.out]
        exact Wrote.same h
  · obtain ⟨m, rfl⟩ := Int.eq_ofNat_of_zero_le (show 0 ≤ n by omega)
    have hm1 : 1 ≤ m := by omega
    have hm8 : m ≤ 8 := by omega
    have HP := hide (show Buf.wfixed most (e, b) x m = Buf.wput most (e, b) (Buf.fixed x m) by unfold Buf.wfixed; rw [if_neg hn, Int.toNat_natCast])
    clear hn
    have key : ∀ i, ∃ b, byteAt x i = .int .u8 b := fun i => ⟨_, rfl⟩
    obtain ⟨b0, e0⟩ := key 0
    obtain ⟨b1, e1⟩ := key 1
    obtain ⟨b2, e2⟩ := key 2
    obtain ⟨b3, e3⟩ := key 3
    obtain ⟨b4, e4⟩ := key 4
    obtain ⟨b5, e5⟩ := key 5
    obtain ⟨b6, e6⟩ := key 6
    obtain ⟨b7, e7⟩ := key 7
    have hx := bytes8_any x
    simp only [e0, e1, e2, e3, e4, e5, e6, e7] at hx
    have HX := hide hx
    clear hx key
    go_enter Try.func52, Try.ntmps52
    go_wp2_with fail
    refine (HX.out _).mono ?_
    rintro r w1 ⟨rfl, hg1⟩
    have hF := fix8 x
    rw [e0, e1, e2, e3, e4, e5, e6, e7] at hF
    have hbl := (Bytes.lit w1 (Buf.fixed x 8) _ 128 (0, 0) hF).take m
    rw [Buf.fixed_take x m 8 hm8] at hbl
    have hg2 := hg1.alloc (.cells #[.int .u8 b0, .int .u8 b1, .int .u8 b2, .int .u8 b3, .int .u8 b4, .int .u8 b5, .int .u8 b6, .int .u8 b7] 128)
    have HC := hide (byte_at B p A c e b most _ (Buf.fixed x m) m 8 _ (Buf.fixed_length m x) (h.grow hg2) hbl hb (by omega) (Nat.le_trans hB hg2.size))
    clear hF e0 e1 e2 e3 e4 e5 e6 e7
    go_wp2_with fail
    refine HC.out.mono ?_
    rintro r w2 ⟨rfl, hw⟩
    go_wp2
    go_end0
    refine ⟨rfl, ?_⟩
    rw [HP.out]
    exact hw.grown hg2
set_option maxRecDepth 100000 in
set_option maxHeartbeats 1000000 in
theorem num_any (B p : Nat) (A : Option Addr) (c : Nat) (e : Int) (b : List UInt8) (most : Int) (x : Nat) (w : World) (h : Wr w B p A c e b most) (hx : Hid (x < 18446744073709551616))
    (hb : b.length ≤ 1000000000000) (hB : B ≤ w.heap.size) :
    Calls Try.prog 46 #[.pointer (some ⟨p, 0, none⟩), .int .u64 x] w fun r w' => r = .returned (.tuple #[]) ∧ Wrote w w' B p A (Buf.wput most (e, b) (Buf.sevens x)) most := by
  have hl := Buf.sevens_len x
  go_enter Try.func46, Try.ntmps46
  go_wp2_with fail
  refine (sevens_any x _ hx).mono ?_
  generalize hgs : Buf.sevens x = s at *
  have HG := hide hgs
  clear hgs
  rintro r w1 ⟨A1, c1, rfl, hown, hg1⟩
  go_wp2_with fail
  refine (byte_any B p A c e b most A1 s c1 _ (h.grow hg1) hown.bytes hb (by omega) (Nat.le_trans hB hg1.size)).mono ?_
  rintro r w2 ⟨rfl, hw⟩
  go_wp2
  go_end0
  rw [HG.out]
  exact ⟨rfl, hw.grown hg1⟩
end Go.Proofs.Ytldgnallbkpchaa
