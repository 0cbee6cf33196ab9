/- Acts (chapter 46): ticks, who crashes, the example. -/
import Derived.Test.YtcghgahohmabnaaSc5
import Derived.RegionTactic
namespace Go.Proofs.Ytcghgahohmabnaa
open Go.RowKit
def tickAdd (s : Int) (x : AB) : Int := if x.p.kind == 1 && actB x.p x.l then s + x.p.n else s
def crashAdd (s : Nat) (x : AB) : Nat := if x.p.kind == 4 && actB x.p x.l then s ||| 2 ^ x.p.node.toNat else s
/-- how many ticks; who crashes -/
def tickOf (L : List AB) : Int := L.foldl tickAdd 0
def crashOf (L : List AB) : Nat := L.foldl crashAdd 0
theorem tick_n (p : ActP) (l : List UInt8) (h : actB p l = true) (k : p.kind = 1) : 0 ≤ p.n ∧ p.n ≤ 64 := by
  unfold actB at h
  rw [if_pos k] at h
  simp only [Bool.and_eq_true, decide_eq_true_eq] at h
  omega
theorem crash_n (p : ActP) (l : List UInt8) (h : actB p l = true) (k : p.kind = 4) : 0 ≤ p.node ∧ p.node < 64 := by
  unfold actB at h
  rw [if_neg (by omega), if_neg (by omega), if_neg (by omega), if_neg (by omega), if_pos (.inl k)] at h
  simp only [nodeOk, Bool.and_eq_true, decide_eq_true_eq] at h
  exact h.1
theorem tickOf_snoc (L : List AB) (k : Nat) (h : k < L.length) : tickOf (L.take (k + 1)) = tickAdd (tickOf (L.take k)) L[k] := by
  unfold tickOf
  rw [List.take_succ_eq_append_getElem h, List.foldl_append]
  rfl
theorem crashOf_snoc (L : List AB) (k : Nat) (h : k < L.length) : crashOf (L.take (k + 1)) = crashAdd (crashOf (L.take k)) L[k] := by
  unfold crashOf
  rw [List.take_succ_eq_append_getElem h, List.foldl_append]
  rfl
theorem tick_bounds (L : List AB) : 0 ≤ tickOf L ∧ tickOf L ≤ 64 * L.length := by
  have : ∀ (L : List AB) (s : Int), 0 ≤ s → 0 ≤ L.foldl tickAdd s ∧ L.foldl tickAdd s ≤ s + 64 * L.length := by
    intro L
    induction L with
    | nil => intro s h; simp; exact h
    | cons x L ih =>
      intro s h
      rw [List.foldl_cons, List.length_cons]
      have hs : s ≤ tickAdd s x ∧ tickAdd s x ≤ s + 64 := by
        unfold tickAdd
        split
        · rename_i hc
          simp only [Bool.and_eq_true, beq_iff_eq] at hc
          have := tick_n x.p x.l hc.2 hc.1
          omega
        · omega
      have := ih (tickAdd s x) (by omega)
      omega
  have h := this L 0 (by omega)
  unfold tickOf
  omega
theorem crash_lt (L : List AB) : crashOf L < 18446744073709551616 := by
  have : ∀ (L : List AB) s, s < 18446744073709551616 → L.foldl crashAdd s < 18446744073709551616 := by
    intro L
    induction L with
    | nil => intro s h; exact h
    | cons x L ih =>
      intro s h
      refine ih _ ?_
      unfold crashAdd
      split
      · rename_i hc
        simp only [Bool.and_eq_true, beq_iff_eq] at hc
        have hf := crash_n x.p x.l hc.2 hc.1
        have h1 : 2 ^ x.p.node.toNat < 2 ^ 64 := Nat.pow_lt_pow_right (by omega) (by omega)
        exact Nat.or_lt_two_pow (n := 64) h h1
      · exact h
  exact this L 0 (by decide)
theorem or_bit46 (s i : Nat) (hs : s < 18446744073709551616) (hi : i < 64) : bits .or .u64 (s : Int) (IntKind.u64.wrap ((2 : Int) ^ i)) = ((s ||| 2 ^ i : Nat) : Int) := by
  have h1 : (2 : Nat) ^ i < 2 ^ 64 := Nat.pow_lt_pow_right (by omega) hi
  have e : (2 : Int) ^ i = ((2 ^ i : Nat) : Int) := by simp
  rw [e]
  generalize (2 ^ i : Nat) = X at *
  rw [IntKind.wrap_u64, show (X : Int) % 18446744073709551616 = (X : Int) by omega]
  exact u64_or_nat _ _ hs (by omega)
set_option maxRecDepth 100000 in
set_option maxHeartbeats 2000000 in
theorem tick1_any (q : ActP) (A : Option Addr) (n c g : Nat) (s : Int) (w : World) (h : Box w g #[.int .i64 s]) (hs : 0 ≤ s ∧ s ≤ 1000000000000) (hn : 0 ≤ q.n ∧ q.n ≤ 64) :
    Calls Try.prog 114 #[av q A n c, .pointer (some ⟨g, 0, none⟩)] w fun r w' => r = .returned (.tuple #[]) ∧ Box w' g #[.int .i64 (s + q.n)] ∧ Kept w.heap.size [g] w w' := by
  have hgl := h.lt
  have h1 := h.alloc (.cells (acells q A n c) 108)
  obtain ⟨c1, f1, l1⟩ := h1.rules
  obtain ⟨hn1, hn2⟩ := hn
  obtain ⟨hs1, hs2⟩ := hs
  go_enter Try.func114, Try.ntmps114
  go_wp2
  go_end0
  have hk := Kept.setCell (p := ⟨g, 0, none⟩) (Kept.refl w.heap.size [g] w) (.inr (by simp)) (.int .i64 (s + q.n))
  exact ⟨rfl, by have := (h.set 0 (.int .i64 (s + q.n))).alloc (.cells (acells q A n c) 108); simpa using this, hk.grow ((Grow.refl _).alloc _)⟩
set_option maxRecDepth 100000 in
set_option maxHeartbeats 2000000 in
theorem crash1_any (q : ActP) (A : Option Addr) (n c g : Nat) (s : Nat) (w : World) (h : Box w g #[.int .u64 s]) (hs : s < 18446744073709551616) (hn : 0 ≤ q.node ∧ q.node < 64) :
    Calls Try.prog 115 #[av q A n c, .pointer (some ⟨g, 0, none⟩)] w fun r w' => r = .returned (.tuple #[]) ∧ Box w' g #[.int .u64 (s ||| 2 ^ q.node.toNat : Nat)] ∧ Kept w.heap.size [g] w w' := by
  have hgl := h.lt
  have h1 := h.alloc (.cells (acells q A n c) 108)
  obtain ⟨c1, f1, l1⟩ := h1.rules
  obtain ⟨hn1, hn2⟩ := hn
  obtain ⟨kind, node, nn, f⟩ := q
  dsimp only at *
  obtain ⟨nd, rfl⟩ := Int.eq_ofNat_of_zero_le hn1
  have hnd : nd < 64 := by omega
  have HO := hide (or_bit46 s nd hs hnd)
  rw [show ((nd : Int)).toNat = nd from rfl]
  go_enter Try.func115, Try.ntmps115
  go_wp2_with fail
  go_region
  all_goals
    go_wp2
    rw [HO.out]
    go_end0
    have hk := Kept.setCell (p := ⟨g, 0, none⟩) (Kept.refl w.heap.size [g] w) (.inr (by simp)) (.int .u64 (s ||| 2 ^ nd : Nat))
    exact ⟨rfl, by have := ((h.set 0 (.int .u64 (s ||| 2 ^ nd : Nat))).alloc (.cells (acells ⟨kind, nd, nn, f⟩ A n c) 108)).drew; simpa using this, hk.grow (((Grow.refl _).alloc _).drew)⟩
set_option maxRecDepth 100000 in
set_option maxHeartbeats 4000000 in
theorem each_tick (A : Option Addr) (L : List AB) (c g : Nat) (w0 w : World) (hi : Acts w0 A L) (hg0 : Grow w0 w) (hgg : w0.heap.size ≤ g) (hb : Box w g #[.int .i64 0]) (hL : L.length ≤ 1000000) :
    Calls Try.prog 113 #[.slice A L.length c, .int .i64 1, .func (.func 114) #[] #[.pointer (some ⟨g, 0, none⟩)]] w fun r w' => r = .returned (.tuple #[]) ∧ Box w' g #[.int .i64 (tickOf L)] ∧ Grow w0 w' := by
  have hb := hide hb
  go_enter Try.func113, Try.ntmps113
  go_wp2
  go_loopw [10] (fun i wr => ∃ k : Nat, k ≤ L.length ∧ i = .int .i64 k ∧ Hid (Box wr g #[.int .i64 (tickOf (L.take k))]) ∧ Grow w0 wr) (fun i _ => L.length - (intOf i).toNat)
  case atStart => exact ⟨0, by omega, rfl, hb, hg0⟩
  case round =>
    obtain ⟨k, hk, rfl, hW, hgr⟩ := hrel
    clear hb hg0
    by_cases hlt : k < L.length
    · obtain ⟨x, hx⟩ : ∃ x, Hid (x = L[k]) := ⟨_, hide rfl⟩
      obtain ⟨b3, o, rfl, hcs, hok⟩ := (hi.grow hgr).at_ k hlt
      rw [← hx.out] at hcs hok
      have d0 := hcs 0 (by omega)
      have d1 := hcs 1 (by omega)
      have d2 := hcs 2 (by omega)
      have d3 := hcs 3 (by omega)
      have d4 := hcs 4 (by omega)
      have d5 := hcs 5 (by omega)
      have d6 := hcs 6 (by omega)
      have d7 := hcs 7 (by omega)
      have d8 := hcs 8 (by omega)
      simp at d0 d1 d2 d3 d4 d5 d6 d7 d8
      clear hcs
      have hgs := hgr.size
      have hg3 := (Grow.refl wr).alloc (.cells (abc x) 108)
      have HG := hide (agood_any x.p x.A x.l x.c _ (hok.bytes.grow hg3) (by have := hok.len; omega))
      have HS := hide (tickOf_snoc L k hlt)
      rw [← hx.out] at HS
      generalize hgb : actB x.p x.l = bg at HG
      have hgb := hide hgb
      clear hok
      by_cases hkk : x.p.kind = 1
      · have hkb : (x.p.kind == 1) = true := by simpa using hkk
        have hkq := hide hkk
        clear hkk
        go_wp2_with fail
        refine HG.out.mono ?_
        rintro r w4 ⟨rfl, hb4⟩
        obtain ⟨q0, hg4⟩ := peel1 hb4
        have hgr4 := Grow.trans hgr hg4
        clear d0 d1 d2 d3 d4 d5 d6 d7 d8 hb4 hg3 HG
        obtain ⟨cq0, fq0, lq0⟩ := q0.rules
        have hW4 := hW.out.grow hg4
        have hs4 := hgr4.size
        cases bg with
        | false =>
          have hW5 : Hid (Box w4 g #[.int .i64 (tickOf (L.take (k + 1)))]) := hide (by rw [HS.out]; unfold tickAdd; rw [hkb, hgb.out]; exact hW4)
          go_wp2
          go_roundw
          case rel => exact ⟨k + 1, by omega, by go_num, hW5, hgr4⟩
          case measure => simp [intOf]; omega
        | true =>
          have HC := hide (tick1_any x.p x.A x.l.length x.c g _ w4 hW4 (by have := tick_bounds (L.take k); rw [List.length_take] at this; omega) (tick_n x.p x.l hgb.out hkq.out))
          go_wp2_with fail
          refine HC.out.mono ?_
          rintro r w5 ⟨rfl, hbx5, hk5⟩
          have hgr5 := Kept.fresh1 hk5 hgr4 hgg
          have hW5 : Hid (Box w5 g #[.int .i64 (tickOf (L.take (k + 1)))]) := hide (by rw [HS.out]; unfold tickAdd; rw [hkb, hgb.out]; exact hbx5)
          clear hk5 hbx5 HC cq0 fq0 lq0
          go_wp2
          go_roundw
          case rel => exact ⟨k + 1, by omega, by go_num, hW5, hgr5⟩
          case measure => simp [intOf]; omega
      · have hkb : (x.p.kind == 1) = false := by simpa using hkk
        have hgr4 := Grow.trans hgr hg3
        have hW5 : Hid (Box (wr.alloc (.cells (abc x) 108)) g #[.int .i64 (tickOf (L.take (k + 1)))]) := hide (by rw [HS.out]; unfold tickAdd; rw [hkb]; exact hW.out.grow hg3)
        clear hkk
        go_wp2
        go_roundw
        case rel => exact ⟨k + 1, by omega, by go_num, hW5, hgr4⟩
        case measure => simp [intOf]; omega
    · obtain rfl : k = L.length := by omega
      have hWW := hW.out
      rw [List.take_length] at hWW
      have hWW := hide hWW
      clear hlt
      go_wp2
      go_end0
      exact ⟨rfl, hWW.out, hgr⟩
set_option maxRecDepth 100000 in
set_option maxHeartbeats 4000000 in
theorem each_crash (A : Option Addr) (L : List AB) (c g : Nat) (w0 w : World) (hi : Acts w0 A L) (hg0 : Grow w0 w) (hgg : w0.heap.size ≤ g) (hb : Box w g #[.int .u64 0]) (hL : L.length ≤ 1000000) :
    Calls Try.prog 113 #[.slice A L.length c, .int .i64 4, .func (.func 115) #[] #[.pointer (some ⟨g, 0, none⟩)]] w fun r w' => r = .returned (.tuple #[]) ∧ Box w' g #[.int .u64 (crashOf L : Nat)] ∧ Grow w0 w' := by
  have hb := hide hb
  go_enter Try.func113, Try.ntmps113
  go_wp2
  go_loopw [10] (fun i wr => ∃ k : Nat, k ≤ L.length ∧ i = .int .i64 k ∧ Hid (Box wr g #[.int .u64 (crashOf (L.take k) : Nat)]) ∧ Grow w0 wr) (fun i _ => L.length - (intOf i).toNat)
  case atStart => exact ⟨0, by omega, rfl, hb, hg0⟩
  case round =>
    obtain ⟨k, hk, rfl, hW, hgr⟩ := hrel
    clear hb hg0
    by_cases hlt : k < L.length
    · obtain ⟨x, hx⟩ : ∃ x, Hid (x = L[k]) := ⟨_, hide rfl⟩
      obtain ⟨b3, o, rfl, hcs, hok⟩ := (hi.grow hgr).at_ k hlt
      rw [← hx.out] at hcs hok
      have d0 := hcs 0 (by omega)
      have d1 := hcs 1 (by omega)
      have d2 := hcs 2 (by omega)
      have d3 := hcs 3 (by omega)
      have d4 := hcs 4 (by omega)
      have d5 := hcs 5 (by omega)
      have d6 := hcs 6 (by omega)
      have d7 := hcs 7 (by omega)
      have d8 := hcs 8 (by omega)
      simp at d0 d1 d2 d3 d4 d5 d6 d7 d8
      clear hcs
      have hgs := hgr.size
      have hg3 := (Grow.refl wr).alloc (.cells (abc x) 108)
      have HG := hide (agood_any x.p x.A x.l x.c _ (hok.bytes.grow hg3) (by have := hok.len; omega))
      have HS := hide (crashOf_snoc L k hlt)
      rw [← hx.out] at HS
      generalize hgb : actB x.p x.l = bg at HG
      have hgb := hide hgb
      clear hok
      by_cases hkk : x.p.kind = 4
      · have hkb : (x.p.kind == 4) = true := by simpa using hkk
        have hkq := hide hkk
        clear hkk
        go_wp2_with fail
        refine HG.out.mono ?_
        rintro r w4 ⟨rfl, hb4⟩
        obtain ⟨q0, hg4⟩ := peel1 hb4
        have hgr4 := Grow.trans hgr hg4
        clear d0 d1 d2 d3 d4 d5 d6 d7 d8 hb4 hg3 HG
        obtain ⟨cq0, fq0, lq0⟩ := q0.rules
        have hW4 := hW.out.grow hg4
        have hs4 := hgr4.size
        cases bg with
        | false =>
          have hW5 : Hid (Box w4 g #[.int .u64 (crashOf (L.take (k + 1)) : Nat)]) := hide (by rw [HS.out]; unfold crashAdd; rw [hkb, hgb.out]; exact hW4)
          go_wp2
          go_roundw
          case rel => exact ⟨k + 1, by omega, by go_num, hW5, hgr4⟩
          case measure => simp [intOf]; omega
        | true =>
          have HC := hide (crash1_any x.p x.A x.l.length x.c g _ w4 hW4 (crash_lt _) (crash_n x.p x.l hgb.out hkq.out))
          go_wp2_with fail
          refine HC.out.mono ?_
          rintro r w5 ⟨rfl, hbx5, hk5⟩
          have hgr5 := Kept.fresh1 hk5 hgr4 hgg
          have hW5 : Hid (Box w5 g #[.int .u64 (crashOf (L.take (k + 1)) : Nat)]) := hide (by rw [HS.out]; unfold crashAdd; rw [hkb, hgb.out]; exact hbx5)
          clear hk5 hbx5 HC cq0 fq0 lq0
          go_wp2
          go_roundw
          case rel => exact ⟨k + 1, by omega, by go_num, hW5, hgr5⟩
          case measure => simp [intOf]; omega
      · have hkb : (x.p.kind == 4) = false := by simpa using hkk
        have hgr4 := Grow.trans hgr hg3
        have hW5 : Hid (Box (wr.alloc (.cells (abc x) 108)) g #[.int .u64 (crashOf (L.take (k + 1)) : Nat)]) := hide (by rw [HS.out]; unfold crashAdd; rw [hkb]; exact hW.out.grow hg3)
        clear hkk
        go_wp2
        go_roundw
        case rel => exact ⟨k + 1, by omega, by go_num, hW5, hgr4⟩
        case measure => simp [intOf]; omega
    · obtain rfl : k = L.length := by omega
      have hWW := hW.out
      rw [List.take_length] at hWW
      have hWW := hide hWW
      clear hlt
      go_wp2
      go_end0
      exact ⟨rfl, hWW.out, hgr⟩
set_option maxRecDepth 100000 in
set_option maxHeartbeats 2000000 in
theorem ticks_any (A : Option Addr) (L : List AB) (c : Nat) (w : World) (hi : Acts w A L) (hL : L.length ≤ 1000000) :
    Calls Try.prog 71 #[.slice A L.length c] w fun r w' => r = .returned (.int .i64 (tickOf L)) ∧ Grow w w' := by
  have hg := (Grow.refl w).alloc (.cells #[.int .i64 0] 2)
  have HE := hide (each_tick A L c w.heap.size w _ hi hg (Nat.le_refl _) (Box.new w #[.int .i64 0] 2 rfl) hL)
  go_enter Try.func71, Try.ntmps71
  go_wp2_with fail
  refine HE.out.mono ?_
  rintro r w1 ⟨rfl, hb1, hg1⟩
  obtain ⟨c1, f1, l1⟩ := hb1.rules
  go_wp2
  go_ret
  exact ⟨rfl, hg1⟩
set_option maxRecDepth 100000 in
set_option maxHeartbeats 2000000 in
theorem crashes_any (A : Option Addr) (L : List AB) (c : Nat) (w : World) (hi : Acts w A L) (hL : L.length ≤ 1000000) :
    Calls Try.prog 72 #[.slice A L.length c] w fun r w' => r = .returned (.int .u64 (crashOf L : Nat)) ∧ Grow w w' := by
  have hg := (Grow.refl w).alloc (.cells #[.int .u64 0] 40)
  have HE := hide (each_crash A L c w.heap.size w _ hi hg (Nat.le_refl _) (Box.new w #[.int .u64 0] 40 rfl) hL)
  go_enter Try.func72, Try.ntmps72
  go_wp2_with fail
  refine HE.out.mono ?_
  rintro r w1 ⟨rfl, hb1, hg1⟩
  obtain ⟨c1, f1, l1⟩ := hb1.rules
  go_wp2
  go_ret
  exact ⟨rfl, hg1⟩
def exL : List AB := [⟨⟨1, 0, 3, zF⟩, none, [], 0⟩, ⟨⟨4, 1, 0, zF⟩, none, [], 0⟩]
theorem exL_enc : encR exL = ([2, 1, 3, 4, 1], 0) := by decide +kernel
theorem exL_tick : tickOf exL = 3 := by decide +kernel
theorem exL_crash : crashOf exL = 2 := by decide +kernel
abbrev exC : Array Value := #[.int .i64 1, .int .i64 0, .int .i64 3, .int .i64 0, .int .i64 0, .int .i64 0, .int .u32 0, .int .u32 0, .slice none 0 0, .int .i64 4, .int .i64 1, .int .i64 0, .int .i64 0, .int .i64 0, .int .i64 0, .int .u32 0, .int .u32 0, .slice none 0 0]
theorem Acts.ex {w : World} {g : Nat} (h : Box w g exC) : Acts w (some ⟨g, 0, none⟩) exL := by
  intro _
  refine ⟨g, 0, rfl, fun k hk => ?_⟩
  have hk2 : k = 0 ∨ k = 1 := by have : exL.length = 2 := rfl; omega
  rcases hk2 with rfl | rfl
  · refine ⟨fun i hi => ?_, ⟨by show (-9223372036854775808 : Int) ≤ 3; decide, by show (3 : Int) < 9223372036854775808; decide, Bytes.nil _ _, by show 0 ≤ 1000000; decide, by show 0 ≤ 0; decide⟩⟩
    rcases (show i = 0 ∨ i = 1 ∨ i = 2 ∨ i = 3 ∨ i = 4 ∨ i = 5 ∨ i = 6 ∨ i = 7 ∨ i = 8 by omega) with rfl | rfl | rfl | rfl | rfl | rfl | rfl | rfl | rfl <;> exact h.cell _
  · refine ⟨fun i hi => ?_, ⟨by show (-9223372036854775808 : Int) ≤ 0; decide, by show (0 : Int) < 9223372036854775808; decide, Bytes.nil _ _, by show 0 ≤ 1000000; decide, by show 0 ≤ 0; decide⟩⟩
    rcases (show i = 0 ∨ i = 1 ∨ i = 2 ∨ i = 3 ∨ i = 4 ∨ i = 5 ∨ i = 6 ∨ i = 7 ∨ i = 8 by omega) with rfl | rfl | rfl | rfl | rfl | rfl | rfl | rfl | rfl <;> exact h.cell _
set_option maxRecDepth 100000 in
set_option maxHeartbeats 2000000 in
theorem works46_any (w : World) : Calls Try.prog 74 #[] w fun e w' => e = .returned (.bool true) ∧ Grow w w' := by
  have HE := fun A c W h => encode_any A exL c W h (by decide)
  rw [exL_enc] at HE
  have HT := fun A c W h => ticks_any A exL c W h (by decide)
  rw [exL_tick] at HT
  have HC := fun A c W h => crashes_any A exL c W h (by decide)
  rw [exL_crash] at HC
  have hl2 : exL.length = 2 := rfl
  rw [hl2] at HE HT HC
  dsimp only at HE
  have HE := hide HE
  have HT := hide HT
  have HC := hide HC
  have hg0 := (Grow.refl w).alloc (.cells exC 108)
  have hb0 := Box.new w exC 108 rfl
  go_enter Try.func74, Try.ntmps74
  go_wp2_with fail
  refine (HE.out _ _ _ (Acts.ex hb0)).mono ?_
  rintro r w2 ⟨⟨A2, c2, rfl, _, _, hby, _⟩, hb2⟩
  have hb2' := hb0.grow hb2
  have hg2 := Grow.trans hg0 hb2
  have V : (convert 22 9 (.slice A2 5 c2)).run Try.prog w2 = .ok (.string ⟨#[2, 1, 3, 4, 1]⟩) w2 := conv_any c2 hby
  clear hby hb0 hg0 hb2
  go_wp2_with fail
  refine (HT.out _ _ _ (Acts.ex hb2')).mono ?_
  rintro r w3 ⟨rfl, hb3⟩
  have hb3' := hb2'.grow hb3
  have hg3 := Grow.trans hg2 hb3
  clear V hb3 hb2'
  go_wp2_with fail
  refine (HC.out _ _ _ (Acts.ex hb3')).mono ?_
  rintro r w4 ⟨rfl, hb4⟩
  go_wp2
  go_ret
  exact ⟨rfl, Grow.trans hg3 hb4⟩
end Go.Proofs.Ytcghgahohmabnaa
