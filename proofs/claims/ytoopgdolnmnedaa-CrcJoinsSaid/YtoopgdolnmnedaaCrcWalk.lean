/- The walks of package crc. -/
import Derived.Test.YtoopgdolnmnedaaRows
import Derived.Test.YtoopgdolnmnedaaCrcMath
import Derived.Test.YtoopgdolnmnedaaBase
import Derived.Test.YtoopgdolnmnedaaFacts
import Derived.Test.YtoopgdolnmnedaaRegion
namespace Go.Proofs.Ytoopgdolnmnedaa
open Go.RowKit
theorem sts_snoc (k x : Nat) : Crc.sts (k + 1) x = Crc.st (Crc.sts k x) := Crc.sts_add k 1 x
theorem u32_and1 (y : Nat) (h : y < 4294967296) : bits .and .u32 (y : Int) 1 = ((y % 2 : Nat) : Int) := by
  have := u32_and_nat y 1 h (by omega)
  rw [nat_mask1] at this
  exact this
theorem st_odd (y : Nat) (h : y < 4294967296) (h1 : (bits .and .u32 (y : Int) 1 == 1) = true) : bits .xor .u32 ((y : Int) / 2) 3988292384 = ((Crc.st y : Nat) : Int) := by
  rw [u32_and1 y h, beq_iff_eq] at h1
  have := u32_xor_nat (y / 2) 3988292384 (by omega) (by omega)
  unfold Crc.st Crc.poly
  rw [if_pos (by omega)]
  exact this
theorem st_even (y : Nat) (h : y < 4294967296) (h1 : (bits .and .u32 (y : Int) 1 == 1) = false) : (y : Int) / 2 = ((Crc.st y : Nat) : Int) := by
  rw [u32_and1 y h, beq_eq_false_iff_ne] at h1
  unfold Crc.st
  rw [if_neg (by omega)]
  rfl
set_option maxHeartbeats 400000 in
theorem halve_any (x : Nat) (w : World) (hx : x < 4294967296) :
    Calls Try.prog 22 #[.int .u32 x] w fun e w' => e = .returned (.int .u32 (Crc.sts 8 x : Nat)) ∧ w = w' := by
  go_enter Try.func22, Try.ntmps22
  go_wp2
  go_loop [0, 3] (fun v i => ∃ k : Nat, k ≤ 8 ∧ i = .int .i64 k ∧ v = .int .u32 (Crc.sts k x : Nat)) (fun _ i => 8 - (intOf i).toNat)
  case atStart => exact ⟨0, by omega, rfl, rfl⟩
  case round =>
    obtain ⟨k, hk, rfl, rfl⟩ := hrel
    have hb := Crc.sts_lt' k x hx
    by_cases hlt : k < 8
    · go_wp2
      · have h1 : (bits .and .u32 (Crc.sts k x : Nat) 1 == 1) = true := by assumption
        go_round
        case rel => exact ⟨k + 1, by omega, by go_num, by rw [sts_snoc, st_odd _ hb h1]⟩
        case measure => simp [intOf]; omega
      · have h1 : (bits .and .u32 (Crc.sts k x : Nat) 1 == 1) = false := by assumption
        go_round
        case rel => exact ⟨k + 1, by omega, by go_num, by rw [sts_snoc, st_even _ hb h1]⟩
        case measure => simp [intOf]; omega
    · obtain rfl : k = 8 := by omega
      go_wp2
      go_ret
      exact ⟨rfl, rfl⟩
theorem not_eq (s : Nat) (hs : s < 4294967296) : bits .xor .u32 IntKind.u32.max (s : Int) = ((Crc.ones - s : Nat) : Int) := by
  rw [Crc.ones_sub s hs, Nat.xor_comm]
  exact u32_xor_nat 4294967295 s (by omega) hs
theorem upd_eq (s : Nat) (c : UInt8) (hs : s < 4294967296) :
    bits .xor .u32 ((s : Int) / 256) ((Crc.sts 8 ((s ^^^ c.toNat) % 256) : Nat) : Int) = ((Crc.feed 8 s c.toNat : Nat) : Int) := by
  have hc := c.toNat_lt
  rw [Crc.byte_step s c.toNat hc]
  exact u32_xor_nat (s / 256) _ (by omega) (Crc.sts_lt' 8 _ (Nat.lt_of_lt_of_le (Nat.mod_lt _ (by omega)) (by omega)))
theorem arg_eq (s : Nat) (c : UInt8) (hs : s < 4294967296) :
    bits .and .u32 (bits .xor .u32 (s : Int) (c.toNat : Int)) 255 = (((s ^^^ c.toNat) % 256 : Nat) : Int) := by
  have hc := c.toNat_lt
  rw [u32_xor_nat s c.toNat hs (by omega)]
  have h1 : s ^^^ c.toNat < 2 ^ 32 := Nat.xor_lt_two_pow (by omega) (by omega)
  have := u32_and_nat (s ^^^ c.toNat) 255 (by omega) (by omega)
  rw [nat_mask8] at this
  exact this
set_option maxHeartbeats 400000 in
theorem more_any (s : Nat) (A : Option Addr) (l : List UInt8) (c : Nat) (w : World) (hs : s < 4294967296) (hl : l.length ≤ 9223372036854775807) (hb : Bytes w A l) :
    Calls Try.prog 13 #[.int .u32 s, .slice A l.length c] w fun e w' => e = .returned (.int .u32 (Crc.ones - Crc.more (Crc.ones - s) l : Nat)) ∧ w = w' := by
  go_enter Try.func13, Try.ntmps13
  go_wp2
  have hn := not_eq s hs
  have HN := hide hn
  clear hn
  rw [HN.out]
  go_loop [5, 12] (fun v i => ∃ k : Nat, k ≤ l.length ∧ i = .int .i64 k ∧ v = .int .u32 (Crc.more (Crc.ones - s) (l.take k) : Nat)) (fun _ i => l.length - (intOf i).toNat)
  case atStart => exact ⟨0, by omega, rfl, rfl⟩
  case round =>
    obtain ⟨k, hk, rfl, rfl⟩ := hrel
    have hm := Crc.more_lt' (l.take k) (Crc.ones - s) (by unfold Crc.ones; omega)
    by_cases hlt : k < l.length
    · obtain ⟨b, o, rfl, hcell⟩ := hb.at_ k hlt
      have hargs := arg_eq (Crc.more (Crc.ones - s) (l.take k)) l[k] hm
      have HA := hide hargs
      have HU := hide (upd_eq (Crc.more (Crc.ones - s) (l.take k)) l[k] hm)
      clear hargs
      have hc := u8_lt l[k]
      have hq : (Crc.more (Crc.ones - s) (l.take k) ^^^ l[k].toNat) % 256 < 4294967296 := Nat.lt_of_lt_of_le (Nat.mod_lt _ (by omega)) (by omega)
      go_wp2_with fail
      rw [HA.out]
      refine (halve_any _ _ hq).mono ?_
      rintro e w' ⟨rfl, rfl⟩
      go_wp2
      go_round
      case rel => exact ⟨k + 1, by omega, by go_num, by rw [HU.out, take_succ' l k hlt, Crc.more_append]; rfl⟩
      case measure => simp [intOf]; omega
    · obtain rfl : k = l.length := by omega
      rw [List.take_length] at hm
      have HN' := hide (not_eq (Crc.more (Crc.ones - s) l) hm)
      go_wp2
      go_ret
      exact ⟨ret_int (by rw [HN'.out]), rfl⟩
set_option maxHeartbeats 400000 in
theorem cut_any (A : Option Addr) (l : List UInt8) (c : Nat) (w : World) (hl : l.length ≤ c) (hc : c ≤ 9223372036854775807) (hb : Bytes w A l) :
    Calls Try.prog 9 #[.slice A l.length c] w fun e w' => ∃ A' c', e = .returned (.slice A' (l.take 300).length c') ∧ Own w' w.heap.size A' c' (l.take 300) ∧ Below w.heap.size w w' := by
  by_cases h : l.length ≤ 300
  · have HT : Hid (l.take 300 = l) := hide (List.take_of_length_le h)
    go_enter Try.func9, Try.ntmps9
    go_wp2_with (at_builtin; refine wpList_append_bytes byteT rfl (.tmp 3) (.tmp 8) rfl (Own.made w (base := w.heap.size) #[] 0 (Nat.le_refl _) (by decide) rfl) (hb.alloc _) rfl rfl ?_ ?_ ?_)
    · simp; omega
    · simp
    · intro A' c' l' w' HL hown hg hat
      go_wp2
      go_ret
      have e : l' = l.take 300 := by rw [HT.out]; exact HL.out
      subst e
      exact ⟨A', c', rfl, hown, ((Below.refl _ _).alloc (Nat.le_refl _) _).grown hg (by simp) (by simp [blk])⟩
  · have HT : Hid (300 = (l.take 300).length) := hide (by rw [List.length_take]; omega)
    have hb' : Bytes w A (l.take 300) := hb.take 300
    go_enter Try.func9, Try.ntmps9
    go_wp2_with (at_builtin; refine wpList_append_bytes byteT rfl (.tmp 3) (.tmp 8) rfl (Own.made w (base := w.heap.size) #[] 0 (Nat.le_refl _) (by decide) rfl) (hb'.alloc _) rfl (by rw [← HT.out]; rfl) ?_ ?_ ?_)
    · rw [← HT.out]; simp
    · simp
    · intro A' c' l' w' HL hown hg hat
      go_wp2
      go_ret
      have e : l' = l.take 300 := HL.out
      subst e
      exact ⟨A', c', rfl, hown, ((Below.refl _ _).alloc (Nat.le_refl _) _).grown hg (by simp) (by simp [blk])⟩
set_option maxHeartbeats 400000 in
theorem sum_any (A : Option Addr) (ls : List (List UInt8)) (n c : Nat) (hn : ls.length = n) (w : World) (hl : n ≤ 9223372036854775807) (hb : Parts w A ls) (hm : ∀ l ∈ ls, l.length ≤ 9223372036854775807) :
    Calls Try.prog 10 #[.slice A n c] w fun e w' => e = .returned (.int .u32 (Crc.sum ls.flatten : Nat)) ∧ w = w' := by
  subst hn
  go_enter Try.func10, Try.ntmps10
  go_wp2
  go_loop [3, 8] (fun v i => ∃ k : Nat, k ≤ ls.length ∧ i = .int .i64 k ∧ v = .int .u32 (Crc.sum (ls.take k).flatten : Nat)) (fun _ i => ls.length - (intOf i).toNat)
  case atStart => exact ⟨0, by omega, rfl, by rw [List.take_zero, List.flatten_nil, Crc.sum_nil]; rfl⟩
  case round =>
    obtain ⟨k, hk, rfl, rfl⟩ := hrel
    by_cases hlt : k < ls.length
    · obtain ⟨b, o, Aj, cj, rfl, hcell, hcj, hbj⟩ := hb.at_ k hlt
      have hmk := hm ls[k] (List.getElem_mem hlt)
      have HE := hide (Crc.more_of_sum (ls.take k).flatten ls[k])
      have hs := Crc.sum_lt' (ls.take k).flatten
      clear hb hm
      go_wp2_with fail
      refine (more_any _ Aj ls[k] cj _ hs hmk hbj).mono ?_
      rintro e w' ⟨rfl, rfl⟩
      go_wp2
      go_round
      case rel => exact ⟨k + 1, by omega, by go_num, by rw [HE.out, List.take_succ_eq_append_getElem hlt, List.flatten_append]; simp⟩
      case measure => simp [intOf]; omega
    · obtain rfl : k = ls.length := by omega
      go_wp2
      go_ret
      exact ⟨rfl, rfl⟩
theorem rstep_ne (s b : Nat) (hs : s < 4294967296) (h : s % 2 ≠ b) : bits .xor .u32 ((s : Int) / 2) 3988292384 = ((Crc.rstep s b : Nat) : Int) := by
  have := u32_xor_nat (s / 2) 3988292384 (by omega) (by omega)
  unfold Crc.rstep Crc.poly
  rw [if_pos h]
  exact this
theorem rstep_eq (s b : Nat) (h : s % 2 = b) : (s : Int) / 2 = ((Crc.rstep s b : Nat) : Int) := by
  unfold Crc.rstep
  rw [if_neg (by omega)]
  rfl
set_option maxHeartbeats 400000 in
theorem rstep_any (s b : Nat) (w : World) (hs : s < 4294967296) :
    Calls Try.prog 26 #[.int .u32 s, .int .u32 b] w fun e w' => e = .returned (.int .u32 (Crc.rstep s b : Nat)) ∧ w = w' := by
  by_cases h : s % 2 = b
  · have HE := hide (rstep_eq s b h)
    have HB := hide h
    have hd : ((s : Int) % 2 != (b : Int)) = false := by rw [bne_eq_false_iff_eq]; omega
    clear h
    go_enter Try.func26, Try.ntmps26
    go_wp2
    go_ret
    exact ⟨ret_int HE.out, rfl⟩
  · have HE := hide (rstep_ne s b hs h)
    have hd : ((s : Int) % 2 != (b : Int)) = true := by rw [bne_iff_ne]; omega
    go_enter Try.func26, Try.ntmps26
    go_wp2
    go_ret
    exact ⟨ret_int HE.out, rfl⟩
set_option maxHeartbeats 400000 in
theorem refmore_any (s : Nat) (A : Option Addr) (l : List UInt8) (c : Nat) (w : World) (hs : s < 4294967296) (hl : l.length ≤ 9223372036854775807) (hb : Bytes w A l) :
    Calls Try.prog 21 #[.int .u32 s, .slice A l.length c] w fun e w' => e = .returned (.int .u32 (Crc.more s l : Nat)) ∧ w = w' := by
  go_enter Try.func21, Try.ntmps21
  go_wp2
  go_loop [0, 5] (fun v i => ∃ k : Nat, k ≤ l.length ∧ i = .int .i64 k ∧ v = .int .u32 (Crc.more s (l.take k) : Nat)) (fun _ i => l.length - (intOf i).toNat)
  case atStart => exact ⟨0, by omega, rfl, rfl⟩
  case round =>
    obtain ⟨k, hk, rfl, rfl⟩ := hrel
    have hm := Crc.more_lt' (l.take k) s hs
    by_cases hlt : k < l.length
    · obtain ⟨b, o, rfl, hcell⟩ := hb.at_ k hlt
      have hc := u8_lt l[k]
      have HT := hide (take_succ' l k hlt)
      have HM := hide (Crc.more_snoc s (l.take k) l[k])
      clear hb
      generalize Crc.more s (l.take k) = S at *
      generalize l[k] = ch at *
      go_wp2
      go_loop [0, 6, 7] (fun v x j => ∃ q : Nat, q ≤ 8 ∧ j = .int .i64 q ∧ v = .int .u32 (Crc.feed q S ch.toNat : Nat) ∧ x = .int .u32 (ch.toNat / 2 ^ q : Nat)) (fun _ _ j => 8 - (intOf j).toNat)
      case atStart => exact ⟨0, by omega, rfl, rfl, by simp⟩
      case round =>
        obtain ⟨q, hq, rfl, rfl, rfl⟩ := hrel
        have hf := Crc.feed_bound q S ch.toNat hm
        have hx : ch.toNat / 2 ^ q < 4294967296 := Nat.lt_of_le_of_lt (Nat.div_le_self _ _) (by omega)
        have HF := hide (Crc.feed_snoc q S ch.toNat)
        have HD := hide (Crc.div_pow_succ ch.toNat q)
        by_cases hq8 : q < 8
        · generalize Crc.feed q S ch.toNat = F at *
          generalize ch.toNat / 2 ^ q = X at *
          go_wp2_with fail
          refine (rstep_any F (X % 2) _ hf).mono ?_
          rintro e w' ⟨rfl, rfl⟩
          go_wp2
          go_round
          case rel => exact ⟨q + 1, by omega, by go_num, by rw [HF.out], by rw [HD.out]; rfl⟩
          case measure => simp [intOf]; omega
        · obtain rfl : q = 8 := by omega
          go_wp2
          go_round
          case rel => exact ⟨k + 1, by omega, by go_num, by rw [HT.out, HM.out]⟩
          case measure => simp [intOf]; omega
    · obtain rfl : k = l.length := by omega
      go_wp2
      go_ret
      exact ⟨rfl, rfl⟩
set_option maxHeartbeats 400000 in
theorem refsum_any (A : Option Addr) (l : List UInt8) (c : Nat) (w : World) (hl : l.length ≤ 9223372036854775807) (hb : Bytes w A l) :
    Calls Try.prog 11 #[.slice A l.length c] w fun e w' => e = .returned (.int .u32 (Crc.sum l : Nat)) ∧ w = w' := by
  go_enter Try.func11, Try.ntmps11
  go_wp2_with fail
  refine (refmore_any 4294967295 A l c _ (by omega) hl hb).mono ?_
  rintro e w' ⟨rfl, rfl⟩
  have hm := Crc.more_lt' l 4294967295 (by omega)
  go_wp2
  go_ret
  exact ⟨ret_int (by unfold Crc.sum Crc.ones; omega), rfl⟩
set_option maxHeartbeats 400000 in
theorem refMore_any (s : Nat) (A : Option Addr) (l : List UInt8) (c : Nat) (w : World) (hs : s < 4294967296) (hl : l.length ≤ 9223372036854775807) (hb : Bytes w A l) :
    Calls Try.prog 14 #[.int .u32 s, .slice A l.length c] w fun e w' => e = .returned (.int .u32 (Crc.ones - Crc.more (Crc.ones - s) l : Nat)) ∧ w = w' := by
  have e1 : (4294967295 : Int) - s = ((Crc.ones - s : Nat) : Int) := by unfold Crc.ones; omega
  have E1 := hide e1
  clear e1
  have ho : Crc.ones - s < 4294967296 := by unfold Crc.ones; omega
  go_enter Try.func14, Try.ntmps14
  go_wp2_with fail
  rw [E1.out]
  refine (refmore_any _ A l c _ ho hl hb).mono ?_
  rintro e w' ⟨rfl, rfl⟩
  have hm := Crc.more_lt' l (Crc.ones - s) ho
  go_wp2
  go_ret
  exact ⟨ret_int (by generalize Crc.more (Crc.ones - s) l = m at *; unfold Crc.ones; omega), rfl⟩
theorem rel_sealed {l' l0 l : List UInt8} {s k : Nat} (hk : k < 4) (h0 : l0 = l ++ (Crc.le4 s).take k) (h : l' = l0 ++ [UInt8.ofNat ((s / 256 ^ k : Nat) % 256 : Int).toNat]) : l' = l ++ (Crc.le4 s).take (k + 1) := by
  rw [h, h0, Crc.le4_take s k hk, List.append_assoc]
  congr 3
  rw [show (((s / 256 ^ k : Nat) : Int) % 256).toNat = (s / 256 ^ k) % 256 by omega, Crc.ofNat_mod]
set_option maxHeartbeats 1000000 in
theorem seal_any (A : Option Addr) (l : List UInt8) (c : Nat) (w : World) (hl : l.length ≤ 1000000) (hc : l.length ≤ c) (hb : Bytes w A l) :
    Calls Try.prog 15 #[.slice A l.length c] w fun e w' => ∃ A' c', e = .returned (.slice A' (Crc.seal_ l).length c') ∧ Own w' w.heap.size A' c' (Crc.seal_ l) ∧ Below w.heap.size w w' := by
  have HF := hide (show [l].flatten = l by simp)
  go_enter Try.func15, Try.ntmps15
  go_wp2_with (at_make; refine wpList_make_bytes byteT rfl _ _ rfl (l.length + 4) rfl rfl ?_ ?_ w.heap.size (Nat.le_refl _) ?_)
  · omega
  · omega
  · intro w1 hown1 hg1
    have hbel1 : Below w.heap.size w w1 := (Below.refl _ _).grown hg1 (Nat.le_refl _) (by simp)
    have hb1 := hb.below hbel1
    go_wp2_with (at_builtin; refine wpList_append_bytes byteT rfl (.tmp 8) (.tmp 9) rfl hown1 hb1 rfl rfl ?_ ?_ ?_)
    · simp; omega
    · exact hbel1.size
    · intro A2 c2 l2 w2 HL2 hown2 hg2 _
      have hbel2 : Below w.heap.size w w2 := hbel1.grown hg2 hbel1.size (by simp [blk])
      have hb2 := hb.below hbel2
      go_wp2_with fail
      refine (sum_any _ [l] 1 1 rfl _ (by omega) (by exact Parts.one hb2 rfl hc rfl) (by simp; omega)).mono ?_
      rintro e w' ⟨rfl, rfl⟩
      rw [HF.out]
      have hown3 := hown2.alloc (.cells #[.slice A l.length c] 22)
      have hbel3 := hbel2.alloc hbel2.size (.cells #[.slice A l.length c] 22)
      generalize (w2.alloc (.cells #[.slice A l.length c] 22)) = w3 at *
      have hs := Crc.sum_lt' l
      have HS := hide (show Crc.seal_ l = l ++ Crc.le4 (Crc.sum l) from rfl)
      generalize Crc.sum l = S at *
      go_wp2
      go_loopw [3, 4, 14] (fun v s i wr => ∃ (k : Nat) (A4 : Option Addr) (c4 : Nat) (l4 : List UInt8), k ≤ 4 ∧ i = .int .i64 k ∧ s = .int .u32 (S / 256 ^ k : Nat) ∧ v = .slice A4 l4.length c4 ∧ Own wr w.heap.size A4 c4 l4 ∧ Hid (l4 = l ++ (Crc.le4 S).take k) ∧ Below w.heap.size w wr)
        (fun _ _ i _ => 4 - (intOf i).toNat)
      case atStart => exact ⟨0, A2, c2, l2, by omega, rfl, by simp, rfl, hown3, hide (by rw [HL2.out]; simp), hbel3⟩
      case round =>
        obtain ⟨k, A4, c4, l4, hk, rfl, rfl, rfl, hown4, HL4, hbel4⟩ := hrel
        have hx : S / 256 ^ k < 4294967296 := Nat.lt_of_le_of_lt (Nat.div_le_self _ _) hs
        have hlen : l4.length ≤ l.length + 4 := by rw [HL4.out, List.length_append, List.length_take]; omega
        have HD := hide (Crc.div_256_succ S k)
        clear hown3 hbel3 hown2 hbel2 hb2 hown1 hg1 hg2 hbel1 hb1
        by_cases hlt : k < 4
        · have h1 := Bytes.one wr (((S / 256 ^ k : Nat) : Int) % 256) (by omega) (by omega) (t := 5) rfl
          have hbel5 := hbel4.alloc hbel4.size (.cells #[.int .u8 (((S / 256 ^ k : Nat) : Int) % 256)] 5)
          go_wp2_with (at_builtin; refine wpList_append_bytes byteT rfl (.tmp 16) (.tmp 19) rfl (hown4.alloc _) h1 rfl rfl ?_ ?_ ?_)
          · simp; omega
          · exact hbel5.size
          · intro A5 c5 l5 w5 HL5 hown5 hg5 hat5
            have hbel6 : Below w.heap.size w w5 := hbel5.grown hg5 hbel5.size (fun q hq => hown4.base hq)
            go_wp2
            go_roundw
            case rel => exact ⟨k + 1, A5, c5, l5, by omega, by go_num, by rw [HD.out]; rfl, rfl, hown5, hide (rel_sealed hlt HL4.out HL5.out), hbel6⟩
            case measure => simp [intOf]; omega
        · obtain rfl : k = 4 := by omega
          have e : l4 = Crc.seal_ l := by rw [HS.out, HL4.out]; rfl
          subst e
          go_wp2
          go_ret
          exact ⟨A4, c4, rfl, hown4, hbel4⟩
theorem conv_any {w : World} {A : Option Addr} {l : List UInt8} (c : Nat) (hb : Bytes w A l) : (convert 22 9 (.slice A l.length c)).run Try.prog w = .ok (.string ⟨l.toArray⟩) w :=
  run_conv_bytes Try.underlying22 Try.underlying5 Try.underlying9 c hb
set_option maxHeartbeats 1000000 in
theorem refseal_any (A : Option Addr) (l : List UInt8) (c : Nat) (w : World) (hl : l.length ≤ 1000000) (hb : Bytes w A l) :
    Calls Try.prog 16 #[.slice A l.length c] w fun e w' => ∃ A' c', e = .returned (.slice A' (Crc.seal_ l).length c') ∧ Own w' w.heap.size A' c' (Crc.seal_ l) ∧ Below w.heap.size w w' := by
  go_enter Try.func16, Try.ntmps16
  go_wp2_with fail
  refine (refsum_any A l c _ (by omega) hb).mono ?_
  rintro e w' ⟨rfl, rfl⟩
  have hs := Crc.sum_lt' l
  have HS := hide (show Crc.seal_ l = l ++ Crc.le4 (Crc.sum l) from rfl)
  generalize Crc.sum l = S at *
  go_wp2_with (at_builtin; refine wpList_append_bytes byteT rfl (.tmp 8) (.tmp 9) rfl (Own.made w (base := w.heap.size) #[] 0 (Nat.le_refl _) (by decide) rfl) (hb.alloc _) rfl rfl ?_ ?_ ?_)
  · simp; omega
  · simp
  · intro A2 c2 l2 w2 HL2 hown2 hg2 _
    have hbel2 : Below w.heap.size w w2 := ((Below.refl _ _).alloc (Nat.le_refl _) _).grown hg2 (by simp) (by simp [blk])
    go_wp2
    go_loopw [3, 4, 5] (fun s v i wr => ∃ (k X : Nat) (A4 : Option Addr) (c4 : Nat) (l4 : List UInt8), k ≤ 4 ∧ i = .int .i64 k ∧ s = .int .u32 (X : Nat) ∧ Hid (X = S / 256 ^ k) ∧ v = .slice A4 l4.length c4 ∧ Own wr w.heap.size A4 c4 l4 ∧ Hid (l4 = l ++ (Crc.le4 S).take k) ∧ Below w.heap.size w wr)
      (fun _ _ i _ => 4 - (intOf i).toNat)
    case atStart => exact ⟨0, S, A2, c2, l2, by omega, rfl, rfl, hide (by simp), rfl, hown2, hide (by rw [HL2.out]; simp), hbel2⟩
    case round =>
      obtain ⟨k, X, A4, c4, l4, hk, rfl, rfl, HX, rfl, hown4, HL4, hbel4⟩ := hrel
      have hx : X < 4294967296 := by rw [HX.out]; exact Nat.lt_of_le_of_lt (Nat.div_le_self _ _) hs
      have hlen : l4.length ≤ l.length + 4 := by rw [HL4.out, List.length_append, List.length_take]; omega
      have HD := hide (Crc.div_256_succ S k)
      clear hown2 hbel2 hg2
      by_cases hlt : k < 4
      · have h1 := Bytes.one wr ((X : Int) % 256) (by omega) (by omega) (t := 5) rfl
        have hbel5 := hbel4.alloc hbel4.size (.cells #[.int .u8 ((X : Int) % 256)] 5)
        go_wp2_with (at_builtin; refine wpList_append_bytes byteT rfl (.tmp 15) (.tmp 19) rfl (hown4.alloc _) h1 rfl rfl ?_ ?_ ?_)
        · simp; omega
        · exact hbel5.size
        · intro A5 c5 l5 w5 HL5 hown5 hg5 hat5
          have hbel6 : Below w.heap.size w w5 := hbel5.grown hg5 hbel5.size (fun q hq => hown4.base hq)
          go_wp2
          go_roundw
          case rel => exact ⟨k + 1, X / 256, A5, c5, l5, by omega, by go_num, rfl, hide (by rw [HX.out, HD.out]), rfl, hown5, hide (rel_sealed hlt HL4.out (by rw [← HX.out]; exact HL5.out)), hbel6⟩
          case measure => simp [intOf]; omega
      · obtain rfl : k = 4 := by omega
        have e : l4 = Crc.seal_ l := by rw [HS.out, HL4.out]; rfl
        subst e
        go_wp2
        go_ret
        exact ⟨A4, c4, rfl, hown4, hbel4⟩
theorem good_short (l : List UInt8) (h : l.length < 4) : Crc.good l = false := by simp [Crc.good]; omega
set_option maxHeartbeats 1000000 in
theorem refgood_any (A : Option Addr) (l : List UInt8) (c : Nat) (w : World) (hl : l.length ≤ 1000000) (hc : l.length ≤ c) (hb : Bytes w A l) :
    Calls Try.prog 18 #[.slice A l.length c] w fun e w' => e = .returned (.bool (Crc.good l)) ∧ Below w.heap.size w w' := by
  by_cases h4 : l.length < 4
  · have HG := hide (good_short l h4)
    go_enter Try.func18, Try.ntmps18
    go_wp2
    go_ret
    exact ⟨by rw [HG.out]; rfl, Below.refl _ _⟩
  · obtain ⟨u, HU, hb', hln⟩ : ∃ u, Hid (u = l.take (l.length - 4)) ∧ Bytes w A u ∧ u.length + 4 = l.length := ⟨_, rfl, hb.take (l.length - 4), by rw [List.length_take]; omega⟩
    have hu : u.length ≤ 1000000 := by omega
    have hcv := fun (W : World) (hW : Grow w.drew W) => conv_any c (hb.drew.grow hW)
    have HG := hide (show Crc.good l = (Crc.seal_ u == l) by rw [HU.out]; exact Crc.good_eq l (by omega))
    have e0 : (0 : Int) ≤ (l.length : Int) - 4 := by omega
    have e2 : (l.length : Int) - 4 ≤ (c : Int) := by omega
    have e3 : ((l.length : Int) - 4).toNat = u.length := by omega
    have e1 : IntKind.i64.wrap ((l.length : Int) - 4) = (l.length : Int) - 4 := IntWalk.i64_in _ (by omega)
    clear hln
    go_enter Try.func18, Try.ntmps18
    go_wp2_with fail
    refine wpG_region (by kernel_rfl) ?_
    refine wpG_take 0 rfl (by kernel_rfl) (fun _ _ _ h => h) rfl (v := ?_) ?_ ?_
    rotate_left
    · (intro w' hG; go_simp; try with_reducible rfl)
    try simp only [Act.put, List.setIfInBounds_toArray, List.set_cons_zero, List.set_cons_succ]
    refine wpG_take 1 rfl (by kernel_rfl) (fun _ _ _ h => h) rfl (v := ?_) ?_ ?_
    rotate_left
    · (intro w' hG; go_simp; try with_reducible rfl)
    try simp only [Act.put, List.setIfInBounds_toArray, List.set_cons_zero, List.set_cons_succ]
    refine wpG_take 2 rfl (by kernel_rfl) (fun _ _ _ h => h) rfl (v := ?_) ?_ ?_
    rotate_left
    · (intro w' hG; go_simp; try with_reducible rfl)
    try simp only [Act.put, List.setIfInBounds_toArray, List.set_cons_zero, List.set_cons_succ]
    refine wpG_take 3 rfl (by kernel_rfl) (fun _ _ _ h => h) rfl (v := ?_) ?_ ?_
    rotate_left
    · (intro w' hG; go_simp; try with_reducible rfl)
    try simp only [Act.put, List.setIfInBounds_toArray, List.set_cons_zero, List.set_cons_succ]
    refine wpG_take 4 rfl (by kernel_rfl) (fun _ _ _ h => h) rfl (v := ?_) ?_ ?_
    rotate_left
    · (intro w' hG; go_simp; try with_reducible rfl)
    try simp only [Act.put, List.setIfInBounds_toArray, List.set_cons_zero, List.set_cons_succ]
    refine wpG_take 7 rfl (by kernel_rfl) (fun _ _ _ h => h) rfl (v := ?_) ?_ ?_
    rotate_left
    · (intro w' hG; go_simp; try with_reducible rfl)
    try simp only [Act.put, List.setIfInBounds_toArray, List.set_cons_zero, List.set_cons_succ]
    refine wpG_take 8 rfl (by kernel_rfl) (fun _ _ _ h => h) rfl (v := ?_) ?_ ?_
    rotate_left
    · (intro w' hG; go_simp; try with_reducible rfl)
    try simp only [Act.put, List.setIfInBounds_toArray, List.set_cons_zero, List.set_cons_succ]
    refine wpG_call 5 rfl (by kernel_rfl) rfl fun K hK => ?_
    go_simp
    refine (refseal_any A u c _ hu (by exact hb'.drew)).mono ?_
    rintro e w2 ⟨A2, c2, rfl, hown2, hbel2⟩
    refine hK.out _ _ (hbel2) ?_
    clear hK
    try simp only [Act.put, List.setIfInBounds_toArray, List.set_cons_zero, List.set_cons_succ]
    have hcv2 := fun (W : World) (hW : Grow w2 W) => conv_any c2 (hown2.bytes.grow hW)
    refine wpG_take 6 rfl (by kernel_rfl) (fun _ _ _ h => h) rfl (v := ?_) ?_ ?_
    rotate_left
    · (intro w' hG; go_simp; try with_reducible rfl)
    try simp only [Act.put, List.setIfInBounds_toArray, List.set_cons_zero, List.set_cons_succ]
    refine wpG_take 9 rfl (by kernel_rfl) (fun _ _ _ h => h) rfl (v := ?_) ?_ ?_
    rotate_left
    · (intro w' hG; go_simp; try with_reducible rfl)
    try simp only [Act.put, List.setIfInBounds_toArray, List.set_cons_zero, List.set_cons_succ]
    refine wpG_take 10 rfl (by kernel_rfl) (fun _ _ _ h => h) rfl (v := ?_) ?_ ?_
    rotate_left
    · (intro w' hG; go_simp; try with_reducible rfl)
    try simp only [Act.put, List.setIfInBounds_toArray, List.set_cons_zero, List.set_cons_succ]
    refine wpG_done (by kernel_rfl) ?_ _
    rw [← HG.out]
    go_wp2
    go_ret
    exact ⟨rfl, Grow.of_drew hbel2⟩
set_option maxHeartbeats 1000000 in
theorem good_any (A : Option Addr) (l : List UInt8) (c : Nat) (w : World) (hl : l.length ≤ 1000000) (hc : l.length ≤ c) (hb : Bytes w A l) :
    Calls Try.prog 17 #[.slice A l.length c] w fun e w' => e = .returned (.bool (Crc.good l)) ∧ Below w.heap.size w w' := by
  by_cases h4 : l.length < 4
  · have HG := hide (good_short l h4)
    go_enter Try.func17, Try.ntmps17
    go_wp2
    go_ret
    exact ⟨by rw [HG.out]; rfl, Below.refl _ _⟩
  · obtain ⟨m, hm⟩ : ∃ m, l.length = m + 4 := ⟨l.length - 4, by omega⟩
    have HM := hide hm
    obtain ⟨b, o, hA0, hc0⟩ := hb.at_ 0 (by omega)
    subst hA0
    clear hc0
    obtain ⟨u, HU, hbu, hum⟩ : ∃ u, Hid (u = l.take m) ∧ Bytes w (some ⟨b, o, none⟩) u ∧ u.length = m := ⟨_, rfl, hb.take m, by rw [List.length_take]; omega⟩
    have HF := hide (show [u].flatten = u by simp)
    have hs := Crc.sum_lt' u
    obtain ⟨d, hd⟩ : ∃ d : Nat → UInt8, ∀ k, d k = l.getD (m + k) 0 := ⟨_, fun _ => rfl⟩
    have HN := hide (show ∀ k, k < 4 → (d k).toNat ≠ Crc.sum u / 256 ^ k % 256 → Crc.good l = false from fun k hk h => Crc.good_no' l d m k hm hd hk (by rw [← HU.out]; exact h))
    have HY := hide (show (∀ k, k < 4 → (d k).toNat = Crc.sum u / 256 ^ k % 256) → Crc.good l = true from fun h => Crc.good_yes' l d m hm hd (by rw [← HU.out]; exact h))
    have hcell : ∀ k, k < 4 → (w.alloc (.cells #[.slice (some ⟨b, o, none⟩) u.length c] 22)).cell? ⟨b, o + m + k, none⟩ = some (.int .u8 ((d k).toNat : Int)) := by
      intro k hk
      obtain ⟨b', o', hA, hc'⟩ := (hb.alloc (.cells #[.slice (some ⟨b, o, none⟩) u.length c] 22)).at_ (m + k) (by omega)
      injection hA with hA
      injection hA with h1 h2
      subst h1 h2
      rw [Nat.add_assoc, hc', hd k, List.getD_eq_getElem?_getD, List.getElem?_eq_getElem (by omega)]
      rfl
    have HC := hide hcell
    rw [hm] at hl hc ⊢
    subst hum
    clear hcell hb HM hd hm h4 HU
    go_enter Try.func17, Try.ntmps17
    go_wp2_with fail
    refine (sum_any _ [u] 1 1 rfl _ (by omega) (by exact Parts.one hbu rfl (by omega) rfl) (by simp; omega)).mono ?_
    rintro e w' ⟨rfl, rfl⟩
    rw [HF.out]
    have hn0 : decide ((u.length : Int) < 0) = false := by simp
    go_wp2
    generalize Crc.sum u = S at *
    go_loop [4, 21] (fun s i => ∃ k X : Nat, k ≤ 4 ∧ i = .int .i64 k ∧ s = .int .u32 (X : Nat) ∧ Hid (X = S / 256 ^ k) ∧ Hid (∀ j, j < k → (d j).toNat = S / 256 ^ j % 256)) (fun _ i => 4 - (intOf i).toNat)
    case atStart => exact ⟨0, S, by omega, rfl, rfl, hide (by simp), hide (fun j hj => absurd hj (by omega))⟩
    case round =>
      obtain ⟨k, X, hk, rfl, rfl, HX, HA⟩ := hrel
      have hx : X < 4294967296 := by rw [HX.out]; exact Nat.lt_of_le_of_lt (Nat.div_le_self _ _) hs
      by_cases hlt : k < 4
      · have hcell := HC.out k hlt
        have hd8 := u8_lt (d k)
        by_cases heq : (d k).toNat = X % 256
        · have ht : (((d k).toNat : Int) != (X : Int) % 256) = false := by rw [bne_eq_false_iff_eq]; omega
          have HE := hide heq
          clear heq
          go_wp2
          go_round
          case rel => exact ⟨k + 1, X / 256, by omega, by go_num, rfl, hide (by rw [HX.out, Crc.div_256_succ]), hide (fun j hj => by
              rcases Nat.lt_or_ge j k with h | h
              · exact HA.out j h
              · obtain rfl : j = k := by omega
                rw [HE.out, HX.out])⟩
          case measure => simp [intOf]; omega
        · have ht : (((d k).toNat : Int) != (X : Int) % 256) = true := by rw [bne_iff_ne]; omega
          have HB := hide (HN.out k hlt (by rw [← HX.out]; exact heq))
          clear heq
          go_wp2
          go_ret
          exact ⟨by rw [HB.out]; rfl, (Below.refl _ _).alloc (Nat.le_refl _) _⟩
      · obtain rfl : k = 4 := by omega
        have HB := hide (HY.out HA.out)
        go_wp2
        go_ret
        exact ⟨by rw [HB.out]; rfl, (Below.refl _ _).alloc (Nat.le_refl _) _⟩
end Go.Proofs.Ytoopgdolnmnedaa
