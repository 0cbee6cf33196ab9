/- More walks of the statements of chapter 04: seals and bursts. -/
import Derived.Test.YtoopgdolnmnedaaCrcLaw
namespace Go.Proofs.Ytoopgdolnmnedaa
open Go.RowKit Go.ChangeShapes Go.WideShapes Go.ChangeAt
theorem seal_len (l : List UInt8) : (Crc.seal_ l).length = l.length + 4 := by simp [Crc.seal_, Crc.le4]
set_option maxHeartbeats 1000000 in
theorem crcSeals_walk (A : Option Addr) (l : List UInt8) (c : Nat) (A2 : Option Addr) (l2 : List UInt8) (c2 : Nat) (w : World) (hl : l.length ≤ c) (hc : c ≤ 9223372036854775807) (hb : Bytes w A l) (hl2 : l2.length ≤ c2) (hc2 : c2 ≤ 9223372036854775807) (hb2 : Bytes w A2 l2) :
    Calls Try.prog 6 #[.slice A l.length c, .slice A2 l2.length c2] w fun e w' => e = .returned (.bool true) ∧ Below w.heap.size w w' := by
  have hk := cut_len l
  have hk2 := cut_len l2
  go_enter Try.func6, Try.ntmps6
  go_wp2_with fail
  refine (cut_any A l c _ hl hc hb).mono ?_
  rintro e w1 ⟨A1, c1, rfl, hown, hbel⟩
  generalize l.take 300 = k at *
  go_wp2_with fail
  refine (cut_any A2 l2 c2 _ hl2 hc2 (hb2.below hbel)).mono ?_
  rintro e w2 ⟨A3, c3, rfl, hown2, hbel2⟩
  generalize l2.take 300 = k2 at *
  have hown1 := hown.below hbel2
  have hbelb : Below w.heap.size w w2 := hbel.trans (hbel2.mono hbel.size)
  have hs4 := seal_len k
  have HG := hide (Crc.good_seal k)
  clear hown hbel2 hb hb2 hbel
  have hs4' : (Crc.seal_ k).length ≤ 1000000 := by omega
  clear hs4
  generalize hse : Crc.seal_ k = s at *
  have HS := hide hse
  clear hse
  go_wp2_with fail
  refine wpG_region (by kernel_rfl) ?_
  refine wpG_take 0 rfl (by kernel_rfl) (fun _ _ _ h => h) rfl (v := ?_) ?_ ?_
  rotate_left
  · (intro w' hG; go_simp; try with_reducible rfl)
  try simp only [Act.put, List.setIfInBounds_toArray, List.set_cons_zero, List.set_cons_succ]
  refine wpG_take 3 rfl (by kernel_rfl) (fun _ _ _ h => h) rfl (v := ?_) ?_ ?_
  rotate_left
  · (intro w' hG; go_simp; try with_reducible rfl)
  try simp only [Act.put, List.setIfInBounds_toArray, List.set_cons_zero, List.set_cons_succ]
  refine wpG_call 1 rfl (by kernel_rfl) rfl fun K hK => ?_
  go_simp
  refine (seal_any A1 k c1 _ (by omega) hown1.le.1 (by exact hown1.bytes.drew)).mono ?_
  rw [HS.out]
  rintro e w3 ⟨A4, c4, rfl, hown4, hbel4⟩
  refine hK.out _ _ (hbel4) ?_
  clear hK
  try simp only [Act.put, List.setIfInBounds_toArray, List.set_cons_zero, List.set_cons_succ]
  have hcv4 := fun (W : World) (hW : Grow w3 W) => conv_any c4 (hown4.bytes.grow hW)
  refine wpG_take 2 rfl (by kernel_rfl) (fun _ _ _ h => h) rfl (v := ?_) ?_ ?_
  rotate_left
  · (intro w' hG; go_simp; try with_reducible rfl)
  try simp only [Act.put, List.setIfInBounds_toArray, List.set_cons_zero, List.set_cons_succ]
  refine wpG_call 4 rfl (by kernel_rfl) rfl fun K hK => ?_
  go_simp
  refine (refseal_any A1 k c1 _ (by omega) (by exact hown1.bytes.drew.grow hbel4)).mono ?_
  rw [HS.out]
  rintro e w4 ⟨A5, c5, rfl, hown5, hbel5⟩
  refine hK.out _ _ (hbel5) ?_
  clear hK
  try simp only [Act.put, List.setIfInBounds_toArray, List.set_cons_zero, List.set_cons_succ]
  have hcv5 := fun (W : World) (hW : Grow w4 W) => conv_any c5 (hown5.bytes.grow hW)
  refine wpG_take 5 rfl (by kernel_rfl) (fun _ _ _ h => h) rfl (v := ?_) ?_ ?_
  rotate_left
  · (intro w' hG; go_simp; try with_reducible rfl)
  try simp only [Act.put, List.setIfInBounds_toArray, List.set_cons_zero, List.set_cons_succ]
  refine wpG_take 6 rfl (by kernel_rfl) (fun _ _ _ h => h) rfl (v := ?_) ?_ ?_
  rotate_left
  · (intro w' hG; go_simp; try with_reducible rfl)
  try simp only [Act.put, List.setIfInBounds_toArray, List.set_cons_zero, List.set_cons_succ]
  refine wpG_take 7 rfl (by kernel_rfl) (fun _ _ _ h => h) rfl (v := ?_) ?_ ?_
  rotate_left
  · (intro w' hG; go_simp; try with_reducible rfl)
  try simp only [Act.put, List.setIfInBounds_toArray, List.set_cons_zero, List.set_cons_succ]
  refine wpG_take 8 rfl (by kernel_rfl) (fun _ _ _ h => h) rfl (v := ?_) ?_ ?_
  rotate_left
  · (intro w' hG; go_simp; try with_reducible rfl)
  try simp only [Act.put, List.setIfInBounds_toArray, List.set_cons_zero, List.set_cons_succ]
  refine wpG_call 9 rfl (by kernel_rfl) rfl fun K hK => ?_
  go_simp
  refine (refseal_any A1 k c1 _ (by omega) (by exact (hown1.bytes.drew.grow hbel4).grow hbel5)).mono ?_
  rw [HS.out]
  rintro e w5 ⟨A6, c6, rfl, hown6, hbel6⟩
  refine hK.out _ _ (hbel6) ?_
  clear hK
  try simp only [Act.put, List.setIfInBounds_toArray, List.set_cons_zero, List.set_cons_succ]
  refine wpG_call 10 rfl (by kernel_rfl) rfl fun K hK => ?_
  go_simp
  refine (good_any A6 s c6 _ (by omega) hown6.le.1 (by exact hown6.bytes)).mono ?_
  rintro e w6 ⟨rfl, hbel7⟩
  rw [HG.out]
  refine hK.out _ _ (hbel7) ?_
  clear hK
  try simp only [Act.put, List.setIfInBounds_toArray, List.set_cons_zero, List.set_cons_succ]
  refine wpG_take 11 rfl (by kernel_rfl) (fun _ _ _ h => h) rfl (v := ?_) ?_ ?_
  rotate_left
  · (intro w' hG; go_simp; try with_reducible rfl)
  try simp only [Act.put, List.setIfInBounds_toArray, List.set_cons_zero, List.set_cons_succ]
  refine wpG_take 12 rfl (by kernel_rfl) (fun _ _ _ h => h) rfl (v := ?_) ?_ ?_
  rotate_left
  · (intro w' hG; go_simp; try with_reducible rfl)
  try simp only [Act.put, List.setIfInBounds_toArray, List.set_cons_zero, List.set_cons_succ]
  refine wpG_take 13 rfl (by kernel_rfl) (fun _ _ _ h => h) rfl (v := ?_) ?_ ?_
  rotate_left
  · (intro w' hG; go_simp; try with_reducible rfl)
  try simp only [Act.put, List.setIfInBounds_toArray, List.set_cons_zero, List.set_cons_succ]
  refine wpG_take 15 rfl (by kernel_rfl) (fun _ _ _ h => h) rfl (v := ?_) ?_ ?_
  rotate_left
  · (intro w' hG; go_simp; try with_reducible rfl)
  try simp only [Act.put, List.setIfInBounds_toArray, List.set_cons_zero, List.set_cons_succ]
  refine wpG_call 14 rfl (by kernel_rfl) rfl fun K hK => ?_
  go_simp
  refine (good_any A3 k2 c3 _ (by omega) hown2.le.1 (by exact ((((hown2.bytes.drew.grow hbel4).grow hbel5).grow hbel6).grow hbel7))).mono ?_
  rintro e w7 ⟨rfl, hbel8⟩
  refine hK.out _ _ (hbel8) ?_
  clear hK
  try simp only [Act.put, List.setIfInBounds_toArray, List.set_cons_zero, List.set_cons_succ]
  refine wpG_call 16 rfl (by kernel_rfl) rfl fun K hK => ?_
  go_simp
  refine (refgood_any A3 k2 c3 _ (by omega) hown2.le.1 (by exact ((((hown2.bytes.drew.grow hbel4).grow hbel5).grow hbel6).grow hbel7).grow hbel8)).mono ?_
  rintro e w8 ⟨rfl, hbel9⟩
  refine hK.out _ _ (hbel9) ?_
  clear hK
  try simp only [Act.put, List.setIfInBounds_toArray, List.set_cons_zero, List.set_cons_succ]
  refine wpG_take 17 rfl (by kernel_rfl) (fun _ _ _ h => h) rfl (v := ?_) ?_ ?_
  rotate_left
  · (intro w' hG; go_simp; try with_reducible rfl)
  try simp only [Act.put, List.setIfInBounds_toArray, List.set_cons_zero, List.set_cons_succ]
  refine wpG_take 18 rfl (by kernel_rfl) (fun _ _ _ h => h) rfl (v := ?_) ?_ ?_
  rotate_left
  · (intro w' hG; go_simp; try with_reducible rfl)
  try simp only [Act.put, List.setIfInBounds_toArray, List.set_cons_zero, List.set_cons_succ]
  refine wpG_take 19 rfl (by kernel_rfl) (fun _ _ _ h => h) rfl (v := ?_) ?_ ?_
  rotate_left
  · (intro w' hG; go_simp; try with_reducible rfl)
  try simp only [Act.put, List.setIfInBounds_toArray, List.set_cons_zero, List.set_cons_succ]
  refine wpG_call 20 rfl (by kernel_rfl) rfl fun K hK => ?_
  go_simp
  refine (works_any _).mono ?_
  rintro e w9 ⟨rfl, hbel10⟩
  refine hK.out _ _ (hbel10) ?_
  clear hK
  try simp only [Act.put, List.setIfInBounds_toArray, List.set_cons_zero, List.set_cons_succ]
  refine wpG_take 21 rfl (by kernel_rfl) (fun _ _ _ h => h) rfl (v := ?_) ?_ ?_
  rotate_left
  · (intro w' hG; go_simp; try with_reducible rfl)
  try simp only [Act.put, List.setIfInBounds_toArray, List.set_cons_zero, List.set_cons_succ]
  refine wpG_take 22 rfl (by kernel_rfl) (fun _ _ _ h => h) rfl (v := ?_) ?_ ?_
  rotate_left
  · (intro w' hG; go_simp; try with_reducible rfl)
  try simp only [Act.put, List.setIfInBounds_toArray, List.set_cons_zero, List.set_cons_succ]
  refine wpG_done (by kernel_rfl) ?_ _
  go_wp2
  go_ret
  have hg : Grow w w9 := ((((((Grow.step hbelb.drew hbel4).step hbel5).step hbel6).step hbel7).step hbel8).step hbel9).step hbel10
  exact ⟨rfl, hg⟩
theorem turn_val (x : UInt8) (m : Nat) (hm : m < 8) : bits .xor .u8 (x.toNat : Int) (2 ^ m % 256) = ((UInt8.ofNat (x.toNat ^^^ 2 ^ m)).toNat : Int) := by
  have h1 : 2 ^ m < 256 := Nat.lt_of_lt_of_le (Nat.pow_lt_pow_right (by omega) hm) (by omega)
  have h2 : ((2 : Int) ^ m % 256) = ((2 ^ m : Nat) : Int) := (show ∀ m : Fin 8, ((2 : Int) ^ m.val % 256) = ((2 ^ m.val : Nat) : Int) by decide) ⟨m, hm⟩
  rw [h2, u8_xor_nat _ _ (u8_lt x) h1, UInt8.toNat_ofNat', Nat.mod_eq_of_lt (Nat.xor_lt_two_pow (n := 8) (u8_lt x) h1)]
theorem turn_yes {l l4 : List UInt8} {x : UInt8} {pos bits k : Nat} (_hk : k < 32) (hin : (pos + k) / 8 < l.length) (h4 : l4 = Crc.turn l pos bits k) {hh : (pos + k) / 8 < l4.length} (hx : x = l4[(pos + k) / 8]) (hb : bits / 2 ^ k % 2 = 1) :
    l4.set ((pos + k) / 8) (UInt8.ofNat (x.toNat ^^^ 2 ^ ((pos + k) % 8))) = Crc.turn l pos bits (k + 1) := by
  subst h4
  rw [Crc.turn, if_pos ⟨hb, hin⟩, Crc.flip, hx, List.getD_eq_getElem?_getD, List.getElem?_eq_getElem hh]
  rfl
set_option maxHeartbeats 1000000 in
theorem turn_any (A : Option Addr) (l : List UInt8) (c : Nat) (pos bits : Nat) (w : World) (hl : l.length ≤ 1000000) (hb : Bytes w A l) (hp : pos ≤ 100000000) (_hbits : bits < 4294967296) :
    Calls Try.prog 19 #[.slice A l.length c, .int .i64 pos, .int .u32 bits] w fun e w' => ∃ A' c', e = .returned (.slice A' (Crc.turn l pos bits 32).length c') ∧ Own w' w.heap.size A' c' (Crc.turn l pos bits 32) ∧ Below w.heap.size w w' := by
  go_enter Try.func19, Try.ntmps19
  go_wp2_with (at_builtin; refine wpList_append_bytes byteT rfl (.tmp 10) (.tmp 11) rfl (Own.made w (base := w.heap.size) #[] 0 (Nat.le_refl _) (by decide) rfl) (hb.alloc _) rfl rfl ?_ ?_ ?_)
  · simp; omega
  · simp
  · intro A2 c2 l2 w2 HL2 hown2 hg2 _
    have hbel2 : Below w.heap.size w w2 := ((Below.refl _ _).alloc (Nat.le_refl _) _).grown hg2 (by simp) (by simp [blk])
    obtain rfl : l2 = l := by simpa using HL2.out
    clear HL2 hg2 hb
    go_wp2
    go_loopw [8] (fun i wr => ∃ (k : Nat) (l4 : List UInt8), k ≤ 32 ∧ i = .int .i64 k ∧ Own wr w.heap.size A2 c2 l4 ∧ Hid (l4 = Crc.turn l2 pos bits k) ∧ Below w.heap.size w wr)
      (fun i _ => 32 - (intOf i).toNat)
    case atStart => exact ⟨0, l2, by omega, rfl, hown2, hide rfl, hbel2⟩
    case round =>
      obtain ⟨k, l4, hk, rfl, hown4, HL4, hbel4⟩ := hrel
      have HN := hide (show l4.length = l2.length by rw [HL4.out, Crc.turn_length])
      clear hown2 hbel2
      by_cases hlt : k < 32
      · by_cases hbit : bits / 2 ^ k % 2 = 1
        · have ht : ((bits : Int) / 2 ^ k).tmod 2 = 1 := by
            have : ((bits : Int) / 2 ^ k) = ((bits / 2 ^ k : Nat) : Int) := by simp
            rw [this, Int.tmod_eq_emod_of_nonneg (Int.natCast_nonneg _)]
            omega
          have HB := hide hbit
          clear hbit
          by_cases hin : (pos + k) / 8 < l2.length
          · obtain ⟨g, rfl⟩ : ∃ g, A2 = some ⟨g, 0, none⟩ := by
              rcases hown4.form with ⟨_, h0, _⟩ | ⟨g, hA, _⟩
              · have := HN.out; rw [h0] at this; simp at this; omega
              · exact ⟨g, hA⟩
            have hcell := hown4.cell ((pos + k) / 8) (by have := HN.out; omega)
            have hfr := hown4.frozen ((pos + k) / 8)
            obtain ⟨x, HX⟩ : ∃ x : UInt8, Hid (x = l4[(pos + k) / 8]'(by have := HN.out; omega)) := ⟨_, hide rfl⟩
            rw [← HX.out] at hcell
            have hx8 := u8_lt x
            go_wp2
            rw [turn_val x ((pos + k) % 8) (Nat.mod_lt _ (by omega))]
            go_roundw
            case rel => exact ⟨k + 1, l4.set ((pos + k) / 8) (UInt8.ofNat (x.toNat ^^^ 2 ^ ((pos + k) % 8))), by omega, by go_num, hown4.set _ _, hide (turn_yes hlt hin HL4.out HX.out HB.out), hbel4.setCell (p := ⟨g, (pos + k) / 8, none⟩) (hown4.base rfl) _⟩
            case measure => simp [intOf]; omega
          · go_wp2
            go_roundw
            case rel => exact ⟨k + 1, l4, by omega, by go_num, hown4, hide (by rw [HL4.out, Crc.turn, if_neg (fun h => hin h.2)]), hbel4⟩
            case measure => simp [intOf]; omega
        · have ht : ((bits : Int) / 2 ^ k).tmod 2 = 0 := by
            have : ((bits : Int) / 2 ^ k) = ((bits / 2 ^ k : Nat) : Int) := by simp
            rw [this, Int.tmod_eq_emod_of_nonneg (Int.natCast_nonneg _)]
            omega
          have HB := hide hbit
          clear hbit
          go_wp2
          go_roundw
          case rel => exact ⟨k + 1, l4, by omega, by go_num, hown4, hide (by rw [HL4.out, Crc.turn, if_neg (fun h => HB.out h.1)]), hbel4⟩
          case measure => simp [intOf]; omega
      · obtain rfl : k = 32 := by omega
        have e : l4 = Crc.turn l2 pos bits 32 := HL4.out
        have hl4 := HN.out
        rw [← hl4]
        subst e
        go_wp2
        go_ret
        exact ⟨A2, c2, rfl, hown4, hbel4⟩
theorem burst_pos (n pos : Nat) (h : 4 ≤ n) : pos % (8 * n) < 8 * n := Nat.mod_lt _ (by omega)
set_option maxHeartbeats 1000000 in
theorem crcBursts_walk (A : Option Addr) (l : List UInt8) (c : Nat) (n1 n2 : Int) (w : World) (hl : l.length ≤ c) (hc : c ≤ 9223372036854775807) (hb : Bytes w A l) (hn1 : (Lit.int .u16 n1).wf = true) (hn2 : (Lit.int .u32 n2).wf = true) :
    Calls Try.prog 7 #[.slice A l.length c, .int .u16 n1, .int .u32 n2] w fun e w' => e = .returned (.bool true) ∧ Below w.heap.size w w' := by
  have hw1 := bounds_u16 hn1
  obtain ⟨pos, rfl⟩ := Int.eq_ofNat_of_zero_le hw1.1
  have hw2 := bounds_u32 hn2
  obtain ⟨bits, rfl⟩ := Int.eq_ofNat_of_zero_le hw2.1
  have hbits : bits < 4294967296 := by omega
  have hpos : pos ≤ 65535 := by omega
  clear hw1 hw2 hn1 hn2
  have hk := cut_len l
  go_enter Try.func7, Try.ntmps7
  go_wp2_with fail
  refine (cut_any A l c _ hl hc hb).mono ?_
  rintro e w1 ⟨A1, c1, rfl, hown, hbel⟩
  generalize l.take 300 = k at *
  have hs4 := seal_len k
  have HG := hide (Crc.good_seal k)
  have h4 : 4 ≤ (Crc.seal_ k).length := by omega
  have hs5 : (Crc.seal_ k).length ≤ 400 := by omega
  go_wp2_with fail
  refine (seal_any A1 k c1 _ (by omega) hown.le.1 hown.bytes).mono ?_
  clear hs4
  generalize Crc.seal_ k = s at *
  rintro e w2 ⟨A2, c2, rfl, hown2, hbel2⟩
  have hg2 : Grow w w2 := (show Grow w w1 from hbel).step hbel2
  clear hown hbel hbel2 hb
  go_wp2_with fail
  have E := hide (show ((pos : Int) % (8 * (s.length : Int))) = ((pos % (8 * s.length) : Nat) : Int) by simp)
  rw [E.out]
  have hp := burst_pos s.length pos h4
  refine (turn_any A2 s c2 (pos % (8 * s.length)) bits _ (by omega) hown2.bytes (by omega) hbits).mono ?_
  have HB := hide (Crc.burst s h4 HG.out (pos % (8 * s.length)) bits)
  have ht4 : (Crc.turn s (pos % (8 * s.length)) bits 32).length ≤ 400 := by rw [Crc.turn_length]; exact hs5
  generalize Crc.turn s (pos % (8 * s.length)) bits 32 = t at *
  have HB2 := hide (show Crc.good t = (t == s) by rw [HB.out, Bool.eq_iff_iff]; simp)
  clear hp HB
  rintro e w3 ⟨A3, c3, rfl, hown3, hbel3⟩
  have hg3 : Grow w w3 := hg2.step hbel3
  have hs3 := hown2.bytes.grow hbel3
  clear hbel3 hg2
  have hcv3 := fun (W : World) (hW : Grow w3.drew W) => conv_any c3 (hown3.bytes.drew.grow hW)
  have hcv4 := fun (W : World) (hW : Grow w3.drew W) => conv_any c2 (hs3.drew.grow hW)
  go_wp2_with fail
  refine wpG_region (by kernel_rfl) ?_
  refine wpG_take 0 rfl (by kernel_rfl) (fun _ _ _ h => h) rfl (v := ?_) ?_ ?_
  rotate_left
  · (intro w' hG; go_simp; try with_reducible rfl)
  try simp only [Act.put, List.setIfInBounds_toArray, List.set_cons_zero, List.set_cons_succ]
  refine wpG_take 2 rfl (by kernel_rfl) (fun _ _ _ h => h) rfl (v := ?_) ?_ ?_
  rotate_left
  · (intro w' hG; go_simp; try with_reducible rfl)
  try simp only [Act.put, List.setIfInBounds_toArray, List.set_cons_zero, List.set_cons_succ]
  refine wpG_take 3 rfl (by kernel_rfl) (fun _ _ _ h => h) rfl (v := ?_) ?_ ?_
  rotate_left
  · (intro w' hG; go_simp; try with_reducible rfl)
  try simp only [Act.put, List.setIfInBounds_toArray, List.set_cons_zero, List.set_cons_succ]
  refine wpG_take 4 rfl (by kernel_rfl) (fun _ _ _ h => h) rfl (v := ?_) ?_ ?_
  rotate_left
  · (intro w' hG; go_simp; try with_reducible rfl)
  try simp only [Act.put, List.setIfInBounds_toArray, List.set_cons_zero, List.set_cons_succ]
  refine wpG_take 5 rfl (by kernel_rfl) (fun _ _ _ h => h) rfl (v := ?_) ?_ ?_
  rotate_left
  · (intro w' hG; go_simp; try with_reducible rfl)
  try simp only [Act.put, List.setIfInBounds_toArray, List.set_cons_zero, List.set_cons_succ]
  refine wpG_take 6 rfl (by kernel_rfl) (fun _ _ _ h => h) rfl (v := ?_) ?_ ?_
  rotate_left
  · (intro w' hG; go_simp; try with_reducible rfl)
  try simp only [Act.put, List.setIfInBounds_toArray, List.set_cons_zero, List.set_cons_succ]
  refine wpG_call 1 rfl (by kernel_rfl) rfl fun K hK => ?_
  go_simp
  refine (good_any A3 t c3 _ (by omega) hown3.le.1 (by exact hown3.bytes.drew)).mono ?_
  rintro e w4 ⟨rfl, hbel4⟩
  rw [HB2.out]
  refine hK.out _ _ (hbel4) ?_
  clear hK
  try simp only [Act.put, List.setIfInBounds_toArray, List.set_cons_zero, List.set_cons_succ]
  refine wpG_take 7 rfl (by kernel_rfl) (fun _ _ _ h => h) rfl (v := ?_) ?_ ?_
  rotate_left
  · (intro w' hG; go_simp; try with_reducible rfl)
  try simp only [Act.put, List.setIfInBounds_toArray, List.set_cons_zero, List.set_cons_succ]
  refine wpG_take 8 rfl (by kernel_rfl) (fun _ _ _ h => h) rfl (v := ?_) ?_ ?_
  rotate_left
  · (intro w' hG; go_simp; try with_reducible rfl)
  try simp only [Act.put, List.setIfInBounds_toArray, List.set_cons_zero, List.set_cons_succ]
  refine wpG_call 9 rfl (by kernel_rfl) rfl fun K hK => ?_
  go_simp
  refine (works_any _).mono ?_
  rintro e w5 ⟨rfl, hbel5⟩
  refine hK.out _ _ (hbel5) ?_
  clear hK
  try simp only [Act.put, List.setIfInBounds_toArray, List.set_cons_zero, List.set_cons_succ]
  refine wpG_take 10 rfl (by kernel_rfl) (fun _ _ _ h => h) rfl (v := ?_) ?_ ?_
  rotate_left
  · (intro w' hG; go_simp; try with_reducible rfl)
  try simp only [Act.put, List.setIfInBounds_toArray, List.set_cons_zero, List.set_cons_succ]
  refine wpG_take 11 rfl (by kernel_rfl) (fun _ _ _ h => h) rfl (v := ?_) ?_ ?_
  rotate_left
  · (intro w' hG; go_simp; try with_reducible rfl)
  try simp only [Act.put, List.setIfInBounds_toArray, List.set_cons_zero, List.set_cons_succ]
  refine wpG_done (by kernel_rfl) ?_ _
  go_wp2
  go_ret
  exact ⟨rfl, (Grow.step hg3.drew hbel4).step hbel5⟩
end Go.Proofs.Ytoopgdolnmnedaa
