/- The walks of chapter 04 statements. -/
import Derived.Test.YtoopgdolnmnedaaCrcWalk
import Derived.Test.YtoopgdolnmnedaaFrame
namespace Go.Proofs.Ytoopgdolnmnedaa
open Go.RowKit Go.ChangeShapes Go.WideShapes Go.ChangeAt
def digits : List UInt8 := [49, 50, 51, 52, 53, 54, 55, 56, 57]
set_option maxHeartbeats 400000 in
theorem works_any (w : World) : Calls Try.prog 12 #[] w fun e w' => e = .returned (.bool true) ∧ Below w.heap.size w w' := by
  have kc := fun (w : World) (C : Array Value) (n c : Nat) => Lib.run_convert_bytes_const (P := Try.prog) w 22 5 C n c Try.underlying22 Try.underlying5
  have hb := Bytes.lit w digits #[.int .u8 49, .int .u8 50, .int .u8 51, .int .u8 52, .int .u8 53, .int .u8 54, .int .u8 55, .int .u8 56, .int .u8 57] 5 (9, 10) rfl
  have H0 := hide (show Crc.sum [digits].flatten = 3421780262 from Crc.example_)
  have H1 := hide (show Crc.sum ([] : List (List UInt8)).flatten = 0 from Crc.sum_nil)
  go_enter Try.func12, Try.ntmps12
  go_wp2_with fail
  refine (sum_any _ [digits] 1 1 rfl _ (by omega) (by exact Parts.one (c := 9) hb rfl (by omega) (by simp)) (by simp [digits])).mono ?_
  rintro e w' ⟨rfl, rfl⟩
  rw [H0.out]
  go_wp2_with fail
  refine (sum_any _ [] 0 0 rfl _ (by omega) (Parts.nil _ _) (by simp)).mono ?_
  rintro e w' ⟨rfl, rfl⟩
  rw [H1.out]
  go_wp2
  go_ret
  exact ⟨rfl, ((Below.refl _ _).alloc (Nat.le_refl _) _).alloc (by simp) _⟩
theorem cut_len (l : List UInt8) : (l.take 300).length ≤ 300 := by rw [List.length_take]; omega
set_option maxHeartbeats 400000 in
theorem crcSums_walk (A : Option Addr) (l : List UInt8) (c : Nat) (w : World) (hl : l.length ≤ c) (hc : c ≤ 9223372036854775807) (hb : Bytes w A l) :
    Calls Try.prog 3 #[.slice A l.length c] w fun e w' => e = .returned (.bool true) ∧ Below w.heap.size w w' := by
  have hk := cut_len l
  go_enter Try.func3, Try.ntmps3
  go_wp2_with fail
  refine (cut_any A l c _ hl hc hb).mono ?_
  rintro e w1 ⟨A1, c1, rfl, hown, hbel⟩
  generalize l.take 300 = k at *
  go_wp2_with fail
  refine (sum_any _ [k] 1 1 rfl _ (by omega) (by exact Parts.one hown.bytes rfl hown.le.1 rfl) (by simp; omega)).mono ?_
  rintro e w' ⟨rfl, rfl⟩
  have HE := hide (show [k].flatten = k by simp)
  rw [HE.out]
  go_wp2_with fail
  refine (refsum_any _ k c1 _ (by omega) (hown.bytes.alloc _)).mono ?_
  rintro e w' ⟨rfl, rfl⟩
  go_wp2_with fail
  refine (works_any _).mono ?_
  rintro e w2 ⟨rfl, hbel2⟩
  go_wp2
  go_ret
  exact ⟨rfl, (hbel.alloc hbel.size _).trans (hbel2.mono (by have := hbel.size; simp; omega))⟩
set_option maxHeartbeats 400000 in
theorem crcMore_walk (n : Int) (A : Option Addr) (l : List UInt8) (c : Nat) (w : World) (hn : (Lit.int .u32 n).wf = true) (hl : l.length ≤ c) (hc : c ≤ 9223372036854775807) (hb : Bytes w A l) :
    Calls Try.prog 5 #[.int .u32 n, .slice A l.length c] w fun e w' => e = .returned (.bool true) ∧ Below w.heap.size w w' := by
  have hw := bounds_u32 hn
  obtain ⟨s, rfl⟩ := Int.eq_ofNat_of_zero_le hw.1
  have hs : s < 4294967296 := by omega
  clear hw hn
  have hk := cut_len l
  go_enter Try.func5, Try.ntmps5
  go_wp2_with fail
  refine (cut_any A l c _ hl hc hb).mono ?_
  rintro e w1 ⟨A1, c1, rfl, hown, hbel⟩
  generalize l.take 300 = k at *
  go_wp2_with fail
  refine (more_any s _ k c1 _ hs (by omega) hown.bytes).mono ?_
  rintro e w' ⟨rfl, rfl⟩
  go_wp2_with fail
  refine (refMore_any s _ k c1 _ hs (by omega) hown.bytes).mono ?_
  rintro e w' ⟨rfl, rfl⟩
  go_wp2_with fail
  refine (works_any _).mono ?_
  rintro e w2 ⟨rfl, hbel2⟩
  go_wp2
  go_ret
  exact ⟨rfl, hbel.trans (hbel2.mono hbel.size)⟩
theorem cut_id (A : Option Addr) (l : List UInt8) (c : Nat) (w : World) (h : l.length ≤ 300) (hl : l.length ≤ c) (hc : c ≤ 9223372036854775807) (hb : Bytes w A l) :
    Calls Try.prog 9 #[.slice A l.length c] w fun e w' => ∃ A' c', e = .returned (.slice A' l.length c') ∧ Own w' w.heap.size A' c' l ∧ Below w.heap.size w w' := by
  have := cut_any A l c w hl hc hb
  rw [List.take_of_length_le h] at this
  exact this
set_option maxHeartbeats 400000 in
theorem crcParts_walk (A : Option Addr) (l : List UInt8) (c : Nat) (A2 : Option Addr) (l2 : List UInt8) (c2 : Nat) (w : World) (hl : l.length ≤ c) (hc : c ≤ 9223372036854775807) (hb : Bytes w A l) (hl2 : l2.length ≤ c2) (hc2 : c2 ≤ 9223372036854775807) (hb2 : Bytes w A2 l2) :
    Calls Try.prog 4 #[.slice A l.length c, .slice A2 l2.length c2] w fun e w' => e = .returned (.bool true) ∧ Below w.heap.size w w' := by
  have hk := cut_len l
  have hk2 := cut_len l2
  go_enter Try.func4, Try.ntmps4
  go_wp2_with fail
  refine (cut_any A l c _ hl hc hb).mono ?_
  rintro e w1 ⟨A1, c1, rfl, hown, hbel⟩
  generalize l.take 300 = k at *
  go_wp2_with fail
  refine (cut_any A2 l2 c2 _ hl2 hc2 (hb2.below hbel)).mono ?_
  rintro e w2 ⟨A3, c3, rfl, hown2, hbel2⟩
  generalize l2.take 300 = k2 at *
  have hown1 := hown.below hbel2
  have hbelb : Below w.heap.size w w2 := hbel.trans (hbel2.mono hbel.size)
  have hown2' := hown2.mono hbel.size
  clear hown hown2 hbel2 hb hb2
  go_wp2_with fail
  refine (cut_id A1 k c1 _ hk hown1.le.1 hown1.le.2 hown1.bytes).mono ?_
  rintro e w3 ⟨A4, c4, rfl, hown4, hbel3⟩
  have hown1' := hown1.below hbel3
  have hown2 := hown2'.below hbel3
  have hbelc : Below w.heap.size w w3 := hbelb.trans (hbel3.mono hbelb.size)
  have hown4' := hown4.mono hbelb.size
  have hd1 : ∀ q, blk A1 = some q → blk A4 ≠ some q := fun q hq h4 => by have := hown1.lt hq; have := hown4.base h4; omega
  have hd2 : ∀ q, blk A3 = some q → blk A4 ≠ some q := fun q hq h4 => by have := hown2'.lt hq; have := hown4.base h4; omega
  clear hown1 hown2' hown4 hbel3
  go_wp2_with (at_builtin; refine wpList_append_bytes byteT rfl (.tmp 11) (.tmp 12) rfl hown4' hown2.bytes rfl rfl ?_ ?_ ?_)
  · omega
  · exact hbelc.size
  · intro A5 c5 k5 w5 HL5 hown5 hg5 hat5
    have hbeld : Below w.heap.size w w5 := hbelc.grown hg5 hbelc.size (fun q hq => hown4'.base hq)
    have hownA := hown1'.grown hg5 hd1
    have hownB := hown2.grown hg5 hd2
    have HF := hide (show [k, k2].flatten = k5 by rw [HL5.out]; simp)
    have HG := hide (show [k].flatten = k by simp)
    have HG5 := hide (show [k5].flatten = k5 by simp)
    have HM := hide (show Crc.ones - Crc.more (Crc.ones - Crc.sum k) k2 = Crc.sum k5 by rw [HL5.out]; exact Crc.more_of_sum k k2)
    have hk5 : k5.length ≤ 600 := by rw [HL5.out, List.length_append]; omega
    have hs := Crc.sum_lt' k
    clear hown1' hown2 hown4' hg5 hd1 hd2 hat5 hbelb hbelc
    go_wp2_with fail
    refine (sum_any _ [k, k2] 2 2 rfl _ (by omega) (by exact Parts.two hownA.bytes rfl hownA.le.1 hownB.bytes rfl hownB.le.1 rfl) (by simp; omega)).mono ?_
    rintro e w' ⟨rfl, rfl⟩
    rw [HF.out]
    have hownA := hownA.alloc (.cells #[.slice A1 k.length c1, .slice A3 k2.length c3] 22)
    have hownB := hownB.alloc (.cells #[.slice A1 k.length c1, .slice A3 k2.length c3] 22)
    have hown5 := hown5.alloc (.cells #[.slice A1 k.length c1, .slice A3 k2.length c3] 22)
    have hbeld := hbeld.alloc hbeld.size (.cells #[.slice A1 k.length c1, .slice A3 k2.length c3] 22)
    generalize (w5.alloc (.cells #[.slice A1 k.length c1, .slice A3 k2.length c3] 22)) = w6 at *
    go_wp2_with fail
    refine (refsum_any _ k5 c5 _ (by omega) hown5.bytes).mono ?_
    rintro e w' ⟨rfl, rfl⟩
    go_wp2_with fail
    refine (sum_any _ [k] 1 1 rfl _ (by omega) (by exact Parts.one hownA.bytes rfl hownA.le.1 rfl) (by simp; omega)).mono ?_
    rintro e w' ⟨rfl, rfl⟩
    rw [HG.out]
    have hownB := hownB.alloc (.cells #[.slice A1 k.length c1] 22)
    have hown5 := hown5.alloc (.cells #[.slice A1 k.length c1] 22)
    have hbeld := hbeld.alloc hbeld.size (.cells #[.slice A1 k.length c1] 22)
    generalize (World.alloc _ (.cells #[.slice A1 k.length c1] 22)) = w7 at *
    go_wp2_with fail
    refine (more_any _ A3 k2 c3 _ hs (by omega) hownB.bytes).mono ?_
    rintro e w' ⟨rfl, rfl⟩
    rw [HM.out]
    go_wp2_with fail
    refine (refsum_any _ k5 c5 _ (by omega) hown5.bytes).mono ?_
    rintro e w' ⟨rfl, rfl⟩
    go_wp2_with fail
    refine (sum_any _ [k5] 1 1 rfl _ (by omega) (by exact Parts.one hown5.bytes rfl hown5.le.1 rfl) (by simp; omega)).mono ?_
    rintro e w' ⟨rfl, rfl⟩
    rw [HG5.out]
    have hown5 := hown5.alloc (.cells #[.slice A5 k5.length c5] 22)
    have hbeld := hbeld.alloc hbeld.size (.cells #[.slice A5 k5.length c5] 22)
    generalize (World.alloc _ (.cells #[.slice A5 k5.length c5] 22)) = w8 at *
    go_wp2_with fail
    refine (refsum_any _ k5 c5 _ (by omega) hown5.bytes).mono ?_
    rintro e w' ⟨rfl, rfl⟩
    go_wp2_with fail
    refine (works_any _).mono ?_
    rintro e w9 ⟨rfl, hbel9⟩
    go_wp2
    go_ret
    exact ⟨rfl, hbeld.trans (hbel9.mono hbeld.size)⟩
end Go.Proofs.Ytoopgdolnmnedaa
