/- slices.Grow of nothing, slices.Concat of bytes, snap.Join. -/
import Derived.Test.YtbccbfmgjeknhaaMp
import Derived.Test.YtbccbfmgjeknhaaRdX
import Derived.Lib.AppendZeros
namespace Go.Proofs.Ytbccbfmgjeknhaa
open Go.RowKit
/-- the address B leads to slices that read as these bytes -/
def Sls (w : World) (B : Option Addr) (L : List (List UInt8)) : Prop :=
  L ≠ [] → ∃ b o, B = some ⟨b, o, none⟩ ∧ ∀ k (h : k < L.length), ∃ A c, w.cell? ⟨b, o + k, none⟩ = some (.slice A L[k].length c) ∧ Bytes w A L[k]
theorem Sls.grow {w w' : World} {B : Option Addr} {L : List (List UInt8)} (h : Sls w B L) (hg : Grow w w') : Sls w' B L := by
  intro hL
  obtain ⟨b, o, rfl, hc⟩ := h hL
  refine ⟨b, o, rfl, fun k hk => ?_⟩
  obtain ⟨A, c, h1, h2⟩ := hc k hk
  exact ⟨A, c, Grow.cell' hg h1, h2.grow hg⟩
theorem flat_take (L : List (List UInt8)) (k : Nat) (h : k < L.length) : (L.take (k + 1)).flatten = (L.take k).flatten ++ L[k] := by
  rw [List.take_succ_eq_append_getElem h, List.flatten_append]
  simp
theorem flat_le (L : List (List UInt8)) (k : Nat) : (L.take k).flatten.length ≤ L.flatten.length := by
  have : L.flatten = (L.take k).flatten ++ (L.drop k).flatten := by rw [← List.flatten_append, List.take_append_drop]
  rw [this, List.length_append]
  omega
theorem grow_zeros (n : Nat) (w : World) (hn : n ≤ 1000000) :
    Calls Try.prog 60 #[.slice none 0 0, .int .i64 n] w fun r w' => ∃ A c, r = .returned (.slice A 0 c) ∧ Own w' w.heap.size A c [] ∧ Grow w w' := by
  by_cases h0 : n = 0
  · subst h0
    go_enter Try.func60, Try.ntmps60
    go_wp2
    go_ret
    exact ⟨none, 0, rfl, Own.nil_ _ _, Grow.refl w⟩
  · obtain ⟨i, hi, hz, hs, hby⟩ := byteT.info
    have hpos : 0 < n := by omega
    have hr := fun ty => Lib.run_append_nil_zeros (P := Try.prog) w 22 3 ty 5 i (.int .u8 0) .i64 .i64 byteT.und Try.underlying3 hi hz n hpos (by omega) (by omega) (by rw [hby]; omega)
    have hge := grownCap_ge w n 0 5
    have hcm : grownCap w n 0 5 ≤ maxLen := grownCap_le_maxLen w n 0 5 (by unfold maxLen; omega)
    generalize grownCap w n 0 5 = C at *
    have hown : Hid (Own (w.drew.alloc (.cells (Builtin.zeroCells (Value.int .u8 0).cells n ++ Builtin.zeroCells (Value.int .u8 0).cells (C - n)) 5)) w.heap.size (some ⟨w.heap.size, 0, none⟩) C []) := hide (Own.made w.drew _ C (Nat.le_refl _) hcm (by simp [Builtin.zeroCells, Value.cells]; omega))
    have hgr : Hid (Grow w (w.drew.alloc (.cells (Builtin.zeroCells (Value.int .u8 0).cells n ++ Builtin.zeroCells (Value.int .u8 0).cells (C - n)) 5))) := hide ((Grow.refl w).drew.alloc _)
    have hcm2 : C ≤ 9223372036854775807 := hcm
    generalize w.drew.alloc (.cells (Builtin.zeroCells (Value.int .u8 0).cells n ++ Builtin.zeroCells (Value.int .u8 0).cells (C - n)) 5) = w1 at *
    have hr := hide hr
    have hni : 0 < (n : Int) := by omega
    clear hi hz hs hby
    go_enter Try.func60, Try.ntmps60
    go_wp2_with (at_builtin; refine Lib.wpList_append_run _ rfl (.tmp 20) (.tmp 21) 22 3 rfl _ _ rfl rfl _ _ (hr.out _) ?_)
    clear hr
    go_wp2
    go_ret
    exact ⟨_, C, rfl, hown.out, hgr.out⟩
set_option maxRecDepth 100000 in
set_option maxHeartbeats 1000000 in
theorem concat_any (B : Option Addr) (L : List (List UInt8)) (c : Nat) (w : World) (hL : Sls w B L) (hn : L.length ≤ 1000000) (hs : L.flatten.length ≤ 1000000) :
    Calls Try.prog 37 #[.slice B L.length c] w fun r w' => ∃ A' c', r = .returned (.slice A' L.flatten.length c') ∧ Own w' w.heap.size A' c' L.flatten ∧ Grow w w' := by
  go_enter Try.func37, Try.ntmps37
  go_wp2
  go_loopw [3, 11] (fun s i wr => ∃ k S : Nat, k ≤ L.length ∧ i = .int .i64 k ∧ s = .int .i64 S ∧ Hid (S = (L.take k).flatten.length) ∧ w = wr) (fun _ i _ => L.length - (intOf i).toNat)
  case atStart => exact ⟨0, 0, by omega, rfl, rfl, hide rfl, rfl⟩
  case round =>
    obtain ⟨k, S, hk, rfl, rfl, hS, rfl⟩ := hrel
    by_cases hlt : k < L.length
    · have hlti : (k : Int) < (L.length : Int) := by omega
      obtain ⟨b, o, hA, hc⟩ := hL (by rintro rfl; simp at hlt)
      subst hA
      obtain ⟨A1, c1, hcell, _⟩ := hc k hlt
      have hsn := congrArg List.length (flat_take L k hlt)
      rw [List.length_append, ← hS.out] at hsn
      have hle := flat_le L (k + 1)
      rw [hsn] at hle
      have hS2 : Hid (S + L[k].length = (L.take (k + 1)).flatten.length) := hide hsn.symm
      generalize L[k].length = x at *
      have hn0 : ¬ ((S : Int) + (x : Int) < 0) := by omega
      clear hc hsn
      go_wp2
      go_roundw
      case rel => exact ⟨k + 1, S + x, by omega, by go_num, by go_num, hS2, by simp⟩
      case measure => simp [intOf]; omega
    · obtain rfl : k = L.length := by omega
      have hSS := hS.out
      rw [List.take_length] at hSS
      clear hlt hS
      have hSl : S ≤ 1000000 := by omega
      have HG := hide (grow_zeros S w hSl)
      clear hSS
      go_wp2_with fail
      refine HG.out.mono ?_
      rintro r w1 ⟨A1, c1, rfl, hown1, hg1⟩
      have hown1 := hide hown1
      go_wp2
      go_loopw [6, 27] (fun v i wr => ∃ (k : Nat) (A : Option Addr) (c : Nat) (acc : List UInt8), k ≤ L.length ∧ i = .int .i64 k ∧ v = .slice A acc.length c ∧ Hid (acc = (L.take k).flatten) ∧ Hid (Own wr w.heap.size A c acc) ∧ Grow w wr) (fun _ i _ => L.length - (intOf i).toNat)
      case atStart => exact ⟨0, A1, c1, [], by omega, rfl, rfl, hide rfl, hown1, hg1⟩
      case round =>
        clear hown1 hg1
        obtain ⟨k, A, cA, acc, hk, rfl, rfl, hacc, hown, hgr⟩ := hrel
        by_cases hlt : k < L.length
        · have hlti : (k : Int) < (L.length : Int) := by omega
          obtain ⟨b, o, hB, hc⟩ := hL.grow hgr (by rintro rfl; simp at hlt)
          subst hB
          obtain ⟨A2, c2, hcell, hb2⟩ := hc k hlt
          have hsn := flat_take L k hlt
          have hle := flat_le L (k + 1)
          rw [hsn, ← hacc.out, List.length_append] at hle
          rw [← hacc.out] at hsn
          have hsn := hide hsn
          generalize L[k] = x at *
          clear hc
          go_wp2_with (at_builtin; refine wpList_append_bytes byteT rfl (.tmp 31) (.tmp 32) rfl hown.out hb2 rfl rfl (by omega) hgr.size ?_)
          intro A3 c3 l3 w3 hl3 hown3 hgb3 _
          have hg3 : Grow w w3 := Below.trans hgr ⟨hgb3.os, hgb3.tape, hgb3.output, hgb3.size, fun q hq => hgb3.block q (by have := hgr.size; omega) (fun e => by have := hown.out.base e.symm; omega)⟩
          have hacc3 : Hid (l3 = (L.take (k + 1)).flatten) := hide (by rw [hl3.out, hsn.out])
          have hown3 := hide hown3
          clear hown hgb3 hl3 hsn hb2 hcell
          go_wp2
          go_roundw
          case rel => exact ⟨k + 1, A3, c3, l3, by omega, by go_num, rfl, hacc3, hown3, hg3⟩
          case measure => simp [intOf]; omega
        · obtain rfl : k = L.length := by omega
          have hAA := hacc.out
          rw [List.take_length] at hAA
          subst hAA
          clear hlt
          go_wp2
          go_ret
          exact ⟨A, cA, rfl, hown.out, hgr⟩
theorem join_any (B : Option Addr) (L : List (List UInt8)) (c : Nat) (w : World) (hL : Sls w B L) (hn : L.length ≤ 1000000) (hs : L.flatten.length ≤ 1000000) :
    Calls Try.prog 16 #[.slice B L.length c] w fun r w' => ∃ A' c', r = .returned (.slice A' L.flatten.length c') ∧ Own w' w.heap.size A' c' L.flatten ∧ Grow w w' := by
  have HC := hide (concat_any B L c w hL hn hs)
  generalize L.flatten = M at *
  go_enter Try.func16, Try.ntmps16
  go_wp2_with fail
  refine HC.out.mono ?_
  rintro r w1 ⟨A1, c1, rfl, hown1, hg1⟩
  go_wp2
  go_ret
  exact ⟨A1, c1, rfl, hown1, hg1⟩
end Go.Proofs.Ytbccbfmgjeknhaa
