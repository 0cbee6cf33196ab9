/- Ledgers (chapters 37, 41): what is in memory; Total. -/
import Derived.Test.YtbccbfmgjeknhaaRws
import Derived.Test.YtbccbfmgjeknhaaRdX
namespace Go.Proofs.Ytbccbfmgjeknhaa
open Go.RowKit
abbrev u32v (x : Nat) : Value := .int .u32 (x : Int)
/-- a ledger -/
structure Lg where
  count : Int
  sum : Nat
  of : List Nat
structure Lg.Ok (l : Lg) : Prop where
  len : l.of.length = 64
  lt : ∀ x, x ∈ l.of → x < 4294967296
  sum : l.sum < 18446744073709551616
  c0 : -9223372036854775808 ≤ l.count
  c1 : l.count ≤ 9223372036854775807
def lcs (l : Lg) : List Value := .int .i64 l.count :: .int .u64 (l.sum : Int) :: l.of.map u32v
theorem lcs_len (l : Lg) (h : l.Ok) : (lcs l).length = 66 := by simp [lcs, h.len]
theorem range_of {w : World} {g o : Nat} {cs : Array Value} (h : Box w g cs) (vs : List Value) (hv : ∀ j v, vs[j]? = some v → cs[o + j]? = some v) : w.rangeAt g o vs := fun j v hj => by rw [h.cell (o + j)]; exact hv j v hj
theorem u32Info : (Try.prog.info? 31).map (fun i => (i.zero, i.size, i.bytes)) = some (some (.int .u32 0), 1, 4) := by kernel_rfl
theorem run_index_u32 (L : List Nat) (hl : L.length = 64) (k : Nat) (hk : k < L.length) (W : World) : (Instr.index 32 (.agg (L.map u32v).toArray) (.int .i64 (k : Int))).run Try.prog W = .ok (u32v L[k]) W := by
  obtain ⟨i0, hi0, hz0, hs0, hb0⟩ := info_parts u32Info
  have e : (L.map u32v)[k]? = some (u32v L[k]) := by rw [List.getElem?_map, List.getElem?_eq_getElem hk]; rfl
  have e2 : L[k]? = some L[k] := List.getElem?_eq_getElem hk
  have h1 : (0 : Int) ≤ (k : Int) ∧ (k : Int) < 64 := by omega
  have hu : (isAgg 31).run Try.prog W = .ok false W := by
    simp [isAgg, run_underlying Try.underlying31]
  simp [Instr.index, asIntOf, run_underlying Try.underlying32, sizeOf, typeInfo, hi0, hs0, h1, part, hu, e2, Result.andThen]
  intro h
  omega
set_option maxRecDepth 100000 in
set_option maxHeartbeats 1000000 in
theorem ltotal_any (l : Lg) (w : World) (h : l.Ok) : Calls Try.prog 74 #[.agg (lcs l).toArray] w fun r w' => r = .returned (.int .i64 (l.of.sum : Nat)) ∧ Grow w w' := by
  have hbx := Box.new w (lcs l).toArray 34 rfl
  have hra : (w.alloc (.cells (lcs l).toArray 34)).rangeAt w.heap.size 2 (l.of.map u32v) := range_of hbx _ (fun j v hj => by
    rw [List.getElem?_toArray]
    unfold lcs
    rw [show 2 + j = j + 1 + 1 by omega, List.getElem?_cons_succ, List.getElem?_cons_succ]
    exact hj)
  have hsz : (Try.prog.info? 32).map (·.size) = some (l.of.map u32v).length := by rw [List.length_map, h.len]; kernel_rfl
  have hra := hide hra
  have hg := (Grow.refl w).alloc (.cells (lcs l).toArray 34)
  clear hbx
  generalize (lcs l).toArray = C at *
  have hlen := h.len
  have hlt := hide h.lt
  clear h
  generalize l.of = L at *
  go_enter Try.func74, Try.ntmps74
  go_wp2_with (refine wpList_load_mid rfl 32 (.tmp 6) rfl w.heap.size 2 rfl (L.map u32v) _ hra.out Try.underlying32 rfl hsz ?_)
  clear hsz
  generalize w.alloc (.cells C 34) = w1 at *
  clear hra
  go_wp2
  go_loopw [3, 8] (fun s i wr => ∃ k S : Nat, k ≤ 64 ∧ i = .int .i64 k ∧ s = .int .i64 S ∧ Hid (S = (L.take k).sum) ∧ S ≤ 4294967296 * k ∧ wr = w1) (fun _ i _ => 64 - (intOf i).toNat)
  case atStart => exact ⟨0, 0, by omega, rfl, rfl, hide rfl, by omega, rfl⟩
  case round =>
    obtain ⟨k, S, hk, rfl, rfl, hS, hSl, rfl⟩ := hrel
    by_cases hltk : k < 64
    · have hki : (k : Int) < 64 := by omega
      have hkL : k < L.length := by omega
      have hsn : Hid ((L.take (k + 1)).sum = (L.take k).sum + L[k]) := hide (by rw [List.take_succ_eq_append_getElem hkL, List.sum_append]; simp)
      have hx := hlt.out _ (List.getElem_mem hkL)
      have hix := run_index_u32 L hlen k hkL wr
      generalize L[k] = x at *
      clear hlen
      have hS2 : Hid (S + x = (L.take (k + 1)).sum) := hide (by rw [hsn.out, ← hS.out])
      go_wp2
      go_roundw
      case rel => exact ⟨k + 1, S + x, by omega, by go_num, by go_num, hS2, by omega, by simp⟩
      case measure => simp [intOf]; omega
    · obtain rfl : k = 64 := by omega
      have hS2 := hS.out
      rw [List.take_of_length_le (by omega)] at hS2
      subst hS2
      go_wp2
      go_ret
      exact ⟨rfl, hg⟩
end Go.Proofs.Ytbccbfmgjeknhaa
