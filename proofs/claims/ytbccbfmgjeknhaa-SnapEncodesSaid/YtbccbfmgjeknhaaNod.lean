/- The document's sets of nodes (chapter 03): lists of ints, With. -/
import Derived.Test.YtbccbfmgjeknhaaRdX
import Derived.Laws.AppendOwn
import Derived.OwnWalk
namespace Go.Proofs.Ytbccbfmgjeknhaa
open Go.RowKit
theorem nbit (s i : Nat) : s.testBit i = decide (s / 2 ^ i % 2 = 1) := Nat.testBit_eq_decide_div_mod_eq
theorem intInfo : (Try.prog.info? 3).map (fun i => (i.zero, i.size, i.bytes)) = some (some (.int .i64 0), 1, 8) := by kernel_rfl
abbrev nv (i : Nat) : Value := .int .i64 (i : Int)
/-- a list of numbers in memory -/
def IntsAt (w : World) (A : Option Addr) (L : List Nat) : Prop := L ≠ [] → ∃ b o, A = some ⟨b, o, none⟩ ∧ ∀ k (h : k < L.length), w.cell? ⟨b, o + k, none⟩ = some (nv L[k])
theorem IntsAt.grow {w w' : World} {A : Option Addr} {L : List Nat} (h : IntsAt w A L) (hg : Grow w w') : IntsAt w' A L := by
  intro hne
  obtain ⟨b, o, rfl, hc⟩ := h hne
  exact ⟨b, o, rfl, fun k hk => Grow.cell' hg (hc k hk)⟩
abbrev OwnI (w : World) (base : Nat) (v : Value) (L : List Nat) : Prop := w.ownsRow base 3 1 v L.length (L.map nv)
theorem OwnI.form {w : World} {base : Nat} {v : Value} {L : List Nat} (h : OwnI w base v L) : ∃ A c, v = .slice A L.length c ∧ (∀ q, v.ownBlock = some q → base ≤ q ∧ q < w.heap.size) ∧ IntsAt w A L := by
  obtain ⟨h0, ⟨rfl, h1⟩ | ⟨g, cap, cur, rfl, hb, hg, h1, h2, h3, h4⟩⟩ := h
  · have : L = [] := List.eq_nil_of_length_eq_zero h1
    subst this
    exact ⟨none, 0, rfl, fun q hq => by simp [Value.ownBlock] at hq, fun h => absurd rfl h⟩
  · refine ⟨_, cap, rfl, fun q hq => ?_, fun hne => ⟨g, 0, rfl, fun k hk => ?_⟩⟩
    · have : g = q := by simpa [Value.ownBlock] using hq
      subst this
      exact ⟨hb, (Array.getElem?_eq_some_iff.1 hg).1⟩
    · rw [Nat.zero_add, cell_of_row w g _ _ _ (0, 0) hg]
      have h5 : (cur.toList.take (L.length * 1))[k]? = (L.map nv)[k]? := by rw [h4]
      rw [List.getElem?_take_of_lt (by omega), List.getElem?_map, List.getElem?_eq_getElem hk] at h5
      simpa using h5
theorem OwnI.grow {w w' : World} {base : Nat} {v : Value} {L : List Nat} (h : OwnI w base v L) (hg : Grow w w') : OwnI w' base v L := by
  obtain ⟨h0, h1 | ⟨g, cap, cur, rfl, hbb, hgg, h1, h2, h3, h4⟩⟩ := h
  · exact ⟨h0, .inl h1⟩
  · exact ⟨h0, .inr ⟨g, cap, cur, rfl, hbb, (hg.block g (Array.getElem?_eq_some_iff.1 hgg).1).trans hgg, h1, h2, h3, h4⟩⟩
theorem OwnI.made (w : World) (base g : Nat) (hg : w.heap.size = g) (hb : base ≤ g) : OwnI (w.alloc (.cells #[] 3)) base (.slice (some ⟨g, 0, none⟩) 0 0) [] := by
  subst hg
  exact ⟨rfl, .inr ⟨_, 0, #[], rfl, hb, heap_alloc_new w _, Nat.le_refl _, by decide, rfl, rfl⟩⟩
theorem one_news {w : World} {g : Nat} {v : Value} (h : w.cell? ⟨g, 0, none⟩ = some v) : ∀ j u, [v][j]? = some u → w.cell? ((⟨g, 0, none⟩ : Addr).add j) = some u := by
  intro j u hj
  match j, hj with
  | 0, hj =>
    simp at hj
    subst hj
    simpa [Addr.add] using h
theorem ngrown {w0 w w' : World} {row : Option Nat} (hg : Grow w0 w) (h : w.grownBy w' row) (hr : ∀ q, row = some q → w0.heap.size ≤ q) : Grow w0 w' :=
  Below.trans hg ⟨h.os, h.tape, h.output, h.size, fun k hk => h.block k (Nat.lt_of_lt_of_le hk hg.size) (fun e => by have := hr k e.symm; omega)⟩
set_option maxHeartbeats 1000000 in
theorem npower_any (i : Nat) (w : World) (hi : i < 64) : Calls Try.prog 88 #[.int .i64 i] w fun r w' => r = .returned (.int .u64 ((2 ^ i : Nat) : Int)) ∧ w = w' := by
  go_enter Try.func88, Try.ntmps88
  go_wp2
  go_loopw [3, 4] (fun p j wr => ∃ k P : Nat, k ≤ i ∧ j = .int .i64 k ∧ p = .int .u64 P ∧ Hid (P = 2 ^ k) ∧ w = wr) (fun _ j _ => i - (intOf j).toNat)
  case atStart => exact ⟨0, 1, by omega, rfl, rfl, hide (by simp), rfl⟩
  case round =>
    obtain ⟨k, P, hk, rfl, rfl, hP, rfl⟩ := hrel
    by_cases hlt : k < i
    · have hlti : (k : Int) < (i : Int) := by omega
      have hb : P < 9223372036854775808 := by
        have h1 : 2 ^ k < 2 ^ 63 := Nat.pow_lt_pow_right (by omega) (by omega)
        have := hP.out
        omega
      go_wp2
      go_roundw
      case rel => exact ⟨k + 1, P * 2, by omega, by go_num, by go_num, hide (by rw [hP.out, Nat.pow_succ]), trivial⟩
      case measure => simp [intOf]; omega
    · obtain rfl : k = i := by omega
      clear hlt
      have hPP := hP.out
      subst hPP
      go_wp2
      go_ret
      exact ⟨rfl, rfl⟩
set_option maxHeartbeats 1000000 in
theorem nhas_any (s i : Nat) (w : World) (hs : s < 18446744073709551616) (hi : i < 64) : Calls Try.prog 80 #[.int .u64 s, .int .i64 i] w fun r w' => r = .returned (.bool (s.testBit i)) ∧ w = w' := by
  have HP := hide (fun W => npower_any i W hi)
  have hb := hide (nbit s i)
  have h0 : (0 : Int) ≤ (i : Int) := by omega
  have h1 : (i : Int) < 64 := by omega
  have hp : 0 < 2 ^ i := Nat.pow_pos (by decide)
  have hp2 : 2 ^ i < 18446744073709551616 := Nat.lt_of_lt_of_le (Nat.pow_lt_pow_right (by omega) hi) (by decide)
  generalize (2 ^ i : Nat) = P at *
  have hP0 : ¬ ((P : Int) = 0) := by omega
  have hv : ((IntKind.u64.wrap ((s : Int) / (P : Int))).tmod 2 == 1) = s.testBit i := by
    rw [hb.out, IntKind.wrap_u64]
    have hl : s / P ≤ s := Nat.div_le_self _ _
    have e : (s : Int) / (P : Int) = ((s / P : Nat) : Int) := by simp
    rw [e]
    generalize s / P = q at *
    rw [show ((q : Int) % 18446744073709551616) = (q : Int) by omega, Bool.eq_iff_iff]
    simp only [beq_iff_eq, decide_eq_true_eq]
    rw [Int.tmod_eq_emod_of_nonneg (by omega)]
    omega
  have hvh := hide hv
  clear hv
  go_enter Try.func80, Try.ntmps80
  go_wp2_with fail
  refine (HP.out _).mono ?_
  rintro r w' ⟨rfl, rfl⟩
  go_wp2
  go_ret
  exact ⟨by rw [← hvh.out]; rfl, rfl⟩
/-- the nodes of a set, rising -/
def bitsTo (s : Nat) : Nat → List Nat
  | 0 => []
  | k + 1 => if s.testBit k then bitsTo s k ++ [k] else bitsTo s k
theorem bitsTo_len (s : Nat) : ∀ k, (bitsTo s k).length ≤ k
  | 0 => Nat.le_refl _
  | k + 1 => by
    have := bitsTo_len s k
    unfold bitsTo
    split
    · simp; omega
    · omega
theorem bitsTo_mem (s : Nat) : ∀ k j, j ∈ bitsTo s k ↔ j < k ∧ s.testBit j = true
  | 0, j => by simp [bitsTo]
  | k + 1, j => by
    have ih := bitsTo_mem s k j
    unfold bitsTo
    split
    · rename_i h
      rw [List.mem_append, ih, List.mem_singleton]
      constructor
      · rintro (⟨h1, h2⟩ | rfl)
        · exact ⟨by omega, h2⟩
        · exact ⟨by omega, h⟩
      · rintro ⟨h1, h2⟩
        by_cases e : j = k
        · exact .inr e
        · exact .inl ⟨by omega, h2⟩
    · rename_i h
      rw [ih]
      constructor
      · rintro ⟨h1, h2⟩
        exact ⟨by omega, h2⟩
      · rintro ⟨h1, h2⟩
        refine ⟨?_, h2⟩
        by_cases e : j = k
        · subst e; exact absurd h2 h
        · omega
set_option maxRecDepth 100000 in
set_option maxHeartbeats 2000000 in
theorem nlist_any (s : Nat) (w : World) (hs : s < 18446744073709551616) :
    Calls Try.prog 70 #[.int .u64 s] w fun r w' => ∃ A c, r = .returned (.slice A (bitsTo s 64).length c) ∧ OwnI w' w.heap.size (.slice A (bitsTo s 64).length c) (bitsTo s 64) ∧ Grow w w' := by
  obtain ⟨i0, hi0, hz0, hs0, hb0⟩ := info_parts intInfo
  have HI := hide (And.intro hi0 (And.intro hz0 (And.intro hs0 hb0)))
  clear hi0 hz0 hs0 hb0
  have hg0 := (Grow.refl w).alloc (.cells #[] 3)
  have ho0 := hide (OwnI.made w w.heap.size _ rfl (Nat.le_refl _))
  go_enter Try.func70, Try.ntmps70
  go_wp2
  go_loopw [3, 4] (fun v i wr => ∃ (k : Nat) (A : Option Addr) (c : Nat) (M : List Nat), k ≤ 64 ∧ i = .int .i64 k ∧ v = .slice A M.length c ∧ Hid (M = bitsTo s k) ∧ M.length ≤ 64 ∧ Hid (OwnI wr w.heap.size (.slice A M.length c) M) ∧ Grow w wr) (fun _ i _ => 64 - (intOf i).toNat)
  case atStart => exact ⟨0, _, 0, [], by omega, rfl, rfl, hide rfl, by simp, ho0, hg0⟩
  case round =>
    clear ho0 hg0
    obtain ⟨k, A, c, M, hk, rfl, rfl, hM, hM64, hown, hgr⟩ := hrel
    have hgs := hgr.size
    by_cases hlt : k < 64
    · have hlti : (k : Int) < 64 := by omega
      have HH := hide (nhas_any s k wr hs hlt)
      have hlen := bitsTo_len s k
      rw [← hM.out] at hlen
      cases hb : s.testBit k with
      | true =>
        have hM2 : Hid (M ++ [k] = bitsTo s (k + 1)) := hide (by rw [hM.out]; show _ = if _ then _ else _; rw [if_pos hb])
        rw [hb] at HH
        have hbh := hide hb
        clear hb
        go_wp2_with fail
        refine HH.out.mono ?_
        rintro r w' ⟨rfl, rfl⟩
        go_wp2_with (at_builtin; refine Hid.out (?_ : Hid _))
        refine hide ?_
        refine (wpList_append_own _ rfl (.tmp 13) (.tmp 15) _ rfl w.heap.size _ i0 _ 1 8 Try.underlying70 HI.out.1 HI.out.2.1 HI.out.2.2.1 HI.out.2.2.2 rfl (by omega) (.slice A M.length c) M.length (M.map nv) rfl (hown.out.grow ((Grow.refl _).alloc _)) ⟨wr.heap.size, 0, none⟩ 1 1 [nv k] rfl rfl (one_news ((Box.new wr #[nv k] 3 rfl).cell 0)) (by simp [Value.oneCell']) (by unfold maxLen; omega) (by omega) (by simp; omega) ?_)
        intro v' w5 hown5 hgb5 _
        obtain ⟨_, _, _, hob, _⟩ := OwnI.form hown.out
        have hg5 : Grow w w5 := ngrown (hgr.alloc _) hgb5 (fun q h => (hob q h).1)
        have hown5' : OwnI w5 w.heap.size v' (M ++ [k]) := by
          unfold OwnI
          rw [List.length_append, List.map_append]
          exact hown5
        obtain ⟨A5, c5, rfl, _, _⟩ := OwnI.form hown5'
        have ho5 := hide hown5'
        have hl5 : (M ++ [k]).length ≤ 64 := by simp; omega
        generalize M ++ [k] = M5 at *
        clear hown5 hown5' hgb5 hob hown
        go_wp2
        go_roundw
        case rel => exact ⟨k + 1, A5, c5, M5, by omega, by go_num, rfl, hM2, hl5, ho5, hg5⟩
        case measure => simp [intOf]; omega
      | false =>
        have hM2 : Hid (M = bitsTo s (k + 1)) := hide (by rw [hM.out]; show _ = if _ then _ else _; rw [if_neg (by rw [hb]; decide)])
        rw [hb] at HH
        have hbh := hide hb
        clear hb
        go_wp2_with fail
        refine HH.out.mono ?_
        rintro r w' ⟨rfl, rfl⟩
        go_wp2
        go_roundw
        case rel => exact ⟨k + 1, A, c, M, by omega, by go_num, rfl, hM2, hM64, hown, hgr⟩
        case measure => simp [intOf]; omega
    · obtain rfl : k = 64 := by omega
      clear hlt
      have hMM := hM.out
      subst hMM
      go_wp2
      go_ret
      exact ⟨A, c, rfl, hown.out, hgr⟩
end Go.Proofs.Ytbccbfmgjeknhaa
