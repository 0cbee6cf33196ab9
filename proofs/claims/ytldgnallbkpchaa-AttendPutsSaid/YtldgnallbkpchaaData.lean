/- The walks of package data and of its document. -/
import Derived.Test.YtldgnallbkpchaaHdLawB
namespace Go.Proofs.Ytldgnallbkpchaa
open Go.RowKit
theorem Bytes.none_ {w : World} {l : List UInt8} (h : Bytes w none l) : l = [] := by
  rcases List.eq_nil_or_concat l with e | ⟨_, _, e⟩
  · exact e
  · obtain ⟨_, _, h, _⟩ := h (by rw [e]; simp)
    cases h
set_option maxRecDepth 100000 in
set_option maxHeartbeats 1000000 in
theorem clone_any (A : Option Addr) (l : List UInt8) (c : Nat) (w : World) (hl : Bytes w A l) (hn : l.length ≤ 1000000000000) :
    Calls Try.prog 162 #[.slice A l.length c] w fun r w' => ∃ A' c', r = .returned (.slice A' l.length c') ∧ Own w' w.heap.size A' c' l ∧ Grow w w' := by
  cases A with
  | none =>
    obtain rfl := hl.none_
    have hq : ∀ w, (binOp .eql 25 (.slice none ([] : List UInt8).length c) (.slice none 0 0)).run Try.prog w = .ok (.bool true) w := fun w => Lib.run_eql_slice_nil w 25 5 none _ c 0 0 Try.underlying25
    simp only [List.length_nil] at hq
    go_enter Try.func162, Try.ntmps162
    go_wp2
    go_ret
    exact ⟨none, 0, rfl, Own.nil_ _ _, Grow.refl _⟩
  | some a =>
    have hq : ∀ w, (binOp .eql 25 (.slice (some a) l.length c) (.slice none 0 0)).run Try.prog w = .ok (.bool false) w := fun w => Lib.run_eql_slice_nil w 25 5 (some a) _ c 0 0 Try.underlying25
    go_enter Try.func162, Try.ntmps162
    go_wp2_with (at_builtin; refine wpList_append_bytes byteT rfl (.tmp 5) (.tmp 6) rfl (Own.made w (base := w.heap.size) #[] 0 (Nat.le_refl _) (by decide) rfl) (hl.alloc _) rfl rfl ?_ ?_ ?_)
    · simp; omega
    · simp
    intro A' c' b' w2 HL hown hg2 _
    have e : b' = l := HL.out.trans (by simp)
    subst e
    go_wp2
    go_ret
    exact ⟨A', c', rfl, hown, (((Below.refl _ _).alloc (Nat.le_refl _) _).grown hg2 (by simp) (by simp [blk]))⟩
set_option maxRecDepth 100000 in
set_option maxHeartbeats 1000000 in
theorem own_any (A : Option Addr) (l : List UInt8) (c : Nat) (w : World) (hl : Bytes w A l) (hn : l.length ≤ 1000000000000) (hc : l.length ≤ c) :
    Calls Try.prog 157 #[.slice A l.length c] w fun r w' => ∃ A' c', r = .returned (.slice A' l.length c') ∧ Own w' w.heap.size A' c' l ∧ Grow w w' := by
  have HC := hide (fun W h => clone_any A l l.length W h hn)
  go_enter Try.func157, Try.ntmps157
  go_wp2_with fail
  refine (HC.out _ hl).mono ?_
  rintro r w' ⟨A', c', rfl, h1, h2⟩
  go_wp2
  go_ret
  exact ⟨A', c', rfl, h1, h2⟩
end Go.Proofs.Ytldgnallbkpchaa
