/- A clone of bytes. -/
import Derived.Test.YtcghgahohmabnaaTool
import Derived.Test.YtcghgahohmabnaaPk
import Derived.Lib.SlBytesConst
namespace Go.Proofs.Ytcghgahohmabnaa
open Go.RowKit
theorem Bytes.none_ {w : World} {l : List UInt8} (h : Bytes w none l) : l = [] := by
  rcases List.eq_nil_or_concat l with e | ⟨_, _, e⟩
  · exact e
  · obtain ⟨_, _, h, _⟩ := h (by rw [e]; simp)
    cases h
set_option maxRecDepth 100000 in
set_option maxHeartbeats 1000000 in
theorem clone_any (A : Option Addr) (l : List UInt8) (c : Nat) (w : World) (hl : Bytes w A l) (hn : l.length ≤ 1000000000000) :
    Calls Try.prog 80 #[.slice A l.length c] w fun r w' => ∃ A' c', r = .returned (.slice A' l.length c') ∧ Own w' w.heap.size A' c' l ∧ Grow w w' := by
  cases A with
  | none =>
    obtain rfl := hl.none_
    have hq : ∀ w, (binOp .eql 22 (.slice none ([] : List UInt8).length c) (.slice none 0 0)).run Try.prog w = .ok (.bool true) w := fun w => Lib.run_eql_slice_nil w 22 5 none _ c 0 0 Try.underlying22
    simp only [List.length_nil] at hq
    go_enter Try.func80, Try.ntmps80
    go_wp2
    go_ret
    exact ⟨none, 0, rfl, Own.nil_ _ _, Grow.refl _⟩
  | some a =>
    have hq : ∀ w, (binOp .eql 22 (.slice (some a) l.length c) (.slice none 0 0)).run Try.prog w = .ok (.bool false) w := fun w => Lib.run_eql_slice_nil w 22 5 (some a) _ c 0 0 Try.underlying22
    go_enter Try.func80, Try.ntmps80
    go_wp2_with (at_builtin; refine wpList_append_bytes byteT rfl (.tmp 5) (.tmp 6) rfl (Own.made w (base := w.heap.size) #[] 0 (Nat.le_refl _) (by decide) rfl) (hl.alloc _) rfl rfl ?_ ?_ ?_)
    · simp; omega
    · simp
    intro A' c' b' w2 HL hown hg2 _
    have e : b' = l := HL.out.trans (by simp)
    subst e
    go_wp2
    go_ret
    exact ⟨A', c', rfl, hown, (((Below.refl _ _).alloc (Nat.le_refl _) _).grown hg2 (by simp) (by simp [blk]))⟩
end Go.Proofs.Ytcghgahohmabnaa
