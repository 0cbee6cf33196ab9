/- The walks of the document of chapter 05. The walks of the document of chapter 05: numbers in sevens, bytes. A slice from some place on, under one name. -/
import Derived.Test.YtbccbfmgjeknhaaRdr
import Derived.Laws.OwnMore
import Derived.Deep.QuietTactic
import Derived.BigQuiet
namespace Go.Proofs.Ytbccbfmgjeknhaa
open Go.RowKit
theorem Own.one (w : World) {base : Nat} (v : Int) (h0 : 0 ≤ v) (h1 : v < 256) (hb : base ≤ w.heap.size) : Own (w.alloc (.cells #[.int .u8 v] 5)) base (some ⟨w.heap.size, 0, none⟩) 1 [UInt8.ofNat v.toNat] := by
  have h := World.ownsRow_lit (base := base) (e := 5) (size := 1) w #[.int .u8 v] 1 hb (by decide) rfl
  rw [← byte_val v h0 h1] at h ⊢
  exact h
theorem Grow.drewN {a b : World} (h : Grow a b) (n : Nat) : Grow a (b.drewN n) := ⟨h.os, h.tape, h.output, h.size, h.block⟩
end Go.Proofs.Ytbccbfmgjeknhaa
namespace Go.Proofs.Ytbccbfmgjeknhaa
open Go.RowKit
/-- a result: bytes, what is left, what is wrong -/
def Got2 (B : Option Addr) (b : List UInt8) (r : Ending) (x t : List UInt8) (e : Int) : Prop := ∃ A c A2 c2, r = .returned (.tuple #[.slice A x.length c, .slice A2 t.length c2, .int .i64 e]) ∧ x.length ≤ c ∧ c ≤ 9223372036854775807 ∧ t.length ≤ c2 ∧ c2 ≤ 9223372036854775807 ∧ (∀ W, Bytes W B b → Bytes W A x) ∧ ∀ W, Bytes W B b → Bytes W A2 t
theorem Got2.none_ (B : Option Addr) (b : List UInt8) (e : Int) : Got2 B b (.returned (.tuple #[.slice none 0 0, .slice none 0 0, .int .i64 e])) [] [] e := ⟨none, 0, none, 0, rfl, Nat.le_refl _, by decide, Nat.le_refl _, by decide, fun _ _ => Bytes.nil _ _, fun _ _ => Bytes.nil _ _⟩
end Go.Proofs.Ytbccbfmgjeknhaa
namespace Go.Proofs.Ytbccbfmgjeknhaa
open Go.RowKit
end Go.Proofs.Ytbccbfmgjeknhaa
