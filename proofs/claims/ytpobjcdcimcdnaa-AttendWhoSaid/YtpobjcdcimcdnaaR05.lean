/- The walks of the document of chapter 05. The walks of the document of chapter 05: numbers in sevens, bytes. A slice from some place on, under one name. -/
import Derived.Test.YtpobjcdcimcdnaaRdr
import Derived.Laws.OwnMore
import Derived.Deep.QuietTactic
import Derived.BigQuiet
namespace Go.Proofs.Ytpobjcdcimcdnaa
open Go.RowKit
theorem Own.one (w : World) {base : Nat} (v : Int) (h0 : 0 ≤ v) (h1 : v < 256) (hb : base ≤ w.heap.size) : Own (w.alloc (.cells #[.int .u8 v] 5)) base (some ⟨w.heap.size, 0, none⟩) 1 [UInt8.ofNat v.toNat] := by
  have h := World.ownsRow_lit (base := base) (e := 5) (size := 1) w #[.int .u8 v] 1 hb (by decide) rfl
  rw [← byte_val v h0 h1] at h ⊢
  exact h
theorem Grow.drewN {a b : World} (h : Grow a b) (n : Nat) : Grow a (b.drewN n) := ⟨h.os, h.tape, h.output, h.size, h.block⟩
end Go.Proofs.Ytpobjcdcimcdnaa
namespace Go.Proofs.Ytpobjcdcimcdnaa
open Go.RowKit
end Go.Proofs.Ytpobjcdcimcdnaa
namespace Go.Proofs.Ytpobjcdcimcdnaa
open Go.RowKit
end Go.Proofs.Ytpobjcdcimcdnaa
