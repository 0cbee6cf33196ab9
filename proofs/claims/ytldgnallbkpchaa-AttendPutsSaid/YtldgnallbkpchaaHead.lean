/- Three closed facts on the head of this translation whose words are many: the kernel is shown the signs as a list. -/
import Derived.Test.YtldgnallbkpchaaFrame
namespace Go.Proofs.Ytldgnallbkpchaa
open Go.ChangeShapes Go.WideShapes Go.ChangeAt Go.RowKit
theorem viaL (P : Program) {l : List Char} (h : P.initOrder = String.ofList l) : P.initOrder.toList = l := by rw [h, String.toList_ofList]
theorem head_cut {P : Program} (h : ((behindMainWord (wordsSigns P.initOrder.toList)).head? == some "cut".toList) = true) : ∃ rest, behindMainWord (wordsSigns P.initOrder.toList) = "cut".toList :: rest := by
  cases hw : behindMainWord (wordsSigns P.initOrder.toList) with
  | nil => rw [hw] at h; simp at h
  | cons c rest =>
    rw [hw] at h
    have e : c = "cut".toList := by simpa using h
    exact ⟨rest, by rw [e]⟩
theorem strip_cut (rest : List (List Char)) : stripLifts liftWords ("cut".toList :: rest) = ([], "cut".toList :: rest) := by kernel_rfl
theorem make_cut {P : Program} {rest : List (List Char)} (h : behindMainWord (wordsSigns P.initOrder.toList) = "cut".toList :: rest) : P.make = some .cut := by
  unfold Program.make
  rw [h]
  rfl
theorem lifts_cut {P : Program} {rest : List (List Char)} (h : behindMainWord (wordsSigns P.initOrder.toList) = "cut".toList :: rest) : P.liftsFinal = false := by
  unfold Program.liftsFinal Program.headLifts
  rw [h, strip_cut]
  rfl
theorem enter_cut {P : Program} {rest : List (List Char)} (h : behindMainWord (wordsSigns P.initOrder.toList) = "cut".toList :: rest) (h1 : P.laysLater = false) (h2 : P.bearsReflect = false) (h3 : P.doorFits [] = true) : P.mayEnter = true := by
  unfold Program.mayEnter
  rw [h]
  show (_ || _ || _) = true
  rw [strip_cut, h1, h2, h3]
  simp
set_option maxRecDepth 100000 in
theorem isCut : ((behindMainWord (wordsSigns Try.prog.initOrder.toList)).head? == some "cut".toList) = true := by
  rw [show Try.prog.initOrder.toList = _ from viaL Try.prog rfl]
  kernel_rfl
theorem mayEnter_ : Try.prog.mayEnter = true := by
  obtain ⟨rest, h⟩ := head_cut isCut
  exact enter_cut h (by kernel_rfl) (by kernel_rfl) (by kernel_rfl)
theorem liftsFinal_ : Try.prog.liftsFinal = false := by
  obtain ⟨rest, h⟩ := head_cut isCut
  exact lifts_cut h
theorem make_ : Try.prog.make = some .cut := by
  obtain ⟨rest, h⟩ := head_cut isCut
  exact make_cut h
end Go.Proofs.Ytldgnallbkpchaa
