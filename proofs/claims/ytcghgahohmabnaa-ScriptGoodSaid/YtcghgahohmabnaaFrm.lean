/- What an argument that came in is, in my own words. A packet, a key, a log entry that came in, in my own words. Three closed facts on the head of this translation whose words are many: the kernel is shown the signs as a list. -/
import Derived.Test.YtcghgahohmabnaaRows
import Derived.Test.YtcghgahohmabnaaTool
import Derived.Test.YtcghgahohmabnaaPk
import Derived.ProofKit
import Derived.OpenShut
import Derived.ShutString
import Derived.ChangeOld
import Derived.SizedLaws
namespace Go.Proofs.Ytcghgahohmabnaa
open Go.ChangeShapes Go.WideShapes Go.ChangeAt Go.RowKit
theorem own : ownKnob Try.prog.godebug = none := by kernel_rfl
theorem laidOut : laidOutB Try.prog = true := by kernel_rfl
/-- a slice of bytes that came in reads as bytes -/
theorem open_bytes {H : Type} {enc : TypeId × Value → H} {W : World} {base : Nat} {spare : Nat → Bool} {held : Bool} {a : Option Addr} {len cap : Nat} {d : DataW H} {p : List MemPlace}
    (h : DataW.Trod enc Try.prog W base spare held 22 (.slice a len cap) d p) : ∃ l : List UInt8, len = l.length ∧ l.length ≤ cap ∧ cap ≤ 9223372036854775807 ∧ Bytes W a l := by
  obtain ⟨fuel, hf⟩ := h
  rcases open_ints Try.underlying22 Try.underlying5 (by kernel_rfl) hf with ⟨hcs, _⟩ | ⟨x, l, c, zs, hcs, _, hl, hm, hz, _, hcell, hwz⟩
  · simp [Value.cells] at hcs
    obtain ⟨rfl, rfl, rfl⟩ := hcs
    exact ⟨[], rfl, Nat.le_refl _, by omega, Bytes.nil _ _⟩
  · simp [Value.cells] at hcs
    obtain ⟨rfl, rfl, rfl⟩ := hcs
    refine ⟨(zs.take len).map (fun z => UInt8.ofNat z.toNat), ?_, ?_, by unfold maxLen at hm; exact hm, ?_⟩
    · rw [List.length_map, List.length_take, hz]; split <;> omega
    · rw [List.length_map, List.length_take]; omega
    · intro hne
      have h0 : 0 < zs.length := by
        rcases Nat.eq_zero_or_pos zs.length with h | h
        · rw [List.length_eq_zero_iff] at h; subst h; simp at hne
        · exact h
      have hc0 := hcell 0 h0
      obtain ⟨b, o, spot⟩ := x
      have hspot : spot = none := by simpa [Addr.add] using World.cell?_spot hc0
      subst hspot
      refine ⟨b, o, rfl, fun j hj => ?_⟩
      rw [List.length_map, List.length_take] at hj
      have hc := hcell j (by omega)
      have e : (⟨b, o, none⟩ : Addr).add j = ⟨b, o + j, none⟩ := by unfold Addr.add; split <;> simp_all
      rw [e] at hc
      rw [hc]
      have hw := bounds_u8 (hwz (zs.getD j 0) (by rw [List.getD_eq_getElem?_getD, List.getElem?_eq_getElem (by omega)]; simp))
      have := byte_val (zs.getD j 0) hw.1 (by omega)
      rw [← this]
      simp [u8, List.getD_eq_getElem?_getD, List.getElem?_eq_getElem (show j < zs.length by omega)]
end Go.Proofs.Ytcghgahohmabnaa
namespace Go.Proofs.Ytcghgahohmabnaa
open Go.ChangeShapes Go.WideShapes Go.ChangeAt Go.RowKit
/-- the bounds of what came in -/
structure Pkt.Ok (p : Pkt) : Prop where
  kind : (Lit.int .i64 p.kind).wf = true
  t : (Lit.int .i64 p.t).wf = true
  frm : (Lit.int .i64 p.frm).wf = true
  seq : (Lit.int .u32 p.seq).wf = true
  hops : (Lit.int .i64 p.hops).wf = true
  no : (Lit.int .i64 p.no).wf = true
  to : (Lit.int .i64 p.to).wf = true
  index : (Lit.int .i64 p.index).wf = true
  total : (Lit.int .i64 p.total).wf = true
  stamp : (Lit.int .i64 p.stamp).wf = true
  value : (Lit.int .i64 p.value).wf = true
theorem of_list {α : Type} {cs ds : Array α} (h : cs.toList = ds.toList) : cs = ds := Array.toList_inj.1 h
theorem cellsInt : Try.prog.cellsOf 3 = 1 := by kernel_rfl
theorem cellsInt64 : Try.prog.cellsOf 2 = 1 := by kernel_rfl
theorem cellsU32 : Try.prog.cellsOf 31 = 1 := by kernel_rfl
theorem field_of {H : Type} {enc : TypeId × Value → H} {P : Program} {W : World} {base : Nat} {spare : Nat → Bool} {held : Bool} {m : Nat} {cs : List Value} {xs : List (DataW H × List MemPlace)} {fs : Array Field}
    (hf : ∀ (i : Nat) (f : Field), fs[i]? = some f → DataW.trod enc P W base spare held m f.type ((cs.drop f.offset).take (P.cellsOf f.type)) = xs[i]?) (i : Nat) (t : TypeId) (o n : Nat)
    (h : (fs[i]?.map fun f => (f.type, f.offset)) = some (t, o)) (hc : P.cellsOf t = n) (hi : i < xs.length) : DataW.trod enc P W base spare held m t ((cs.drop o).take n) = some xs[i] := by
  cases hx : fs[i]? with
  | none => rw [hx] at h; cases h
  | some f =>
    rw [hx] at h
    injection h with h
    injection h with h1 h2
    subst h1 h2 hc
    rw [hf i f hx, List.getElem?_eq_getElem hi]
end Go.Proofs.Ytcghgahohmabnaa
namespace Go.Proofs.Ytcghgahohmabnaa
open Go.ChangeShapes Go.WideShapes Go.ChangeAt Go.RowKit
theorem viaL (P : Program) {l : List Char} (h : P.initOrder = String.ofList l) : P.initOrder.toList = l := by rw [h, String.toList_ofList]
theorem head_cut {P : Program} (h : ((behindMainWord (wordsSigns P.initOrder.toList)).head? == some "cut".toList) = true) : ∃ rest, behindMainWord (wordsSigns P.initOrder.toList) = "cut".toList :: rest := by
  cases hw : behindMainWord (wordsSigns P.initOrder.toList) with
  | nil => rw [hw] at h; simp at h
  | cons c rest =>
    rw [hw] at h
    have e : c = "cut".toList := by simpa using h
    exact ⟨rest, by rw [e]⟩
theorem strip_cut (rest : List (List Char)) : stripLifts liftWords ("cut".toList :: rest) = ([], "cut".toList :: rest) := by kernel_rfl
theorem make_cut {P : Program} {rest : List (List Char)} (h : behindMainWord (wordsSigns P.initOrder.toList) = "cut".toList :: rest) : P.make = some .cut := by
  unfold Program.make
  rw [h]
  rfl
theorem lifts_cut {P : Program} {rest : List (List Char)} (h : behindMainWord (wordsSigns P.initOrder.toList) = "cut".toList :: rest) : P.liftsFinal = false := by
  unfold Program.liftsFinal Program.headLifts
  rw [h, strip_cut]
  rfl
theorem enter_cut {P : Program} {rest : List (List Char)} (h : behindMainWord (wordsSigns P.initOrder.toList) = "cut".toList :: rest) (h1 : P.laysLater = false) (h2 : P.bearsReflect = false) (h3 : P.doorFits [] = true) : P.mayEnter = true := by
  unfold Program.mayEnter
  rw [h]
  show (_ || _ || _) = true
  rw [strip_cut, h1, h2, h3]
  simp
set_option maxRecDepth 100000 in
theorem isCut : ((behindMainWord (wordsSigns Try.prog.initOrder.toList)).head? == some "cut".toList) = true := by
  rw [show Try.prog.initOrder.toList = _ from viaL Try.prog rfl]
  kernel_rfl
theorem mayEnter_ : Try.prog.mayEnter = true := by
  obtain ⟨rest, h⟩ := head_cut isCut
  exact enter_cut h (by kernel_rfl) (by kernel_rfl) (by kernel_rfl)
theorem liftsFinal_ : Try.prog.liftsFinal = false := by
  obtain ⟨rest, h⟩ := head_cut isCut
  exact lifts_cut h
theorem make_ : Try.prog.make = some .cut := by
  obtain ⟨rest, h⟩ := head_cut isCut
  exact make_cut h
end Go.Proofs.Ytcghgahohmabnaa
