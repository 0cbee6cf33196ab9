/- What an argument that came in is, in my own words. A packet, a key, a log entry that came in, in my own words. Three closed facts on the head of this translation whose words are many: the kernel is shown the signs as a list. -/
import Derived.Test.YtbccbfmgjeknhaaRows
import Derived.Test.YtbccbfmgjeknhaaTool
import Derived.Test.YtbccbfmgjeknhaaPk
import Derived.ProofKit
import Derived.OpenShut
import Derived.ShutString
import Derived.ChangeOld
import Derived.SizedLaws
namespace Go.Proofs.Ytbccbfmgjeknhaa
open Go.ChangeShapes Go.WideShapes Go.ChangeAt Go.RowKit
theorem own : ownKnob Try.prog.godebug = none := by kernel_rfl
theorem laidOut : laidOutB Try.prog = true := by kernel_rfl
/-- a slice of bytes that came in reads as bytes -/
theorem open_bytes {H : Type} {enc : TypeId × Value → H} {W : World} {base : Nat} {spare : Nat → Bool} {held : Bool} {a : Option Addr} {len cap : Nat} {d : DataW H} {p : List MemPlace}
    (h : DataW.Trod enc Try.prog W base spare held 22 (.slice a len cap) d p) : ∃ l : List UInt8, len = l.length ∧ l.length ≤ cap ∧ cap ≤ 9223372036854775807 ∧ Bytes W a l := by
  obtain ⟨fuel, hf⟩ := h
  rcases open_ints Try.underlying22 Try.underlying5 (by kernel_rfl) hf with ⟨hcs, _⟩ | ⟨x, l, c, zs, hcs, _, hl, hm, hz, _, hcell, hwz⟩
  · simp [Value.cells] at hcs
    obtain ⟨rfl, rfl, rfl⟩ := hcs
    exact ⟨[], rfl, Nat.le_refl _, by omega, Bytes.nil _ _⟩
  · simp [Value.cells] at hcs
    obtain ⟨rfl, rfl, rfl⟩ := hcs
    refine ⟨(zs.take len).map (fun z => UInt8.ofNat z.toNat), ?_, ?_, by unfold maxLen at hm; exact hm, ?_⟩
    · rw [List.length_map, List.length_take, hz]; split <;> omega
    · rw [List.length_map, List.length_take]; omega
    · intro hne
      have h0 : 0 < zs.length := by
        rcases Nat.eq_zero_or_pos zs.length with h | h
        · rw [List.length_eq_zero_iff] at h; subst h; simp at hne
        · exact h
      have hc0 := hcell 0 h0
      obtain ⟨b, o, spot⟩ := x
      have hspot : spot = none := by simpa [Addr.add] using World.cell?_spot hc0
      subst hspot
      refine ⟨b, o, rfl, fun j hj => ?_⟩
      rw [List.length_map, List.length_take] at hj
      have hc := hcell j (by omega)
      have e : (⟨b, o, none⟩ : Addr).add j = ⟨b, o + j, none⟩ := by unfold Addr.add; split <;> simp_all
      rw [e] at hc
      rw [hc]
      have hw := bounds_u8 (hwz (zs.getD j 0) (by rw [List.getD_eq_getElem?_getD, List.getElem?_eq_getElem (by omega)]; simp))
      have := byte_val (zs.getD j 0) hw.1 (by omega)
      rw [← this]
      simp [u8, List.getD_eq_getElem?_getD, List.getElem?_eq_getElem (show j < zs.length by omega)]
end Go.Proofs.Ytbccbfmgjeknhaa
namespace Go.Proofs.Ytbccbfmgjeknhaa
open Go.ChangeShapes Go.WideShapes Go.ChangeAt Go.RowKit
/-- the bounds of what came in -/
structure Pkt.Ok (p : Pkt) : Prop where
  kind : (Lit.int .i64 p.kind).wf = true
  t : (Lit.int .i64 p.t).wf = true
  frm : (Lit.int .i64 p.frm).wf = true
  seq : (Lit.int .u32 p.seq).wf = true
  hops : (Lit.int .i64 p.hops).wf = true
  no : (Lit.int .i64 p.no).wf = true
  to : (Lit.int .i64 p.to).wf = true
  index : (Lit.int .i64 p.index).wf = true
  total : (Lit.int .i64 p.total).wf = true
  stamp : (Lit.int .i64 p.stamp).wf = true
  value : (Lit.int .i64 p.value).wf = true
theorem list3 {α : Type} (cs : List α) (h : cs.length = 3) : ∃ c0 c1 c2, cs = [c0, c1, c2] := by
  match cs, h with
  | [c0, c1, c2], _ => exact ⟨c0, c1, c2, rfl⟩
theorem list12 {α : Type} (cs : List α) (h : cs.length = 12) : ∃ c0 c1 c2 c3 c4 c5 c6 c7 c8 c9 c10 c11, cs = [c0, c1, c2, c3, c4, c5, c6, c7, c8, c9, c10, c11] := by
  match cs, h with
  | [c0, c1, c2, c3, c4, c5, c6, c7, c8, c9, c10, c11], _ => exact ⟨c0, c1, c2, c3, c4, c5, c6, c7, c8, c9, c10, c11, rfl⟩
theorem of_list {α : Type} {cs ds : Array α} (h : cs.toList = ds.toList) : cs = ds := Array.toList_inj.1 h
theorem cellsInt : Try.prog.cellsOf 3 = 1 := by kernel_rfl
theorem cellsInt64 : Try.prog.cellsOf 2 = 1 := by kernel_rfl
theorem cellsU32 : Try.prog.cellsOf 31 = 1 := by kernel_rfl
theorem cellsBytes : Try.prog.cellsOf 22 = 1 := by kernel_rfl
theorem cellsKey : Try.prog.cellsOf 56 = 3 := by kernel_rfl
theorem cellsPacket : Try.prog.cellsOf 58 = 12 := by kernel_rfl
theorem field_of {H : Type} {enc : TypeId × Value → H} {P : Program} {W : World} {base : Nat} {spare : Nat → Bool} {held : Bool} {m : Nat} {cs : List Value} {xs : List (DataW H × List MemPlace)} {fs : Array Field}
    (hf : ∀ (i : Nat) (f : Field), fs[i]? = some f → DataW.trod enc P W base spare held m f.type ((cs.drop f.offset).take (P.cellsOf f.type)) = xs[i]?) (i : Nat) (t : TypeId) (o n : Nat)
    (h : (fs[i]?.map fun f => (f.type, f.offset)) = some (t, o)) (hc : P.cellsOf t = n) (hi : i < xs.length) : DataW.trod enc P W base spare held m t ((cs.drop o).take n) = some xs[i] := by
  cases hx : fs[i]? with
  | none => rw [hx] at h; cases h
  | some f =>
    rw [hx] at h
    injection h with h
    injection h with h1 h2
    subst h1 h2 hc
    rw [hf i f hx, List.getElem?_eq_getElem hi]
set_option maxRecDepth 100000 in
theorem trod_key {H : Type} {enc : TypeId × Value → H} {W : World} {base : Nat} {spare : Nat → Bool} {held : Bool} {fuel : Nat} {cs : List Value} {x : DataW H × List MemPlace}
    (h : DataW.trod enc Try.prog W base spare held fuel 56 cs = some x) : ∃ t f q, cs = [.int .i64 t, .int .i64 f, .int .u32 q] ∧ (Lit.int .i64 t).wf = true ∧ (Lit.int .i64 f).wf = true ∧ (Lit.int .u32 q).wf = true := by
  obtain ⟨xs, m, _, _, hlen, hl, hf⟩ := DataW.trod_struct Try.underlying56 h
  rw [cellsKey] at hlen
  obtain ⟨c0, c1, c2, rfl⟩ := list3 cs hlen
  simp at hl
  have h0 := field_of hf 0 2 0 1 (by rfl) cellsInt64 (by omega)
  have h1 := field_of hf 1 3 1 1 (by rfl) cellsInt (by omega)
  have h2 := field_of hf 2 31 2 1 (by rfl) cellsU32 (by omega)
  obtain ⟨t, e0, _, w0⟩ := DataW.trod_int Try.underlying2 h0
  obtain ⟨f, e1, _, w1⟩ := DataW.trod_int Try.underlying3 h1
  obtain ⟨q, e2, _, w2⟩ := DataW.trod_int Try.underlying31 h2
  simp at e0 e1 e2
  exact ⟨t, f, q, by rw [e0, e1, e2], w0, w1, w2⟩
set_option maxRecDepth 100000 in
theorem open_key {H : Type} {enc : TypeId × Value → H} {W : World} {base : Nat} {spare : Nat → Bool} {held : Bool} {r : Reach} {b0 : Nat} {v : Value} {d : DataW H} {p : List MemPlace}
    (hval : Value.okWide Try.prog W r b0 56 v) (h : DataW.Trod enc Try.prog W base spare held 56 v d p) :
    ∃ t f q, v = kv t f q ∧ (Lit.int .i64 t).wf = true ∧ (Lit.int .i64 f).wf = true ∧ (Lit.int .u32 q).wf = true := by
  obtain ⟨cs, rfl, _⟩ := okWide_struct Try.underlying56 hval
  obtain ⟨fuel, hf⟩ := h
  obtain ⟨t, f, q, e, w0, w1, w2⟩ := trod_key hf
  refine ⟨t, f, q, ?_, w0, w1, w2⟩
  rw [of_list (cs := cs) (ds := #[.int .i64 t, .int .i64 f, .int .u32 q]) e]
set_option maxRecDepth 100000 in
theorem trod_packet {H : Type} {enc : TypeId × Value → H} {W : World} {base : Nat} {spare : Nat → Bool} {held : Bool} {fuel : Nat} {cs : List Value} {x : DataW H × List MemPlace}
    (h : DataW.trod enc Try.prog W base spare held fuel 58 cs = some x) : ∃ (p : Pkt) (A : Option Addr) (l : List UInt8) (c : Nat), cs = (pcells p A l.length c).toList ∧ p.Ok ∧ l.length ≤ c ∧ c ≤ 9223372036854775807 ∧ Bytes W A l := by
  obtain ⟨xs, m, _, _, hlen, hl, hf⟩ := DataW.trod_struct Try.underlying58 h
  rw [cellsPacket] at hlen
  obtain ⟨c0, c1, c2, c3, c4, c5, c6, c7, c8, c9, c10, c11, rfl⟩ := list12 cs hlen
  simp at hl
  have h0 := field_of hf 0 3 0 1 (by rfl) cellsInt (by omega)
  have h1 := field_of hf 1 56 1 3 (by rfl) cellsKey (by omega)
  have h2 := field_of hf 2 3 4 1 (by rfl) cellsInt (by omega)
  have h3 := field_of hf 3 2 5 1 (by rfl) cellsInt64 (by omega)
  have h4 := field_of hf 4 3 6 1 (by rfl) cellsInt (by omega)
  have h5 := field_of hf 5 3 7 1 (by rfl) cellsInt (by omega)
  have h6 := field_of hf 6 3 8 1 (by rfl) cellsInt (by omega)
  have h7 := field_of hf 7 2 9 1 (by rfl) cellsInt64 (by omega)
  have h8 := field_of hf 8 2 10 1 (by rfl) cellsInt64 (by omega)
  have h9 := field_of hf 9 22 11 1 (by rfl) cellsBytes (by omega)
  obtain ⟨k, e0, _, w0⟩ := DataW.trod_int Try.underlying3 h0
  obtain ⟨t, f, q, e1, w1, w2, w3⟩ := trod_key h1
  obtain ⟨hop, e2, _, w4⟩ := DataW.trod_int Try.underlying3 h2
  obtain ⟨no, e3, _, w5⟩ := DataW.trod_int Try.underlying2 h3
  obtain ⟨to, e4, _, w6⟩ := DataW.trod_int Try.underlying3 h4
  obtain ⟨ix, e5, _, w7⟩ := DataW.trod_int Try.underlying3 h5
  obtain ⟨tot, e6, _, w8⟩ := DataW.trod_int Try.underlying3 h6
  obtain ⟨st, e7, _, w9⟩ := DataW.trod_int Try.underlying2 h7
  obtain ⟨va, e8, _, w10⟩ := DataW.trod_int Try.underlying2 h8
  have hb : ∃ A n c, c11 = .slice A n c := by
    rcases DataW.trod_slice Try.underlying22 h9 with ⟨h, _⟩ | ⟨a, len, cap, _, _, _, _, h, _⟩
    · simp at h; exact ⟨_, _, _, h⟩
    · simp at h; exact ⟨_, _, _, h⟩
  obtain ⟨A, n, c, rfl⟩ := hb
  simp at e0 e1 e2 e3 e4 e5 e6 e7 e8
  obtain ⟨l, rfl, hl1, hl2, hby⟩ := open_bytes (a := A) (len := n) (cap := c) (d := (xs[9]).1) (p := (xs[9]).2) ⟨m, h9⟩
  obtain ⟨rfl, rfl, rfl⟩ := e1
  subst e0 e2 e3 e4 e5 e6 e7 e8
  exact ⟨⟨k, t, f, q, hop, no, to, ix, tot, st, va⟩, A, l, c, rfl, ⟨w0, w1, w2, w3, w4, w5, w6, w7, w8, w9, w10⟩, hl1, hl2, hby⟩
set_option maxRecDepth 100000 in
theorem open_packet {H : Type} {enc : TypeId × Value → H} {W : World} {base : Nat} {spare : Nat → Bool} {held : Bool} {r : Reach} {b0 : Nat} {v : Value} {d : DataW H} {ps : List MemPlace}
    (hval : Value.okWide Try.prog W r b0 58 v) (h : DataW.Trod enc Try.prog W base spare held 58 v d ps) :
    ∃ (p : Pkt) (A : Option Addr) (l : List UInt8) (c : Nat), v = pv p A l.length c ∧ p.Ok ∧ l.length ≤ c ∧ c ≤ 9223372036854775807 ∧ Bytes W A l := by
  obtain ⟨cs, rfl, _⟩ := okWide_struct Try.underlying58 hval
  obtain ⟨fuel, hf⟩ := h
  obtain ⟨p, A, l, c, e, hp, h1, h2, h3⟩ := trod_packet hf
  refine ⟨p, A, l, c, ?_, hp, h1, h2, h3⟩
  rw [of_list (cs := cs) (ds := pcells p A l.length c) e]
end Go.Proofs.Ytbccbfmgjeknhaa
namespace Go.Proofs.Ytbccbfmgjeknhaa
open Go.ChangeShapes Go.WideShapes Go.ChangeAt Go.RowKit
theorem viaL (P : Program) {l : List Char} (h : P.initOrder = String.ofList l) : P.initOrder.toList = l := by rw [h, String.toList_ofList]
theorem head_cut {P : Program} (h : ((behindMainWord (wordsSigns P.initOrder.toList)).head? == some "cut".toList) = true) : ∃ rest, behindMainWord (wordsSigns P.initOrder.toList) = "cut".toList :: rest := by
  cases hw : behindMainWord (wordsSigns P.initOrder.toList) with
  | nil => rw [hw] at h; simp at h
  | cons c rest =>
    rw [hw] at h
    have e : c = "cut".toList := by simpa using h
    exact ⟨rest, by rw [e]⟩
theorem strip_cut (rest : List (List Char)) : stripLifts liftWords ("cut".toList :: rest) = ([], "cut".toList :: rest) := by kernel_rfl
theorem make_cut {P : Program} {rest : List (List Char)} (h : behindMainWord (wordsSigns P.initOrder.toList) = "cut".toList :: rest) : P.make = some .cut := by
  unfold Program.make
  rw [h]
  rfl
theorem lifts_cut {P : Program} {rest : List (List Char)} (h : behindMainWord (wordsSigns P.initOrder.toList) = "cut".toList :: rest) : P.liftsFinal = false := by
  unfold Program.liftsFinal Program.headLifts
  rw [h, strip_cut]
  rfl
theorem enter_cut {P : Program} {rest : List (List Char)} (h : behindMainWord (wordsSigns P.initOrder.toList) = "cut".toList :: rest) (h1 : P.laysLater = false) (h2 : P.bearsReflect = false) (h3 : P.doorFits [] = true) : P.mayEnter = true := by
  unfold Program.mayEnter
  rw [h]
  show (_ || _ || _) = true
  rw [strip_cut, h1, h2, h3]
  simp
set_option maxRecDepth 100000 in
theorem isCut : ((behindMainWord (wordsSigns Try.prog.initOrder.toList)).head? == some "cut".toList) = true := by
  rw [show Try.prog.initOrder.toList = _ from viaL Try.prog rfl]
  kernel_rfl
theorem mayEnter_ : Try.prog.mayEnter = true := by
  obtain ⟨rest, h⟩ := head_cut isCut
  exact enter_cut h (by kernel_rfl) (by kernel_rfl) (by kernel_rfl)
theorem liftsFinal_ : Try.prog.liftsFinal = false := by
  obtain ⟨rest, h⟩ := head_cut isCut
  exact lifts_cut h
theorem make_ : Try.prog.make = some .cut := by
  obtain ⟨rest, h⟩ := head_cut isCut
  exact make_cut h
end Go.Proofs.Ytbccbfmgjeknhaa
