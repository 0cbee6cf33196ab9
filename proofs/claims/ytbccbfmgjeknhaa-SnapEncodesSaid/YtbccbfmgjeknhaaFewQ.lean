/- Walks and plain lemmas that several statements share. -/
import Derived.Test.YtbccbfmgjeknhaaPk
import Derived.Test.YtbccbfmgjeknhaaWri
import Derived.Test.YtbccbfmgjeknhaaTool
import Derived.Test.YtbccbfmgjeknhaaR05
import Derived.Test.YtbccbfmgjeknhaaFrm
import Derived.Lib.Mul64
import Derived.Test.YtbccbfmgjeknhaaRdX
import Derived.Test.YtbccbfmgjeknhaaNod
import Derived.Maps.AppendAt
import Derived.OwnWalk
import Derived.Test.YtbccbfmgjeknhaaRws
namespace Go.Proofs.Ytbccbfmgjeknhaa
open Go.RowKit
/-- a packet with nothing but its head -/
def base (p : Pkt) : Pkt := { kind := p.kind, t := p.t, frm := p.frm, seq := p.seq, hops := p.hops, no := 0, to := 0, index := 0, total := 0, stamp := 0, value := 0 }
end Go.Proofs.Ytbccbfmgjeknhaa
namespace Go.Proofs.Ytbccbfmgjeknhaa
open Go.RowKit
end Go.Proofs.Ytbccbfmgjeknhaa
namespace Go.Proofs.Ytbccbfmgjeknhaa
open Go.RowKit
end Go.Proofs.Ytbccbfmgjeknhaa
namespace Go.Proofs.Ytbccbfmgjeknhaa
open Go.RowKit
end Go.Proofs.Ytbccbfmgjeknhaa
namespace Go.Proofs.Ytbccbfmgjeknhaa
open Go.RowKit
end Go.Proofs.Ytbccbfmgjeknhaa
namespace Go.Proofs.Ytbccbfmgjeknhaa
open Go.RowKit
end Go.Proofs.Ytbccbfmgjeknhaa

namespace Go.Proofs.Ytbccbfmgjeknhaa
open Go.RowKit
end Go.Proofs.Ytbccbfmgjeknhaa
namespace Go.Proofs.Ytbccbfmgjeknhaa
open Go.RowKit
end Go.Proofs.Ytbccbfmgjeknhaa

namespace Go.Proofs.Ytbccbfmgjeknhaa
open Go.RowKit
theorem Bytes.none_ {w : World} {l : List UInt8} (h : Bytes w none l) : l = [] := by
  rcases List.eq_nil_or_concat l with e | ⟨_, _, e⟩
  · exact e
  · obtain ⟨_, _, h, _⟩ := h (by rw [e]; simp)
    cases h
set_option maxRecDepth 100000 in
set_option maxHeartbeats 1000000 in
theorem clone_any (A : Option Addr) (l : List UInt8) (c : Nat) (w : World) (hl : Bytes w A l) (hn : l.length ≤ 1000000000000) :
    Calls Try.prog 36 #[.slice A l.length c] w fun r w' => ∃ A' c', r = .returned (.slice A' l.length c') ∧ Own w' w.heap.size A' c' l ∧ Grow w w' := by
  cases A with
  | none =>
    obtain rfl := hl.none_
    have hq : ∀ w, (binOp .eql 22 (.slice none ([] : List UInt8).length c) (.slice none 0 0)).run Try.prog w = .ok (.bool true) w := fun w => Lib.run_eql_slice_nil w 22 5 none _ c 0 0 Try.underlying22
    simp only [List.length_nil] at hq
    go_enter Try.func36, Try.ntmps36
    go_wp2
    go_ret
    exact ⟨none, 0, rfl, Own.nil_ _ _, Grow.refl _⟩
  | some a =>
    have hq : ∀ w, (binOp .eql 22 (.slice (some a) l.length c) (.slice none 0 0)).run Try.prog w = .ok (.bool false) w := fun w => Lib.run_eql_slice_nil w 22 5 (some a) _ c 0 0 Try.underlying22
    go_enter Try.func36, Try.ntmps36
    go_wp2_with (at_builtin; refine wpList_append_bytes byteT rfl (.tmp 5) (.tmp 6) rfl (Own.made w (base := w.heap.size) #[] 0 (Nat.le_refl _) (by decide) rfl) (hl.alloc _) rfl rfl ?_ ?_ ?_)
    · simp; omega
    · simp
    intro A' c' b' w2 HL hown hg2 _
    have e : b' = l := HL.out.trans (by simp)
    subst e
    go_wp2
    go_ret
    exact ⟨A', c', rfl, hown, (((Below.refl _ _).alloc (Nat.le_refl _) _).grown hg2 (by simp) (by simp [blk]))⟩
end Go.Proofs.Ytbccbfmgjeknhaa
namespace Go.Proofs.Ytbccbfmgjeknhaa
open Go.RowKit
end Go.Proofs.Ytbccbfmgjeknhaa
namespace Go.Proofs.Ytbccbfmgjeknhaa
open Go.RowKit
end Go.Proofs.Ytbccbfmgjeknhaa
namespace Go.Proofs.Ytbccbfmgjeknhaa
open Go.RowKit
end Go.Proofs.Ytbccbfmgjeknhaa
namespace Go.Proofs.Ytbccbfmgjeknhaa
open Go.RowKit
/-- an entry -/
abbrev ev (a t f q : Int) (A : Option Addr) (n c : Nat) : Value := .agg #[.int .i64 a, .int .i64 t, .int .i64 f, .int .u32 q, .slice A n c]
end Go.Proofs.Ytbccbfmgjeknhaa
namespace Go.Proofs.Ytbccbfmgjeknhaa
open Go.RowKit
end Go.Proofs.Ytbccbfmgjeknhaa

namespace Go.Proofs.Ytbccbfmgjeknhaa
open Go.RowKit
end Go.Proofs.Ytbccbfmgjeknhaa
namespace Go.Proofs.Ytbccbfmgjeknhaa
open Go.RowKit
end Go.Proofs.Ytbccbfmgjeknhaa
namespace Go.Proofs.Ytbccbfmgjeknhaa
open Go.RowKit
end Go.Proofs.Ytbccbfmgjeknhaa

namespace Go.Proofs.Ytbccbfmgjeknhaa
open Go.RowKit
end Go.Proofs.Ytbccbfmgjeknhaa
namespace Go.Proofs.Ytbccbfmgjeknhaa
open Go.RowKit
end Go.Proofs.Ytbccbfmgjeknhaa
namespace Go.Proofs.Ytbccbfmgjeknhaa
open Go.RowKit
end Go.Proofs.Ytbccbfmgjeknhaa

namespace Go.Proofs.Ytbccbfmgjeknhaa
open Go.RowKit
theorem wput_ok (most : Int) (b l : List UInt8) (h : (b.length : Int) + l.length ≤ most) : Buf.wput most (0, b) l = (0, b ++ l) := by
  unfold Buf.wput
  rw [if_neg (by simp), if_neg (by dsimp only; omega)]
theorem wfixed_ok (most : Int) (b : List UInt8) (x : Nat) (n : Nat) (h1 : 1 ≤ n) (h8 : n ≤ 8) (h : (b.length : Int) + n ≤ most) : Buf.wfixed most (0, b) x n = (0, b ++ Buf.fixed x n) := by
  unfold Buf.wfixed
  rw [if_neg (by omega), Int.toNat_natCast]
  exact wput_ok most b _ (by rw [Buf.fixed_length]; exact h)
theorem oper_append_bytes {P : Program} (bt : ByteT P) {o : Oper} {a : Act} {w : World} {K : Act → World → Prop} {Q : Exit → Act → World → Prop} (s x : Operand)
    (ho : o.op = .call { callee := .builtin .append, args := #[s, x], argTypes := #[22, 22] }) {base : Nat} {A : Option Addr} {c : Nat} {l : List UInt8} (hown : Own w base A c l)
    {A2 : Option Addr} {c2 : Nat} {l2 : List UInt8} (hb : Bytes w A2 l2) (hs : a.eval s = .slice A l.length c) (hx : a.eval x = .slice A2 l2.length c2) (hsum : l.length + l2.length ≤ 140737488355328) (hbase : base ≤ w.heap.size)
    (h : ∀ A' c' l' w', Hid (l' = l ++ l2) → Own w' base A' c' l' → w.grownBy w' (blk A) → (blk A' = blk A ∨ blk A' = some w.heap.size) → K (a.put o.dst (.slice A' l'.length c')) w') : Oper.wp P o a w K Q := by
  obtain ⟨A', c', w', hr, h1, h2, h3⟩ := run_append_bytes bt w (ty := o.type) hown (c2 := c2) hb hsum hbase
  unfold Oper.wp execOp
  simp only [ho, resolve, invoke, builtin, Sem.run_bind, Sem.run_pure, Result.andThen_ok, List.map_toArray, List.map_cons, List.map_nil, hs, hx, hr]
  exact h A' c' _ w' rfl h1 h2 h3
end Go.Proofs.Ytbccbfmgjeknhaa
namespace Go.Proofs.Ytbccbfmgjeknhaa
open Go.RowKit
end Go.Proofs.Ytbccbfmgjeknhaa

namespace Go.Proofs.Ytbccbfmgjeknhaa
open Go.RowKit
end Go.Proofs.Ytbccbfmgjeknhaa
namespace Go.Proofs.Ytbccbfmgjeknhaa
open Go.RowKit
end Go.Proofs.Ytbccbfmgjeknhaa
namespace Go.Proofs.Ytbccbfmgjeknhaa
open Go.RowKit
/-- a packet with its body -/
structure PB where
  p : Pkt
  A : Option Addr
  l : List UInt8
  c : Nat
/-- the address A leads to these packets -/
def Pks (w : World) (A : Option Addr) (L : List PB) : Prop :=
  L ≠ [] → ∃ b o, A = some ⟨b, o, none⟩ ∧ ∀ k (h : k < L.length), (∀ i, i < 12 → w.cell? ⟨b, o + k * 12 + i, none⟩ = (pcells L[k].p L[k].A L[k].l.length L[k].c)[i]?) ∧ Bytes w L[k].A L[k].l
theorem Pks.grow {w w' : World} {A : Option Addr} {L : List PB} (h : Pks w A L) (hg : Grow w w') : Pks w' A L := by
  intro hL
  obtain ⟨b, o, rfl, hc⟩ := h hL
  refine ⟨b, o, rfl, fun k hk => ?_⟩
  obtain ⟨h1, h2⟩ := hc k hk
  have hb : b < w.heap.size := World.block_lt_of_cell? w _ (h1 0 (by omega))
  refine ⟨fun i hi => ?_, h2.grow hg⟩
  rw [← h1 i hi]
  exact Below.cell (p := ⟨b, o + k * 12 + i, none⟩) hg hb
end Go.Proofs.Ytbccbfmgjeknhaa
namespace Go.Proofs.Ytbccbfmgjeknhaa
open Go.RowKit
theorem Pks.one {w : World} {g : Nat} {p : Pkt} (h : Box w g (pcells p none 0 0)) : Pks w (some ⟨g, 0, none⟩) [⟨p, none, [], 0⟩] := by
  intro _
  refine ⟨g, 0, rfl, fun k hk => ?_⟩
  obtain rfl : k = 0 := by simpa using hk
  exact ⟨fun i _ => by simpa using h.cell i, Bytes.nil _ _⟩
end Go.Proofs.Ytbccbfmgjeknhaa

namespace Go.Proofs.Ytbccbfmgjeknhaa
open Go.RowKit
end Go.Proofs.Ytbccbfmgjeknhaa

namespace Go.Proofs.Ytbccbfmgjeknhaa
open Go.RowKit
end Go.Proofs.Ytbccbfmgjeknhaa

namespace Go.Proofs.Ytbccbfmgjeknhaa
open Go.RowKit
end Go.Proofs.Ytbccbfmgjeknhaa

namespace Go.Proofs.Ytbccbfmgjeknhaa
open Go.RowKit
section
variable {b : List UInt8} {p : Pkt} {x : Nat}
end
end Go.Proofs.Ytbccbfmgjeknhaa

namespace Go.Proofs.Ytbccbfmgjeknhaa
open Go.RowKit
end Go.Proofs.Ytbccbfmgjeknhaa

namespace Go.Proofs.Ytbccbfmgjeknhaa
open Go.RowKit
end Go.Proofs.Ytbccbfmgjeknhaa

namespace Go.Proofs.Ytbccbfmgjeknhaa
open Go.RowKit
end Go.Proofs.Ytbccbfmgjeknhaa

namespace Go.Proofs.Ytbccbfmgjeknhaa
open Go.RowKit
end Go.Proofs.Ytbccbfmgjeknhaa

namespace Go.Proofs.Ytbccbfmgjeknhaa
open Go.ChangeShapes Go.WideShapes Go.ChangeAt Go.RowKit
abbrev pbc (x : PB) : Array Value := pcells x.p x.A x.l.length x.c
abbrev pkcells (L : List PB) : List Value := L.flatMap fun x => (pbc x).toList
/-- a list of packets of its own -/
abbrev OwnP (w : World) (base : Nat) (v : Value) (L : List PB) : Prop := w.ownsRow base 58 12 v L.length (pkcells L)
theorem OwnP.blk {w : World} {base g n c : Nat} {L : List PB} (h : OwnP w base (.slice (some ⟨g, 0, none⟩) n c) L) : base ≤ g ∧ g < w.heap.size := World.ownsRow.lt h g rfl
theorem OwnP.grow {w w' : World} {base : Nat} {v : Value} {L : List PB} (h : OwnP w base v L) (hg : Grow w w') : OwnP w' base v L := by
  obtain ⟨h0, h1 | ⟨g, cap, cur, rfl, hbb, hgg, h1, h2, h3, h4⟩⟩ := h
  · exact ⟨h0, .inl h1⟩
  · exact ⟨h0, .inr ⟨g, cap, cur, rfl, hbb, (hg.block g (Array.getElem?_eq_some_iff.1 hgg).1).trans hgg, h1, h2, h3, h4⟩⟩
theorem OwnP.len {w : World} {base g n c : Nat} {L : List PB} (h : OwnP w base (.slice (some ⟨g, 0, none⟩) n c) L) : n = L.length := by
  rcases h.2 with ⟨h, _⟩ | ⟨g', cap', cur, h, _⟩
  · simp at h
  · simp only [Value.slice.injEq] at h
    exact h.2.1
end Go.Proofs.Ytbccbfmgjeknhaa
