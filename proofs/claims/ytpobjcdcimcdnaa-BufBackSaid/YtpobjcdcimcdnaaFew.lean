/- Walks and plain lemmas that several statements share. -/
import Derived.Test.YtpobjcdcimcdnaaPk
import Derived.Test.YtpobjcdcimcdnaaHdPt
import Derived.Test.YtpobjcdcimcdnaaTool
import Derived.Test.YtpobjcdcimcdnaaR05
import Derived.Test.YtpobjcdcimcdnaaFrm
import Derived.Lib.Mul64
namespace Go.Proofs.Ytpobjcdcimcdnaa
open Go.RowKit
/-- a number of a round -/
def numB (k : Int) : Bool := decide (0 ≤ k) && decide (k ≤ 1152921504606846976)
/-- a packet with nothing but its head -/
def base (p : Pkt) : Pkt := { kind := p.kind, t := p.t, frm := p.frm, seq := p.seq, hops := p.hops, no := 0, to := 0, index := 0, total := 0, stamp := 0, value := 0 }
end Go.Proofs.Ytpobjcdcimcdnaa
namespace Go.Proofs.Ytpobjcdcimcdnaa
open Go.RowKit
end Go.Proofs.Ytpobjcdcimcdnaa
namespace Go.Proofs.Ytpobjcdcimcdnaa
open Go.RowKit
abbrev noP : Pkt := { kind := 0, t := 0, frm := 0, seq := 0, hops := 0, no := 0, to := 0, index := 0, total := 0, stamp := 0, value := 0 }
end Go.Proofs.Ytpobjcdcimcdnaa
namespace Go.Proofs.Ytpobjcdcimcdnaa
open Go.RowKit
end Go.Proofs.Ytpobjcdcimcdnaa
namespace Go.Proofs.Ytpobjcdcimcdnaa
open Go.RowKit
end Go.Proofs.Ytpobjcdcimcdnaa
namespace Go.Proofs.Ytpobjcdcimcdnaa
open Go.RowKit
theorem sameB_refl (p : Pkt) : sameB p p = true := by simp [sameB, restB, keyEq]
end Go.Proofs.Ytpobjcdcimcdnaa

namespace Go.Proofs.Ytpobjcdcimcdnaa
open Go.RowKit
theorem Wrote.fresh {w w1 w2 : World} {B p : Nat} {A : Option Addr} {s : Int × List UInt8} {most : Int} (h : Wrote w1 w2 B p A s most) (hg : Grow w w1) (hp : w.heap.size ≤ p) (hA : ∀ q, blk A = some q → w.heap.size ≤ q) : Grow w w2 := by
  obtain ⟨A', c', h1, h2, h3⟩ := h
  refine ((Kept.of_below hg []).trans (h2.mono hg.size fun k hk hm => ?_)).to_below
  rcases List.mem_cons.1 hm with e | e
  · omega
  · have := hA k (by simpa using e); omega
def exP : Pkt := { kind := 3, t := 300, frm := 2, seq := 7, hops := 1, no := 0, to := 0, index := 0, total := 0, stamp := 0, value := 0 }
set_option maxHeartbeats 400000 in
theorem example09_any (w : World) : Calls Try.prog 108 #[] w fun e w' => e = .returned (pv exP none 0 0) ∧ Grow w w' := by
  go_enter Try.func108, Try.ntmps108
  go_wp2
  refine bodyPost_ret (v := pv exP none 0 0) (by simp [results, Try.results108, go_sem, exP]) rfl ⟨rfl, ?_⟩
  show Below w.heap.size w _
  repeat (refine Below.setCell ?_ (by simp) _)
  exact (Grow.refl w).alloc _
theorem exS : headS 20 (0, []) exP = (0, [3, 1, 172, 2, 2, 7, 0, 0, 0]) := by decide +kernel
theorem exG : headB exP = true := by decide
set_option maxRecDepth 100000 in
set_option maxHeartbeats 1000000 in
theorem works09_any (w : World) : Calls Try.prog 46 #[] w fun e w' => e = .returned (.bool true) ∧ Grow w w' := by
  have HN := hide (new_any 20 w (by decide))
  rw [show max (20 : Int) 0 = 20 by decide] at HN
  have HG := hide (headgood_any exP none 0 0)
  rw [exG] at HG
  go_enter Try.func46, Try.ntmps46
  go_wp2_with fail
  refine HN.out.mono ?_
  rintro e w1 ⟨rfl, hw1, hg1⟩
  go_wp2_with fail
  refine (example09_any _).mono ?_
  rintro e w2 ⟨rfl, hg2⟩
  go_wp2_with fail
  have hB2 : w.heap.size ≤ w2.heap.size := Nat.le_trans hg1.size hg2.size
  refine (headput_any _ _ none 0 0 [] 20 exP none 0 0 _ (hw1.grow hg2) (by simp) hB2).mono ?_
  rw [exS]
  rintro e w3 ⟨rfl, hw3⟩
  have hg3 := hide (Wrote.fresh hw3 (Grow.trans hg1 hg2) (Nat.le_refl _) (by simp [blk]))
  obtain ⟨A3, c3, hr3, _, _⟩ := hw3
  clear hw1 hg1 hg2 HN
  go_wp2_with fail
  refine (done_ok _ _ A3 c3 _ 20 _ hr3 (by simp)).mono ?_
  rintro e w4 ⟨A4, c4, rfl, hown4, hg4⟩
  have hcv : (convert 25 9 (.slice A4 9 c4)).run Try.prog w4 = .ok (.string ⟨#[3, 1, 172, 2, 2, 7, 0, 0, 0]⟩) w4 := conv_any c4 hown4.bytes
  have hg4' := hide ((show Grow w w3 from hg3.out).trans hg4)
  clear hr3 hg4 hg3 hown4
  go_wp2_with fail
  refine (example09_any _).mono ?_
  rintro e w5 ⟨rfl, hg5⟩
  go_wp2_with fail
  refine (HG.out _).mono ?_
  rintro e w6 ⟨rfl, hg6⟩
  go_wp2
  go_ret
  exact ⟨rfl, Grow.step ((show Grow w w4 from hg4'.out).trans hg5) hg6⟩
end Go.Proofs.Ytpobjcdcimcdnaa
namespace Go.Proofs.Ytpobjcdcimcdnaa
open Go.RowKit
end Go.Proofs.Ytpobjcdcimcdnaa

namespace Go.Proofs.Ytpobjcdcimcdnaa
open Go.RowKit
theorem Bytes.none_ {w : World} {l : List UInt8} (h : Bytes w none l) : l = [] := by
  rcases List.eq_nil_or_concat l with e | ⟨_, _, e⟩
  · exact e
  · obtain ⟨_, _, h, _⟩ := h (by rw [e]; simp)
    cases h
set_option maxRecDepth 100000 in
set_option maxHeartbeats 1000000 in
theorem clone_any (A : Option Addr) (l : List UInt8) (c : Nat) (w : World) (hl : Bytes w A l) (hn : l.length ≤ 1000000000000) :
    Calls Try.prog 119 #[.slice A l.length c] w fun r w' => ∃ A' c', r = .returned (.slice A' l.length c') ∧ Own w' w.heap.size A' c' l ∧ Grow w w' := by
  cases A with
  | none =>
    obtain rfl := hl.none_
    have hq : ∀ w, (binOp .eql 25 (.slice none ([] : List UInt8).length c) (.slice none 0 0)).run Try.prog w = .ok (.bool true) w := fun w => Lib.run_eql_slice_nil w 25 5 none _ c 0 0 Try.underlying25
    simp only [List.length_nil] at hq
    go_enter Try.func119, Try.ntmps119
    go_wp2
    go_ret
    exact ⟨none, 0, rfl, Own.nil_ _ _, Grow.refl _⟩
  | some a =>
    have hq : ∀ w, (binOp .eql 25 (.slice (some a) l.length c) (.slice none 0 0)).run Try.prog w = .ok (.bool false) w := fun w => Lib.run_eql_slice_nil w 25 5 (some a) _ c 0 0 Try.underlying25
    go_enter Try.func119, Try.ntmps119
    go_wp2_with (at_builtin; refine wpList_append_bytes byteT rfl (.tmp 5) (.tmp 6) rfl (Own.made w (base := w.heap.size) #[] 0 (Nat.le_refl _) (by decide) rfl) (hl.alloc _) rfl rfl ?_ ?_ ?_)
    · simp; omega
    · simp
    intro A' c' b' w2 HL hown hg2 _
    have e : b' = l := HL.out.trans (by simp)
    subst e
    go_wp2
    go_ret
    exact ⟨A', c', rfl, hown, (((Below.refl _ _).alloc (Nat.le_refl _) _).grown hg2 (by simp) (by simp [blk]))⟩
end Go.Proofs.Ytpobjcdcimcdnaa
namespace Go.Proofs.Ytpobjcdcimcdnaa
open Go.RowKit
end Go.Proofs.Ytpobjcdcimcdnaa
namespace Go.Proofs.Ytpobjcdcimcdnaa
open Go.RowKit
end Go.Proofs.Ytpobjcdcimcdnaa
namespace Go.Proofs.Ytpobjcdcimcdnaa
open Go.RowKit
/-- a result: a packet and what is wrong -/
def GotPk (w' : World) (r : Ending) (p : Pkt) (l : List UInt8) (e : Int) : Prop := ∃ A c, r = .returned (.tuple #[pv p A l.length c, .int .i64 e]) ∧ l.length ≤ c ∧ c ≤ 9223372036854775807 ∧ Bytes w' A l
/-- a result: a packet, what is left, what is wrong -/
def GotPk3 (B : Option Addr) (b : List UInt8) (r : Ending) (p : Pkt) (l t : List UInt8) (e : Int) : Prop := ∃ A c A2 c2, r = .returned (.tuple #[pv p A l.length c, .slice A2 t.length c2, .int .i64 e]) ∧ l.length ≤ c ∧ c ≤ 9223372036854775807 ∧ (∀ W, Bytes W B b → Bytes W A l) ∧ t.length ≤ c2 ∧ c2 ≤ 9223372036854775807 ∧ ∀ W, Bytes W B b → Bytes W A2 t
theorem rbytes_bad (most : Int) (s : List UInt8 × Int) (h : (rbytes most s).2.2 ≠ 0) : (rbytes most s).1 = [] := by
  obtain ⟨b, e⟩ := s
  unfold rbytes Buf.rget at *
  by_cases he : e = 0
  · subst he
    rw [if_pos rfl] at h ⊢
    dsimp only at h ⊢
    rw [Buf.getBytes_bad b most h]
  · rw [if_neg he]
end Go.Proofs.Ytpobjcdcimcdnaa
namespace Go.Proofs.Ytpobjcdcimcdnaa
open Go.RowKit
end Go.Proofs.Ytpobjcdcimcdnaa
namespace Go.Proofs.Ytpobjcdcimcdnaa
open Go.RowKit
theorem new_at (most : Int) (g : Nat) (w : World) (h : most ≤ 9223372036854775807) (h0 : 0 ≤ most) (hg : w.heap.size = g) :
    Calls Try.prog 22 #[.int .i64 most] w fun r w' => r = .returned (.pointer (some ⟨g, 0, none⟩)) ∧ Wr w' g g none 0 0 [] most ∧ Grow w w' := by
  subst hg
  have h1 := new_any most w h
  rw [show max most 0 = most by omega] at h1
  exact h1
end Go.Proofs.Ytpobjcdcimcdnaa

namespace Go.Proofs.Ytpobjcdcimcdnaa
open Go.RowKit
end Go.Proofs.Ytpobjcdcimcdnaa
namespace Go.Proofs.Ytpobjcdcimcdnaa
open Go.RowKit
end Go.Proofs.Ytpobjcdcimcdnaa
namespace Go.Proofs.Ytpobjcdcimcdnaa
open Go.RowKit
end Go.Proofs.Ytpobjcdcimcdnaa

namespace Go.Proofs.Ytpobjcdcimcdnaa
open Go.RowKit
theorem rnum_bad0 (s : List UInt8 × Int) (h : (rnum s).2.2 ≠ 0) : (rnum s).1 = 0 := by
  obtain ⟨b, e⟩ := s
  by_cases he : e = 0
  · subst he
    have h' : (Buf.getNum b).2.2 ≠ 0 := h
    show (Buf.getNum b).1 = 0
    rw [Buf.getNum_bad b h']
  · rw [show rnum (b, e) = (0, b, e) from rget_bad _ _ _ he]
end Go.Proofs.Ytpobjcdcimcdnaa
namespace Go.Proofs.Ytpobjcdcimcdnaa
open Go.RowKit
end Go.Proofs.Ytpobjcdcimcdnaa
namespace Go.Proofs.Ytpobjcdcimcdnaa
open Go.RowKit
end Go.Proofs.Ytpobjcdcimcdnaa

namespace Go.Proofs.Ytpobjcdcimcdnaa
open Go.RowKit
theorem wput_ok (most : Int) (b l : List UInt8) (h : (b.length : Int) + l.length ≤ most) : Buf.wput most (0, b) l = (0, b ++ l) := by
  unfold Buf.wput
  rw [if_neg (by simp), if_neg (by dsimp only; omega)]
theorem wfixed_ok (most : Int) (b : List UInt8) (x : Nat) (n : Nat) (h1 : 1 ≤ n) (h8 : n ≤ 8) (h : (b.length : Int) + n ≤ most) : Buf.wfixed most (0, b) x n = (0, b ++ Buf.fixed x n) := by
  unfold Buf.wfixed
  rw [if_neg (by omega), Int.toNat_natCast]
  exact wput_ok most b _ (by rw [Buf.fixed_length]; exact h)
theorem oper_append_bytes {P : Program} (bt : ByteT P) {o : Oper} {a : Act} {w : World} {K : Act → World → Prop} {Q : Exit → Act → World → Prop} (s x : Operand)
    (ho : o.op = .call { callee := .builtin .append, args := #[s, x], argTypes := #[25, 25] }) {base : Nat} {A : Option Addr} {c : Nat} {l : List UInt8} (hown : Own w base A c l)
    {A2 : Option Addr} {c2 : Nat} {l2 : List UInt8} (hb : Bytes w A2 l2) (hs : a.eval s = .slice A l.length c) (hx : a.eval x = .slice A2 l2.length c2) (hsum : l.length + l2.length ≤ 140737488355328) (hbase : base ≤ w.heap.size)
    (h : ∀ A' c' l' w', Hid (l' = l ++ l2) → Own w' base A' c' l' → w.grownBy w' (blk A) → (blk A' = blk A ∨ blk A' = some w.heap.size) → K (a.put o.dst (.slice A' l'.length c')) w') : Oper.wp P o a w K Q := by
  obtain ⟨A', c', w', hr, h1, h2, h3⟩ := run_append_bytes bt w (ty := o.type) hown (c2 := c2) hb hsum hbase
  unfold Oper.wp execOp
  simp only [ho, resolve, invoke, builtin, Sem.run_bind, Sem.run_pure, Result.andThen_ok, List.map_toArray, List.map_cons, List.map_nil, hs, hx, hr]
  exact h A' c' _ w' rfl h1 h2 h3
end Go.Proofs.Ytpobjcdcimcdnaa
namespace Go.Proofs.Ytpobjcdcimcdnaa
open Go.RowKit
end Go.Proofs.Ytpobjcdcimcdnaa

namespace Go.Proofs.Ytpobjcdcimcdnaa
open Go.RowKit
end Go.Proofs.Ytpobjcdcimcdnaa
namespace Go.Proofs.Ytpobjcdcimcdnaa
open Go.RowKit
end Go.Proofs.Ytpobjcdcimcdnaa
namespace Go.Proofs.Ytpobjcdcimcdnaa
open Go.RowKit
/-- a packet with its body -/
structure PB where
  p : Pkt
  A : Option Addr
  l : List UInt8
  c : Nat
/-- the address A leads to these packets -/
def Pks (w : World) (A : Option Addr) (L : List PB) : Prop :=
  L ≠ [] → ∃ b o, A = some ⟨b, o, none⟩ ∧ ∀ k (h : k < L.length), (∀ i, i < 12 → w.cell? ⟨b, o + k * 12 + i, none⟩ = (pcells L[k].p L[k].A L[k].l.length L[k].c)[i]?) ∧ Bytes w L[k].A L[k].l
theorem Pks.grow {w w' : World} {A : Option Addr} {L : List PB} (h : Pks w A L) (hg : Grow w w') : Pks w' A L := by
  intro hL
  obtain ⟨b, o, rfl, hc⟩ := h hL
  refine ⟨b, o, rfl, fun k hk => ?_⟩
  obtain ⟨h1, h2⟩ := hc k hk
  have hb : b < w.heap.size := World.block_lt_of_cell? w _ (h1 0 (by omega))
  refine ⟨fun i hi => ?_, h2.grow hg⟩
  rw [← h1 i hi]
  exact Below.cell (p := ⟨b, o + k * 12 + i, none⟩) hg hb
end Go.Proofs.Ytpobjcdcimcdnaa
namespace Go.Proofs.Ytpobjcdcimcdnaa
open Go.RowKit
theorem Pks.one {w : World} {g : Nat} {p : Pkt} (h : Box w g (pcells p none 0 0)) : Pks w (some ⟨g, 0, none⟩) [⟨p, none, [], 0⟩] := by
  intro _
  refine ⟨g, 0, rfl, fun k hk => ?_⟩
  obtain rfl : k = 0 := by simpa using hk
  exact ⟨fun i _ => by simpa using h.cell i, Bytes.nil _ _⟩
end Go.Proofs.Ytpobjcdcimcdnaa

namespace Go.Proofs.Ytpobjcdcimcdnaa
open Go.RowKit
end Go.Proofs.Ytpobjcdcimcdnaa

namespace Go.Proofs.Ytpobjcdcimcdnaa
open Go.RowKit
end Go.Proofs.Ytpobjcdcimcdnaa
