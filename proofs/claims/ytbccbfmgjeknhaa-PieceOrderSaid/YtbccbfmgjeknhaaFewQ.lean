/- Walks and plain lemmas that several statements share. -/
import Derived.Test.YtbccbfmgjeknhaaPk
import Derived.Test.YtbccbfmgjeknhaaWri
import Derived.Test.YtbccbfmgjeknhaaTool
import Derived.Test.YtbccbfmgjeknhaaR05
import Derived.Test.YtbccbfmgjeknhaaFrm
import Derived.Lib.Mul64
import Derived.Test.YtbccbfmgjeknhaaRdX
namespace Go.Proofs.Ytbccbfmgjeknhaa
open Go.RowKit
/-- a number of a round -/
def numB (k : Int) : Bool := decide (0 ≤ k) && decide (k ≤ 1152921504606846976)
/-- a packet with nothing but its head -/
def base (p : Pkt) : Pkt := { kind := p.kind, t := p.t, frm := p.frm, seq := p.seq, hops := p.hops, no := 0, to := 0, index := 0, total := 0, stamp := 0, value := 0 }
end Go.Proofs.Ytbccbfmgjeknhaa
namespace Go.Proofs.Ytbccbfmgjeknhaa
open Go.RowKit
end Go.Proofs.Ytbccbfmgjeknhaa
namespace Go.Proofs.Ytbccbfmgjeknhaa
open Go.RowKit
end Go.Proofs.Ytbccbfmgjeknhaa
namespace Go.Proofs.Ytbccbfmgjeknhaa
open Go.RowKit
end Go.Proofs.Ytbccbfmgjeknhaa
namespace Go.Proofs.Ytbccbfmgjeknhaa
open Go.RowKit
end Go.Proofs.Ytbccbfmgjeknhaa
namespace Go.Proofs.Ytbccbfmgjeknhaa
open Go.RowKit
end Go.Proofs.Ytbccbfmgjeknhaa

namespace Go.Proofs.Ytbccbfmgjeknhaa
open Go.RowKit
end Go.Proofs.Ytbccbfmgjeknhaa
namespace Go.Proofs.Ytbccbfmgjeknhaa
open Go.RowKit
end Go.Proofs.Ytbccbfmgjeknhaa

namespace Go.Proofs.Ytbccbfmgjeknhaa
open Go.RowKit
theorem Bytes.none_ {w : World} {l : List UInt8} (h : Bytes w none l) : l = [] := by
  rcases List.eq_nil_or_concat l with e | ⟨_, _, e⟩
  · exact e
  · obtain ⟨_, _, h, _⟩ := h (by rw [e]; simp)
    cases h
set_option maxRecDepth 100000 in
set_option maxHeartbeats 1000000 in
theorem clone_any (A : Option Addr) (l : List UInt8) (c : Nat) (w : World) (hl : Bytes w A l) (hn : l.length ≤ 1000000000000) :
    Calls Try.prog 36 #[.slice A l.length c] w fun r w' => ∃ A' c', r = .returned (.slice A' l.length c') ∧ Own w' w.heap.size A' c' l ∧ Grow w w' := by
  cases A with
  | none =>
    obtain rfl := hl.none_
    have hq : ∀ w, (binOp .eql 22 (.slice none ([] : List UInt8).length c) (.slice none 0 0)).run Try.prog w = .ok (.bool true) w := fun w => Lib.run_eql_slice_nil w 22 5 none _ c 0 0 Try.underlying22
    simp only [List.length_nil] at hq
    go_enter Try.func36, Try.ntmps36
    go_wp2
    go_ret
    exact ⟨none, 0, rfl, Own.nil_ _ _, Grow.refl _⟩
  | some a =>
    have hq : ∀ w, (binOp .eql 22 (.slice (some a) l.length c) (.slice none 0 0)).run Try.prog w = .ok (.bool false) w := fun w => Lib.run_eql_slice_nil w 22 5 (some a) _ c 0 0 Try.underlying22
    go_enter Try.func36, Try.ntmps36
    go_wp2_with (at_builtin; refine wpList_append_bytes byteT rfl (.tmp 5) (.tmp 6) rfl (Own.made w (base := w.heap.size) #[] 0 (Nat.le_refl _) (by decide) rfl) (hl.alloc _) rfl rfl ?_ ?_ ?_)
    · simp; omega
    · simp
    intro A' c' b' w2 HL hown hg2 _
    have e : b' = l := HL.out.trans (by simp)
    subst e
    go_wp2
    go_ret
    exact ⟨A', c', rfl, hown, (((Below.refl _ _).alloc (Nat.le_refl _) _).grown hg2 (by simp) (by simp [blk]))⟩
end Go.Proofs.Ytbccbfmgjeknhaa
namespace Go.Proofs.Ytbccbfmgjeknhaa
open Go.RowKit
end Go.Proofs.Ytbccbfmgjeknhaa
namespace Go.Proofs.Ytbccbfmgjeknhaa
open Go.RowKit
end Go.Proofs.Ytbccbfmgjeknhaa
namespace Go.Proofs.Ytbccbfmgjeknhaa
open Go.RowKit
end Go.Proofs.Ytbccbfmgjeknhaa
namespace Go.Proofs.Ytbccbfmgjeknhaa
open Go.RowKit
end Go.Proofs.Ytbccbfmgjeknhaa
namespace Go.Proofs.Ytbccbfmgjeknhaa
open Go.RowKit
end Go.Proofs.Ytbccbfmgjeknhaa

namespace Go.Proofs.Ytbccbfmgjeknhaa
open Go.RowKit
end Go.Proofs.Ytbccbfmgjeknhaa
namespace Go.Proofs.Ytbccbfmgjeknhaa
open Go.RowKit
end Go.Proofs.Ytbccbfmgjeknhaa
namespace Go.Proofs.Ytbccbfmgjeknhaa
open Go.RowKit
end Go.Proofs.Ytbccbfmgjeknhaa

namespace Go.Proofs.Ytbccbfmgjeknhaa
open Go.RowKit
end Go.Proofs.Ytbccbfmgjeknhaa
namespace Go.Proofs.Ytbccbfmgjeknhaa
open Go.RowKit
end Go.Proofs.Ytbccbfmgjeknhaa
namespace Go.Proofs.Ytbccbfmgjeknhaa
open Go.RowKit
end Go.Proofs.Ytbccbfmgjeknhaa

namespace Go.Proofs.Ytbccbfmgjeknhaa
open Go.RowKit
end Go.Proofs.Ytbccbfmgjeknhaa
namespace Go.Proofs.Ytbccbfmgjeknhaa
open Go.RowKit
end Go.Proofs.Ytbccbfmgjeknhaa

namespace Go.Proofs.Ytbccbfmgjeknhaa
open Go.RowKit
end Go.Proofs.Ytbccbfmgjeknhaa
namespace Go.Proofs.Ytbccbfmgjeknhaa
open Go.RowKit
end Go.Proofs.Ytbccbfmgjeknhaa
namespace Go.Proofs.Ytbccbfmgjeknhaa
open Go.RowKit
/-- a packet with its body -/
structure PB where
  p : Pkt
  A : Option Addr
  l : List UInt8
  c : Nat
/-- the address A leads to these packets -/
def Pks (w : World) (A : Option Addr) (L : List PB) : Prop :=
  L ≠ [] → ∃ b o, A = some ⟨b, o, none⟩ ∧ ∀ k (h : k < L.length), (∀ i, i < 12 → w.cell? ⟨b, o + k * 12 + i, none⟩ = (pcells L[k].p L[k].A L[k].l.length L[k].c)[i]?) ∧ Bytes w L[k].A L[k].l
theorem Pks.grow {w w' : World} {A : Option Addr} {L : List PB} (h : Pks w A L) (hg : Grow w w') : Pks w' A L := by
  intro hL
  obtain ⟨b, o, rfl, hc⟩ := h hL
  refine ⟨b, o, rfl, fun k hk => ?_⟩
  obtain ⟨h1, h2⟩ := hc k hk
  have hb : b < w.heap.size := World.block_lt_of_cell? w _ (h1 0 (by omega))
  refine ⟨fun i hi => ?_, h2.grow hg⟩
  rw [← h1 i hi]
  exact Below.cell (p := ⟨b, o + k * 12 + i, none⟩) hg hb
end Go.Proofs.Ytbccbfmgjeknhaa
namespace Go.Proofs.Ytbccbfmgjeknhaa
open Go.RowKit
theorem Pks.one {w : World} {g : Nat} {p : Pkt} (h : Box w g (pcells p none 0 0)) : Pks w (some ⟨g, 0, none⟩) [⟨p, none, [], 0⟩] := by
  intro _
  refine ⟨g, 0, rfl, fun k hk => ?_⟩
  obtain rfl : k = 0 := by simpa using hk
  exact ⟨fun i _ => by simpa using h.cell i, Bytes.nil _ _⟩
end Go.Proofs.Ytbccbfmgjeknhaa

namespace Go.Proofs.Ytbccbfmgjeknhaa
open Go.RowKit
end Go.Proofs.Ytbccbfmgjeknhaa

namespace Go.Proofs.Ytbccbfmgjeknhaa
open Go.RowKit
end Go.Proofs.Ytbccbfmgjeknhaa

namespace Go.Proofs.Ytbccbfmgjeknhaa
open Go.RowKit
abbrev chunkP (t f q no to ix tot : Int) : Pkt := { kind := 6, t := t, frm := f, seq := q, hops := 1, no := no, to := to, index := ix, total := tot, stamp := 0, value := 0 }
def countsB (i n : Int) : Bool := decide (0 ≤ i) && decide (i < n) && decide (n ≤ 255)
/-- whether a packet may be a chunk: the numbers -/
def chunkN (p : Pkt) (n : Nat) : Bool := p.stamp == 0 && p.value == 0 && decide (n ≤ 64) && numB p.no && nodeB p.to && countsB p.index p.total
def chunkB (p : Pkt) (n : Nat) : Bool := p.kind == 6 && headB p && chunkN p n
set_option maxHeartbeats 400000 in
theorem counts_any (i n : Int) (w : World) : Calls Try.prog 85 #[.int .i64 i, .int .i64 n] w fun e w' => e = .returned (.bool (countsB i n)) ∧ w = w' := by
  go_enter Try.func85, Try.ntmps85
  go_wp2
  all_goals
    go_ret
    exact ⟨ret_bool (by simp_all [countsB] <;> (intros; omega)), rfl⟩
set_option maxRecDepth 100000 in
set_option maxHeartbeats 2000000 in
theorem chunkgood_any (p : Pkt) (A : Option Addr) (n c : Nat) (w : World) (hn : n ≤ 1000000000000) :
    Calls Try.prog 76 #[pv p A n c] w fun e w' => e = .returned (.bool (chunkB p n)) ∧ Below w.heap.size w w' := by
  have HG := hide (fun W => headgood_any p A n c W)
  have HN := hide (show chunkN p n = (p.stamp == 0 && p.value == 0 && decide (n ≤ 64) && numB p.no && nodeB p.to && countsB p.index p.total) from rfl)
  by_cases hk : p.kind = 6
  · have k6 : (p.kind != 6) = false := by simpa using hk
    have HD := hide (show chunkB p n = (headB p && chunkN p n) by simp [chunkB, hk])
    clear hk
    generalize headB p = b1 at *
    generalize chunkB p n = bb at *
    go_enter Try.func76, Try.ntmps76
    go_wp2_with fail
    refine (HG.out _).mono ?_
    rintro r w1 ⟨rfl, hb1⟩
    obtain ⟨p0, hg1⟩ := peel1 hb1
    have p0_ := hide p0
    clear p0
    have p0 := p0_
    clear p0_
    have HG1 := hide (show Grow w w1 from hg1)
    have hsz1 : w.heap.size ≤ w1.heap.size := HG1.out.size
    have hq1 : w.heap.size ≤ w1.heap.size := hg1.size
    have HS1 := hide hg1
    clear hb1 hg1
    obtain ⟨cp0, fp0, lp0⟩ := (show Box w1 _ _ from p0.out).rules
    cases b1 with
    | false =>
      go_wp2
      go_ret
      exact ⟨by rw [HD.out]; rfl, HG1.out⟩
    | true =>
      rw [Bool.true_and] at HD
      go_wp2_with (go_at_call 85; refine (counts_any _ _ _).mono ?_; rintro r w' ⟨rfl, rfl⟩)
      all_goals
        go_ret
        refine ⟨ret_bool ?_, HG1.out⟩
        rw [HD.out, HN.out]
        clear HD HN HG1 p0 cp0 fp0 lp0 HG
        rw [Bool.eq_iff_iff]
        simp_all [numB, nodeB, countsB] <;> omega
  · have k6 : (p.kind != 6) = true := by simpa using hk
    have HD := hide (show chunkB p n = false by simp [chunkB, hk])
    clear hk
    go_enter Try.func76, Try.ntmps76
    go_wp2
    go_ret
    exact ⟨by rw [HD.out]; rfl, (Grow.refl w).alloc _⟩
set_option maxRecDepth 100000 in
set_option maxHeartbeats 2000000 in
theorem refchunknew_any (t f q no to ix tot : Int) (A : Option Addr) (n c : Nat) (w : World) :
    Calls Try.prog 26 #[kv t f q, .int .i64 no, .int .i64 to, .int .i64 ix, .int .i64 tot, .slice A n c] w fun e w' => e = .returned (pv (chunkP t f q no to ix tot) A n c) ∧ Grow w w' := by
  go_enter Try.func26, Try.ntmps26
  go_wp2
  refine bodyPost_ret (v := pv (chunkP t f q no to ix tot) A n c) (by simp [results, Try.results26, go_sem]) rfl ⟨rfl, ?_⟩
  show Below w.heap.size w _
  repeat (with_reducible refine Below.setCell ?_ (by simp) _)
  exact ((Grow.refl w).alloc _).alloc _
end Go.Proofs.Ytbccbfmgjeknhaa

namespace Go.Proofs.Ytbccbfmgjeknhaa
open Go.RowKit
section
variable {b : List UInt8} {p : Pkt} {x : Nat}
end
end Go.Proofs.Ytbccbfmgjeknhaa

namespace Go.Proofs.Ytbccbfmgjeknhaa
open Go.RowKit
end Go.Proofs.Ytbccbfmgjeknhaa

namespace Go.Proofs.Ytbccbfmgjeknhaa
open Go.RowKit
end Go.Proofs.Ytbccbfmgjeknhaa

namespace Go.Proofs.Ytbccbfmgjeknhaa
open Go.RowKit
end Go.Proofs.Ytbccbfmgjeknhaa
