/- Walks and plain lemmas that several statements share. -/
import Derived.Test.YtbccbfmgjeknhaaPk
import Derived.Test.YtbccbfmgjeknhaaWri
import Derived.Test.YtbccbfmgjeknhaaTool
import Derived.Test.YtbccbfmgjeknhaaR05
import Derived.Test.YtbccbfmgjeknhaaFrm
import Derived.Lib.Mul64
import Derived.Test.YtbccbfmgjeknhaaRdX
import Derived.Test.YtbccbfmgjeknhaaNod
import Derived.Maps.AppendAt
import Derived.OwnWalk
import Derived.Test.YtbccbfmgjeknhaaRws
namespace Go.Proofs.Ytbccbfmgjeknhaa
open Go.RowKit
/-- a number of a round -/
def numB (k : Int) : Bool := decide (0 ≤ k) && decide (k ≤ 1152921504606846976)
/-- a packet with nothing but its head -/
def base (p : Pkt) : Pkt := { kind := p.kind, t := p.t, frm := p.frm, seq := p.seq, hops := p.hops, no := 0, to := 0, index := 0, total := 0, stamp := 0, value := 0 }
end Go.Proofs.Ytbccbfmgjeknhaa
namespace Go.Proofs.Ytbccbfmgjeknhaa
open Go.RowKit
end Go.Proofs.Ytbccbfmgjeknhaa
namespace Go.Proofs.Ytbccbfmgjeknhaa
open Go.RowKit
abbrev noP : Pkt := { kind := 0, t := 0, frm := 0, seq := 0, hops := 0, no := 0, to := 0, index := 0, total := 0, stamp := 0, value := 0 }
end Go.Proofs.Ytbccbfmgjeknhaa
namespace Go.Proofs.Ytbccbfmgjeknhaa
open Go.RowKit
end Go.Proofs.Ytbccbfmgjeknhaa
namespace Go.Proofs.Ytbccbfmgjeknhaa
open Go.RowKit
end Go.Proofs.Ytbccbfmgjeknhaa
namespace Go.Proofs.Ytbccbfmgjeknhaa
open Go.RowKit
end Go.Proofs.Ytbccbfmgjeknhaa

namespace Go.Proofs.Ytbccbfmgjeknhaa
open Go.RowKit
end Go.Proofs.Ytbccbfmgjeknhaa
namespace Go.Proofs.Ytbccbfmgjeknhaa
open Go.RowKit
end Go.Proofs.Ytbccbfmgjeknhaa

namespace Go.Proofs.Ytbccbfmgjeknhaa
open Go.RowKit
theorem Bytes.none_ {w : World} {l : List UInt8} (h : Bytes w none l) : l = [] := by
  rcases List.eq_nil_or_concat l with e | ⟨_, _, e⟩
  · exact e
  · obtain ⟨_, _, h, _⟩ := h (by rw [e]; simp)
    cases h
set_option maxRecDepth 100000 in
set_option maxHeartbeats 1000000 in
theorem clone_any (A : Option Addr) (l : List UInt8) (c : Nat) (w : World) (hl : Bytes w A l) (hn : l.length ≤ 1000000000000) :
    Calls Try.prog 36 #[.slice A l.length c] w fun r w' => ∃ A' c', r = .returned (.slice A' l.length c') ∧ Own w' w.heap.size A' c' l ∧ Grow w w' := by
  cases A with
  | none =>
    obtain rfl := hl.none_
    have hq : ∀ w, (binOp .eql 22 (.slice none ([] : List UInt8).length c) (.slice none 0 0)).run Try.prog w = .ok (.bool true) w := fun w => Lib.run_eql_slice_nil w 22 5 none _ c 0 0 Try.underlying22
    simp only [List.length_nil] at hq
    go_enter Try.func36, Try.ntmps36
    go_wp2
    go_ret
    exact ⟨none, 0, rfl, Own.nil_ _ _, Grow.refl _⟩
  | some a =>
    have hq : ∀ w, (binOp .eql 22 (.slice (some a) l.length c) (.slice none 0 0)).run Try.prog w = .ok (.bool false) w := fun w => Lib.run_eql_slice_nil w 22 5 (some a) _ c 0 0 Try.underlying22
    go_enter Try.func36, Try.ntmps36
    go_wp2_with (at_builtin; refine wpList_append_bytes byteT rfl (.tmp 5) (.tmp 6) rfl (Own.made w (base := w.heap.size) #[] 0 (Nat.le_refl _) (by decide) rfl) (hl.alloc _) rfl rfl ?_ ?_ ?_)
    · simp; omega
    · simp
    intro A' c' b' w2 HL hown hg2 _
    have e : b' = l := HL.out.trans (by simp)
    subst e
    go_wp2
    go_ret
    exact ⟨A', c', rfl, hown, (((Below.refl _ _).alloc (Nat.le_refl _) _).grown hg2 (by simp) (by simp [blk]))⟩
end Go.Proofs.Ytbccbfmgjeknhaa
namespace Go.Proofs.Ytbccbfmgjeknhaa
open Go.RowKit
end Go.Proofs.Ytbccbfmgjeknhaa
namespace Go.Proofs.Ytbccbfmgjeknhaa
open Go.RowKit
end Go.Proofs.Ytbccbfmgjeknhaa
namespace Go.Proofs.Ytbccbfmgjeknhaa
open Go.RowKit
end Go.Proofs.Ytbccbfmgjeknhaa
namespace Go.Proofs.Ytbccbfmgjeknhaa
open Go.RowKit
/-- an entry -/
abbrev ev (a t f q : Int) (A : Option Addr) (n c : Nat) : Value := .agg #[.int .i64 a, .int .i64 t, .int .i64 f, .int .u32 q, .slice A n c]
end Go.Proofs.Ytbccbfmgjeknhaa
namespace Go.Proofs.Ytbccbfmgjeknhaa
open Go.RowKit
end Go.Proofs.Ytbccbfmgjeknhaa

namespace Go.Proofs.Ytbccbfmgjeknhaa
open Go.RowKit
end Go.Proofs.Ytbccbfmgjeknhaa
namespace Go.Proofs.Ytbccbfmgjeknhaa
open Go.RowKit
end Go.Proofs.Ytbccbfmgjeknhaa
namespace Go.Proofs.Ytbccbfmgjeknhaa
open Go.RowKit
end Go.Proofs.Ytbccbfmgjeknhaa

namespace Go.Proofs.Ytbccbfmgjeknhaa
open Go.RowKit
end Go.Proofs.Ytbccbfmgjeknhaa
namespace Go.Proofs.Ytbccbfmgjeknhaa
open Go.RowKit
end Go.Proofs.Ytbccbfmgjeknhaa
namespace Go.Proofs.Ytbccbfmgjeknhaa
open Go.RowKit
end Go.Proofs.Ytbccbfmgjeknhaa

namespace Go.Proofs.Ytbccbfmgjeknhaa
open Go.RowKit
end Go.Proofs.Ytbccbfmgjeknhaa
namespace Go.Proofs.Ytbccbfmgjeknhaa
open Go.RowKit
end Go.Proofs.Ytbccbfmgjeknhaa

namespace Go.Proofs.Ytbccbfmgjeknhaa
open Go.RowKit
end Go.Proofs.Ytbccbfmgjeknhaa
namespace Go.Proofs.Ytbccbfmgjeknhaa
open Go.RowKit
end Go.Proofs.Ytbccbfmgjeknhaa
namespace Go.Proofs.Ytbccbfmgjeknhaa
open Go.RowKit
/-- a packet with its body -/
structure PB where
  p : Pkt
  A : Option Addr
  l : List UInt8
  c : Nat
/-- the address A leads to these packets -/
def Pks (w : World) (A : Option Addr) (L : List PB) : Prop :=
  L ≠ [] → ∃ b o, A = some ⟨b, o, none⟩ ∧ ∀ k (h : k < L.length), (∀ i, i < 12 → w.cell? ⟨b, o + k * 12 + i, none⟩ = (pcells L[k].p L[k].A L[k].l.length L[k].c)[i]?) ∧ Bytes w L[k].A L[k].l
theorem Pks.grow {w w' : World} {A : Option Addr} {L : List PB} (h : Pks w A L) (hg : Grow w w') : Pks w' A L := by
  intro hL
  obtain ⟨b, o, rfl, hc⟩ := h hL
  refine ⟨b, o, rfl, fun k hk => ?_⟩
  obtain ⟨h1, h2⟩ := hc k hk
  have hb : b < w.heap.size := World.block_lt_of_cell? w _ (h1 0 (by omega))
  refine ⟨fun i hi => ?_, h2.grow hg⟩
  rw [← h1 i hi]
  exact Below.cell (p := ⟨b, o + k * 12 + i, none⟩) hg hb
end Go.Proofs.Ytbccbfmgjeknhaa
namespace Go.Proofs.Ytbccbfmgjeknhaa
open Go.RowKit
theorem Pks.one {w : World} {g : Nat} {p : Pkt} (h : Box w g (pcells p none 0 0)) : Pks w (some ⟨g, 0, none⟩) [⟨p, none, [], 0⟩] := by
  intro _
  refine ⟨g, 0, rfl, fun k hk => ?_⟩
  obtain rfl : k = 0 := by simpa using hk
  exact ⟨fun i _ => by simpa using h.cell i, Bytes.nil _ _⟩
end Go.Proofs.Ytbccbfmgjeknhaa

namespace Go.Proofs.Ytbccbfmgjeknhaa
open Go.RowKit
end Go.Proofs.Ytbccbfmgjeknhaa

namespace Go.Proofs.Ytbccbfmgjeknhaa
open Go.RowKit
end Go.Proofs.Ytbccbfmgjeknhaa

namespace Go.Proofs.Ytbccbfmgjeknhaa
open Go.RowKit
abbrev chunkP (t f q no to ix tot : Int) : Pkt := { kind := 6, t := t, frm := f, seq := q, hops := 1, no := no, to := to, index := ix, total := tot, stamp := 0, value := 0 }
def countsB (i n : Int) : Bool := decide (0 ≤ i) && decide (i < n) && decide (n ≤ 255)
/-- whether a packet may be a chunk: the numbers -/
def chunkN (p : Pkt) (n : Nat) : Bool := p.stamp == 0 && p.value == 0 && decide (n ≤ 64) && numB p.no && nodeB p.to && countsB p.index p.total
def chunkB (p : Pkt) (n : Nat) : Bool := p.kind == 6 && headB p && chunkN p n
set_option maxHeartbeats 400000 in
theorem counts_any (i n : Int) (w : World) : Calls Try.prog 85 #[.int .i64 i, .int .i64 n] w fun e w' => e = .returned (.bool (countsB i n)) ∧ w = w' := by
  go_enter Try.func85, Try.ntmps85
  go_wp2
  all_goals
    go_ret
    exact ⟨ret_bool (by simp_all [countsB] <;> (intros; omega)), rfl⟩
set_option maxRecDepth 100000 in
set_option maxHeartbeats 2000000 in
theorem chunkgood_any (p : Pkt) (A : Option Addr) (n c : Nat) (w : World) (hn : n ≤ 1000000000000) :
    Calls Try.prog 76 #[pv p A n c] w fun e w' => e = .returned (.bool (chunkB p n)) ∧ Below w.heap.size w w' := by
  have HG := hide (fun W => headgood_any p A n c W)
  have HN := hide (show chunkN p n = (p.stamp == 0 && p.value == 0 && decide (n ≤ 64) && numB p.no && nodeB p.to && countsB p.index p.total) from rfl)
  by_cases hk : p.kind = 6
  · have k6 : (p.kind != 6) = false := by simpa using hk
    have HD := hide (show chunkB p n = (headB p && chunkN p n) by simp [chunkB, hk])
    clear hk
    generalize headB p = b1 at *
    generalize chunkB p n = bb at *
    go_enter Try.func76, Try.ntmps76
    go_wp2_with fail
    refine (HG.out _).mono ?_
    rintro r w1 ⟨rfl, hb1⟩
    obtain ⟨p0, hg1⟩ := peel1 hb1
    have p0_ := hide p0
    clear p0
    have p0 := p0_
    clear p0_
    have HG1 := hide (show Grow w w1 from hg1)
    have hsz1 : w.heap.size ≤ w1.heap.size := HG1.out.size
    have hq1 : w.heap.size ≤ w1.heap.size := hg1.size
    have HS1 := hide hg1
    clear hb1 hg1
    obtain ⟨cp0, fp0, lp0⟩ := (show Box w1 _ _ from p0.out).rules
    cases b1 with
    | false =>
      go_wp2
      go_ret
      exact ⟨by rw [HD.out]; rfl, HG1.out⟩
    | true =>
      rw [Bool.true_and] at HD
      go_wp2_with (go_at_call 85; refine (counts_any _ _ _).mono ?_; rintro r w' ⟨rfl, rfl⟩)
      all_goals
        go_ret
        refine ⟨ret_bool ?_, HG1.out⟩
        rw [HD.out, HN.out]
        clear HD HN HG1 p0 cp0 fp0 lp0 HG
        rw [Bool.eq_iff_iff]
        simp_all [numB, nodeB, countsB] <;> omega
  · have k6 : (p.kind != 6) = true := by simpa using hk
    have HD := hide (show chunkB p n = false by simp [chunkB, hk])
    clear hk
    go_enter Try.func76, Try.ntmps76
    go_wp2
    go_ret
    exact ⟨by rw [HD.out]; rfl, (Grow.refl w).alloc _⟩
set_option maxRecDepth 100000 in
set_option maxHeartbeats 2000000 in
theorem refchunkgood_any (p : Pkt) (A : Option Addr) (n c : Nat) (w : World) (hn : n ≤ 1000000000000) :
    Calls Try.prog 59 #[pv p A n c] w fun e w' => e = .returned (.bool (chunkB p n)) ∧ Below w.heap.size w w' := by
  have HG := hide (fun W => refheadgood_any p A n c W)
  have HN := hide (show chunkN p n = (p.stamp == 0 && p.value == 0 && decide (n ≤ 64) && numB p.no && nodeB p.to && countsB p.index p.total) from rfl)
  by_cases hk : p.kind = 6
  · have k6 : (p.kind != 6) = false := by simpa using hk
    have HD := hide (show chunkB p n = (headB p && chunkN p n) by simp [chunkB, hk])
    clear hk
    generalize headB p = b1 at *
    generalize chunkB p n = bb at *
    go_enter Try.func59, Try.ntmps59
    go_wp2_with fail
    refine (HG.out _).mono ?_
    rintro r w1 ⟨rfl, hb1⟩
    obtain ⟨p0, hg1⟩ := peel1 hb1
    have p0_ := hide p0
    clear p0
    have p0 := p0_
    clear p0_
    have HG1 := hide (show Grow w w1 from hg1)
    have hsz1 : w.heap.size ≤ w1.heap.size := HG1.out.size
    have hq1 : w.heap.size ≤ w1.heap.size := hg1.size
    have HS1 := hide hg1
    clear hb1 hg1
    obtain ⟨cp0, fp0, lp0⟩ := (show Box w1 _ _ from p0.out).rules
    cases b1 with
    | false =>
      go_wp2
      go_ret
      exact ⟨by rw [HD.out]; rfl, HG1.out⟩
    | true =>
      rw [Bool.true_and] at HD
      go_wp2
      all_goals
        go_ret
        refine ⟨ret_bool ?_, HG1.out⟩
        rw [HD.out, HN.out]
        clear HD HN HG1 p0 cp0 fp0 lp0 HG
        rw [Bool.eq_iff_iff]
        simp_all [numB, nodeB, countsB] <;> omega
  · have k6 : (p.kind != 6) = true := by simpa using hk
    have HD := hide (show chunkB p n = false by simp [chunkB, hk])
    clear hk
    go_enter Try.func59, Try.ntmps59
    go_wp2
    go_ret
    exact ⟨by rw [HD.out]; rfl, (Grow.refl w).alloc _⟩
set_option maxRecDepth 100000 in
set_option maxHeartbeats 2000000 in
theorem refchunknew_any (t f q no to ix tot : Int) (A : Option Addr) (n c : Nat) (w : World) :
    Calls Try.prog 26 #[kv t f q, .int .i64 no, .int .i64 to, .int .i64 ix, .int .i64 tot, .slice A n c] w fun e w' => e = .returned (pv (chunkP t f q no to ix tot) A n c) ∧ Grow w w' := by
  go_enter Try.func26, Try.ntmps26
  go_wp2
  refine bodyPost_ret (v := pv (chunkP t f q no to ix tot) A n c) (by simp [results, Try.results26, go_sem]) rfl ⟨rfl, ?_⟩
  show Below w.heap.size w _
  repeat (with_reducible refine Below.setCell ?_ (by simp) _)
  exact ((Grow.refl w).alloc _).alloc _
end Go.Proofs.Ytbccbfmgjeknhaa

namespace Go.Proofs.Ytbccbfmgjeknhaa
open Go.RowKit
section
variable {b : List UInt8} {p : Pkt} {x : Nat}
end
end Go.Proofs.Ytbccbfmgjeknhaa

namespace Go.Proofs.Ytbccbfmgjeknhaa
open Go.RowKit
end Go.Proofs.Ytbccbfmgjeknhaa

namespace Go.Proofs.Ytbccbfmgjeknhaa
open Go.RowKit
set_option maxRecDepth 100000 in
set_option maxHeartbeats 2000000 in
theorem cut13_any (p : Pkt) (A : Option Addr) (l : List UInt8) (c : Nat) (w : World) (hl : l.length ≤ c) (hc : c ≤ 9223372036854775807) (hb : Bytes w A l) :
    Calls Try.prog 29 #[pv p A l.length c] w fun e w' => ∃ A' c', e = .returned (pv p A' (l.take 80).length c') ∧ Own w' w.heap.size A' c' (l.take 80) ∧ Grow w w' := by
  by_cases h : l.length ≤ 80
  · have HT : Hid (l.take 80 = l) := hide (List.take_of_length_le h)
    go_enter Try.func29, Try.ntmps29
    go_wp2_with (at_builtin; refine wpList_append_bytes byteT rfl (.tmp 3) (.tmp 10) rfl (Own.made' ((w.alloc (.cells (pcells p A l.length c) 58)).alloc (.cells (pcells noP none 0 0) 58)) w.heap.size (w.heap.size + 1 + 1) (by simp) (by omega)) (((hb.alloc _).alloc _).alloc _) rfl rfl ?_ ?_ ?_)
    · simp; omega
    · simp; omega
    intro A' c' l' w2 HL hown hg hat
    obtain ⟨p0, q0, hg2⟩ := app2 hg rfl
    have hq : ∀ q, blk A' = some q → q ≠ w.heap.size ∧ q ≠ w.heap.size + 1 := fun q hq => by
      rcases hat with h | h
      · rw [h] at hq; simp [blk] at hq; omega
      · rw [h] at hq; simp at hq; omega
    obtain ⟨cp0, fp0, lp0⟩ := p0.rules
    obtain ⟨cq0, fq0, lq0⟩ := q0.rules
    clear hg hat
    go_wp2
    have e : l' = l.take 80 := by rw [HT.out]; exact HL.out.trans (by simp)
    subst e
    refine bodyPost_ret (v := pv p A' (l.take 80).length c') (by simp [results, Try.results29, go_sem, cq0]) rfl ?_
    refine ⟨A', c', rfl, ?_, ?_⟩
    · repeat (with_reducible refine Own.setAt ?_ ?_ _; rotate_left; · (intro q h; have := hq q h; simp; omega))
      exact hown
    · show Below w.heap.size w _
      repeat (with_reducible refine Below.setCell ?_ (by simp) _)
      exact hg2
  · have HT : Hid (80 = (l.take 80).length) := hide (by rw [List.length_take]; omega)
    have hb' : Bytes w A (l.take 80) := hb.take 80
    go_enter Try.func29, Try.ntmps29
    go_wp2_with (at_builtin; refine wpList_append_bytes byteT rfl (.tmp 3) (.tmp 10) rfl (Own.made' ((w.alloc (.cells (pcells p A l.length c) 58)).alloc (.cells (pcells noP none 0 0) 58)) w.heap.size (w.heap.size + 1 + 1) (by simp) (by omega)) (((hb'.alloc _).alloc _).alloc _) rfl (by rw [← HT.out]; rfl) ?_ ?_ ?_)
    · rw [← HT.out]; simp
    · simp; omega
    intro A' c' l' w2 HL hown hg hat
    obtain ⟨p0, q0, hg2⟩ := app2 hg rfl
    have hq : ∀ q, blk A' = some q → q ≠ w.heap.size ∧ q ≠ w.heap.size + 1 := fun q hq => by
      rcases hat with h | h
      · rw [h] at hq; simp [blk] at hq; omega
      · rw [h] at hq; simp at hq; omega
    obtain ⟨cp0, fp0, lp0⟩ := p0.rules
    obtain ⟨cq0, fq0, lq0⟩ := q0.rules
    clear hg hat
    go_wp2
    have e : l' = l.take 80 := by exact HL.out.trans (by simp)
    subst e
    refine bodyPost_ret (v := pv p A' (l.take 80).length c') (by simp [results, Try.results29, go_sem, cq0]) rfl ?_
    refine ⟨A', c', rfl, ?_, ?_⟩
    · repeat (with_reducible refine Own.setAt ?_ ?_ _; rotate_left; · (intro q h; have := hq q h; simp; omega))
      exact hown
    · show Below w.heap.size w _
      repeat (with_reducible refine Below.setCell ?_ (by simp) _)
      exact hg2
end Go.Proofs.Ytbccbfmgjeknhaa

namespace Go.Proofs.Ytbccbfmgjeknhaa
open Go.RowKit
end Go.Proofs.Ytbccbfmgjeknhaa

namespace Go.Proofs.Ytbccbfmgjeknhaa
open Go.RowKit
end Go.Proofs.Ytbccbfmgjeknhaa

namespace Go.Proofs.Ytbccbfmgjeknhaa
open Go.ChangeShapes Go.WideShapes Go.ChangeAt Go.RowKit
abbrev pbc (x : PB) : Array Value := pcells x.p x.A x.l.length x.c
abbrev PksIn (w : World) (A : Option Addr) (L : List PB) : Prop := RowsAt (fun x => (pbc x).toList) (fun w (x : PB) => Bytes w x.A x.l) 12 w A L
theorem PksIn.pks {w : World} {A : Option Addr} {L : List PB} (h : PksIn w A L) : Pks w A L := by
  intro hne
  obtain ⟨b, o, rfl, hc⟩ := h hne
  refine ⟨b, o, rfl, fun k hk => ⟨fun i hi => ?_, (hc k hk).2⟩⟩
  rw [(hc k hk).1 i hi]
  simp
abbrev pkcells (L : List PB) : List Value := L.flatMap fun x => (pbc x).toList
theorem pkcells_len (L : List PB) : (pkcells L).length = L.length * 12 := by
  induction L with
  | nil => rfl
  | cons x L ih =>
    show ((pbc x).toList ++ pkcells L).length = _
    rw [List.length_append, ih, List.length_cons]
    simp
    omega
theorem pkcells_at (L : List PB) : ∀ k (h : k < L.length) i, i < 12 → (pkcells L)[k * 12 + i]? = (pbc L[k])[i]? := by
  induction L with
  | nil => intro k h; simp at h
  | cons x L ih =>
    intro k h i hi
    show ((pbc x).toList ++ pkcells L)[k * 12 + i]? = _
    cases k with
    | zero =>
      rw [List.getElem?_append_left (by simp; omega)]
      simp
    | succ k =>
      have h' : k < L.length := by simpa using h
      rw [List.getElem?_append_right (by simp; omega), show (k + 1) * 12 + i - (pbc x).toList.length = k * 12 + i by simp; omega, ih k h' i hi]
      simp
theorem pkcells_app (L M : List PB) : pkcells (L ++ M) = pkcells L ++ pkcells M := List.flatMap_append
theorem pbc_one (x : PB) : ∀ u ∈ (pbc x).toList, u.oneCell' = true := by
  intro u h
  simp only [List.mem_cons, List.not_mem_nil, or_false] at h
  rcases h with rfl | rfl | rfl | rfl | rfl | rfl | rfl | rfl | rfl | rfl | rfl | rfl <;> rfl
/-- a list of packets of its own -/
abbrev OwnP (w : World) (base : Nat) (v : Value) (L : List PB) : Prop := w.ownsRow base 58 12 v L.length (pkcells L)
theorem OwnP.pks {w : World} {base g n c : Nat} {L : List PB} (h : OwnP w base (.slice (some ⟨g, 0, none⟩) n c) L) (hb : ∀ x, x ∈ L → Bytes w x.A x.l) : Pks w (some ⟨g, 0, none⟩) L := by
  intro _
  refine ⟨g, 0, rfl, fun k hk => ⟨fun i hi => ?_, hb _ (List.getElem_mem hk)⟩⟩
  have hn : n = L.length := by
    rcases h.2 with ⟨h, _⟩ | ⟨g', cap', cur, h, _⟩
    · simp at h
    · simp only [Value.slice.injEq] at h
      exact h.2.1
  subst hn
  rw [Nat.zero_add, World.ownsRow.cellAt h (k * 12 + i) (by omega), pkcells_at L k hk i hi]
theorem OwnP.range {w : World} {base g n c : Nat} {L : List PB} (h : OwnP w base (.slice (some ⟨g, 0, none⟩) n c) L) (k : Nat) (hk : k < L.length) : w.rangeAt g (k * 12) (pbc L[k]).toList := by
  have hn : n = L.length := by
    rcases h.2 with ⟨h, _⟩ | ⟨g', cap', cur, h, _⟩
    · simp at h
    · simp only [Value.slice.injEq] at h
      exact h.2.1
  subst hn
  intro j v hj
  have hj' : j < 12 := by simpa using (List.getElem?_eq_some_iff.1 hj).1
  rw [World.ownsRow.cellAt h (k * 12 + j) (by omega), pkcells_at L k hk j hj', ← hj]
  simp
theorem OwnP.blk {w : World} {base g n c : Nat} {L : List PB} (h : OwnP w base (.slice (some ⟨g, 0, none⟩) n c) L) : base ≤ g ∧ g < w.heap.size := World.ownsRow.lt h g rfl
theorem OwnP.grow {w w' : World} {base : Nat} {v : Value} {L : List PB} (h : OwnP w base v L) (hg : Grow w w') : OwnP w' base v L := by
  obtain ⟨h0, h1 | ⟨g, cap, cur, rfl, hbb, hgg, h1, h2, h3, h4⟩⟩ := h
  · exact ⟨h0, .inl h1⟩
  · exact ⟨h0, .inr ⟨g, cap, cur, rfl, hbb, (hg.block g (Array.getElem?_eq_some_iff.1 hgg).1).trans hgg, h1, h2, h3, h4⟩⟩
theorem OwnP.len {w : World} {base g n c : Nat} {L : List PB} (h : OwnP w base (.slice (some ⟨g, 0, none⟩) n c) L) : n = L.length := by
  rcases h.2 with ⟨h, _⟩ | ⟨g', cap', cur, h, _⟩
  · simp at h
  · simp only [Value.slice.injEq] at h
    exact h.2.1
theorem pktInfo : (Try.prog.info? 58).map (fun i => (i.zero, i.size, i.bytes)) = some (some (.agg #[.int .i64 0, .int .i64 0, .int .i64 0, .int .u32 0, .int .i64 0, .int .i64 0, .int .i64 0, .int .i64 0, .int .i64 0, .int .i64 0, .int .i64 0, .slice none 0 0]), 12, 112) := by kernel_rfl
end Go.Proofs.Ytbccbfmgjeknhaa
