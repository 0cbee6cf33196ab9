/- Packets as values; what of their heads may be. Whether two packets are the same. Whether two packets are the same, as the program has it. -/
import Derived.Test.YtbccbfmgjeknhaaTool
namespace Go.Proofs.Ytbccbfmgjeknhaa
open Go.RowKit
/-- what a packet has beside its body -/
structure Pkt where
  kind : Int
  t : Int
  frm : Int
  seq : Int
  hops : Int
  no : Int
  to : Int
  index : Int
  total : Int
  stamp : Int
  value : Int
/-- the cells of a packet whose body is the slice (A, n, c) -/
abbrev pcells (p : Pkt) (A : Option Addr) (n c : Nat) : Array Value :=
  #[.int .i64 p.kind, .int .i64 p.t, .int .i64 p.frm, .int .u32 p.seq, .int .i64 p.hops, .int .i64 p.no, .int .i64 p.to, .int .i64 p.index, .int .i64 p.total, .int .i64 p.stamp, .int .i64 p.value, .slice A n c]
/-- a packet whose body is the slice (A, n, c) -/
abbrev pv (p : Pkt) (A : Option Addr) (n c : Nat) : Value :=
  .agg #[.int .i64 p.kind, .int .i64 p.t, .int .i64 p.frm, .int .u32 p.seq, .int .i64 p.hops, .int .i64 p.no, .int .i64 p.to, .int .i64 p.index, .int .i64 p.total, .int .i64 p.stamp, .int .i64 p.value, .slice A n c]
def floodB (k : Int) : Bool := decide (3 ≤ k) && decide (k ≤ 6)
def hopsB (k : Int) : Bool := decide (1 ≤ k) && decide (k ≤ 63)
def knownB (k : Int) : Bool := decide (1 ≤ k) && decide (k ≤ 6)
def keyB (t f : Int) : Bool := decide (0 ≤ t) && decide (t ≤ 1152921504606846976) && decide (0 ≤ f) && decide (f < 64)
theorem ret_bool {a b : Bool} (h : a = b) : Ending.returned (.bool a) = .returned (.bool b) := by rw [h]
set_option maxHeartbeats 400000 in
theorem flood_any (k : Int) (w : World) : Calls Try.prog 89 #[.int .i64 k] w fun e w' => e = .returned (.bool (floodB k)) ∧ w = w' := by
  go_enter Try.func89, Try.ntmps89
  go_wp2
  all_goals
    go_ret
    exact ⟨ret_bool (by simp_all [floodB] <;> (intros; omega)), rfl⟩
set_option maxHeartbeats 400000 in
theorem hops_any (k : Int) (w : World) : Calls Try.prog 90 #[.int .i64 k] w fun e w' => e = .returned (.bool (hopsB k)) ∧ w = w' := by
  go_enter Try.func90, Try.ntmps90
  go_wp2
  all_goals
    go_ret
    exact ⟨ret_bool (by simp_all [hopsB] <;> (intros; omega)), rfl⟩
set_option maxHeartbeats 400000 in
theorem known_any (k : Int) (w : World) : Calls Try.prog 92 #[.int .i64 k] w fun e w' => e = .returned (.bool (knownB k)) ∧ w = w' := by
  go_enter Try.func92, Try.ntmps92
  go_wp2
  all_goals
    go_ret
    exact ⟨ret_bool (by simp_all [knownB] <;> (intros; omega)), rfl⟩
/-- a number of a node -/
def nodeB (k : Int) : Bool := decide (0 ≤ k) && decide (k < 64)
set_option maxHeartbeats 400000 in
theorem node_any (k : Int) (w : World) : Calls Try.prog 93 #[.int .i64 k] w fun e w' => e = .returned (.bool (nodeB k)) ∧ w = w' := by
  go_enter Try.func93, Try.ntmps93
  go_wp2
  all_goals
    go_ret
    exact ⟨ret_bool (by simp_all [nodeB] <;> (intros; omega)), rfl⟩
/-- the block of a key by value -/
abbrev kv (t f q : Int) : Value := .agg #[.int .i64 t, .int .i64 f, .int .u32 q]
theorem keyB_node (t f : Int) : keyB t f = (decide (0 ≤ t) && decide (t ≤ 1152921504606846976) && nodeB f) := by simp [keyB, nodeB, Bool.and_assoc]
set_option maxHeartbeats 400000 in
theorem keygood_any (t f q : Int) (w : World) : Calls Try.prog 91 #[kv t f q] w fun e w' => e = .returned (.bool (keyB t f)) ∧ Below w.heap.size w w' := by
  have HK := hide (keyB_node t f)
  have hn := hide (node_any f)
  by_cases h0 : 0 ≤ t
  · by_cases h1 : t ≤ 1152921504606846976
    · go_enter Try.func91, Try.ntmps91
      go_wp2_with fail
      refine (hn.out _).mono ?_
      rintro e w' ⟨rfl, rfl⟩
      go_wp2
      go_ret
      exact ⟨ret_bool (by rw [HK.out]; simp [h0, h1]), (Below.refl _ _).alloc (Nat.le_refl _) _⟩
    · have HF := hide (show keyB t f = false by rw [keyB_node]; simp [h1])
      go_enter Try.func91, Try.ntmps91
      go_wp2_with fail
      go_ret
      exact ⟨ret_bool (by rw [HF.out]), (Below.refl _ _).alloc (Nat.le_refl _) _⟩
  · have HF := hide (show keyB t f = false by rw [keyB_node]; simp [h0])
    go_enter Try.func91, Try.ntmps91
    go_wp2_with fail
    go_ret
    exact ⟨ret_bool (by rw [HF.out]), (Below.refl _ _).alloc (Nat.le_refl _) _⟩
set_option maxHeartbeats 400000 in
theorem refflood_any (k : Int) (w : World) : Calls Try.prog 86 #[.int .i64 k] w fun e w' => e = .returned (.bool (floodB k)) ∧ w = w' := by
  go_enter Try.func86, Try.ntmps86
  go_wp2
  all_goals
    go_ret
    exact ⟨ret_bool (by rw [Bool.eq_iff_iff]; simp_all [floodB] <;> omega), rfl⟩
set_option maxHeartbeats 400000 in
theorem refkeygood_any (t f q : Int) (w : World) : Calls Try.prog 87 #[kv t f q] w fun e w' => e = .returned (.bool (keyB t f)) ∧ Below w.heap.size w w' := by
  go_enter Try.func87, Try.ntmps87
  go_wp2
  all_goals
    go_ret
    exact ⟨ret_bool (by rw [Bool.eq_iff_iff]; simp_all [keyB] <;> omega), (Below.refl _ _).alloc (Nat.le_refl _) _⟩
/-- a key without anything -/
def noKey (p : Pkt) : Bool := p.t == 0 && p.frm == 0 && p.seq == 0
/-- whether the head of a packet may be -/
def headB (p : Pkt) : Bool := if floodB p.kind then hopsB p.hops && keyB p.t p.frm else knownB p.kind && p.hops == 0 && noKey p
set_option maxHeartbeats 1000000 in
theorem headgood_any (p : Pkt) (A : Option Addr) (n c : Nat) (w : World) : Calls Try.prog 84 #[pv p A n c] w fun e w' => e = .returned (.bool (headB p)) ∧ Below w.heap.size w w' := by
  go_enter Try.func84, Try.ntmps84
  go_wp2_with (first
    | (go_at_call 89; refine (flood_any _ _).mono ?_; rintro e w' ⟨rfl, rfl⟩)
    | (go_at_call 90; refine (hops_any _ _).mono ?_; rintro e w' ⟨rfl, rfl⟩)
    | (go_at_call 92; refine (known_any _ _).mono ?_; rintro e w' ⟨rfl, rfl⟩)
    | (go_at_call 91; refine (keygood_any _ _ _ _).mono ?_; rintro e w1 ⟨rfl, hbel1⟩))
  all_goals
    go_ret
    refine ⟨ret_bool (by simp_all [headB, noKey]), ?_⟩
    first
      | exact (Below.refl _ _).alloc (Nat.le_refl _) _
      | exact ((Below.refl _ _).alloc (Nat.le_refl _) _).trans (hbel1.mono (by simp))
set_option maxHeartbeats 1000000 in
theorem refheadgood_any (p : Pkt) (A : Option Addr) (n c : Nat) (w : World) : Calls Try.prog 77 #[pv p A n c] w fun e w' => e = .returned (.bool (headB p)) ∧ Below w.heap.size w w' := by
  go_enter Try.func77, Try.ntmps77
  go_wp2_with (first
    | (go_at_call 86; refine (refflood_any _ _).mono ?_; rintro e w' ⟨rfl, rfl⟩)
    | (go_at_call 87; refine (refkeygood_any _ _ _ _).mono ?_; rintro e w1 ⟨rfl, hbel1⟩))
  all_goals
    go_ret
    refine ⟨ret_bool (by rw [Bool.eq_iff_iff]; simp_all [headB, noKey, hopsB, knownB, floodB] <;> (first | omega | (rw [if_neg (by omega)]; omega))), ?_⟩
    first
      | exact (Below.refl _ _).alloc (Nat.le_refl _) _
      | exact ((Below.refl _ _).alloc (Nat.le_refl _) _).trans (hbel1.mono (by simp))
end Go.Proofs.Ytbccbfmgjeknhaa
namespace Go.Proofs.Ytbccbfmgjeknhaa
open Go.RowKit
theorem conv_any {w : World} {A : Option Addr} {l : List UInt8} (c : Nat) (hb : Bytes w A l) : (convert 22 9 (.slice A l.length c)).run Try.prog w = .ok (.string ⟨l.toArray⟩) w :=
  run_conv_bytes Try.underlying22 Try.underlying5 Try.underlying9 c hb
end Go.Proofs.Ytbccbfmgjeknhaa
namespace Go.Proofs.Ytbccbfmgjeknhaa
open Go.RowKit
end Go.Proofs.Ytbccbfmgjeknhaa
