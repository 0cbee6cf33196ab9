/- Whether two packets are the same. -/
import Derived.Test.YtldgnallbkpchaaPkt
namespace Go.Proofs.Ytldgnallbkpchaa
open Go.RowKit
def restB (p q : Pkt) : Bool := p.kind == q.kind && p.hops == q.hops && p.to == q.to && p.index == q.index && p.total == q.total && p.no == q.no && p.stamp == q.stamp && p.value == q.value
def keyEq (p q : Pkt) : Bool := p.t == q.t && p.frm == q.frm && p.seq == q.seq
def sameB (p q : Pkt) : Bool := restB p q && keyEq p q
abbrev restV (p : Pkt) : Value := .agg #[.int .i64 p.kind, .int .i64 p.hops, .int .i64 p.to, .int .i64 p.index, .int .i64 p.total, .int .i64 p.no, .int .i64 p.stamp, .int .i64 p.value]
theorem conv_any {w : World} {A : Option Addr} {l : List UInt8} (c : Nat) (hb : Bytes w A l) : (convert 25 9 (.slice A l.length c)).run Try.prog w = .ok (.string ⟨l.toArray⟩) w :=
  run_conv_bytes Try.underlying25 Try.underlying5 Try.underlying9 c hb
set_option maxHeartbeats 400000 in
theorem rest_any (p : Pkt) (A : Option Addr) (n c : Nat) (w : World) : Calls Try.prog 150 #[pv p A n c] w fun e w' => e = .returned (restV p) ∧ Below w.heap.size w w' := by
  go_enter Try.func150, Try.ntmps150
  go_wp2
  exact bodyPost_ret (v := restV p) (by simp [results, Try.results150, go_sem]) rfl ⟨rfl, ((Below.refl _ _).alloc (Nat.le_refl _) _).alloc (by simp) _⟩
theorem run_eqKey (p q : Pkt) (W : World) : (Op.equalIn 10000 63 (kv p.t p.frm p.seq) (kv q.t q.frm q.seq)).run Try.prog W = .ok (keyEq p q) W := by
  by_cases h1 : p.t = q.t <;> by_cases h2 : p.frm = q.frm <;> by_cases h3 : p.seq = q.seq <;> simp [go_sem, keyEq, h1, h2, h3]
theorem run_eqRest (p q : Pkt) (W : World) : (Op.equalIn 10000 134 (restV p) (restV q)).run Try.prog W = .ok (restB p q) W := by
  by_cases h0 : p.kind = q.kind
  rotate_left
  · simp [go_sem, restB, h0]
  by_cases h1 : p.hops = q.hops
  rotate_left
  · simp [go_sem, restB, h0, h1]
  by_cases h2 : p.to = q.to
  rotate_left
  · simp [go_sem, restB, h0, h1, h2]
  by_cases h3 : p.index = q.index
  rotate_left
  · simp [go_sem, restB, h0, h1, h2, h3]
  by_cases h4 : p.total = q.total
  rotate_left
  · simp [go_sem, restB, h0, h1, h2, h3, h4]
  by_cases h5 : p.no = q.no
  rotate_left
  · simp [go_sem, restB, h0, h1, h2, h3, h4, h5]
  by_cases h6 : p.stamp = q.stamp
  rotate_left
  · simp [go_sem, restB, h0, h1, h2, h3, h4, h5, h6]
  by_cases h7 : p.value = q.value
  rotate_left
  · simp [go_sem, restB, h0, h1, h2, h3, h4, h5, h6, h7]
  simp [go_sem, restB, h0, h1, h2, h3, h4, h5, h6, h7]
set_option maxRecDepth 100000 in
set_option maxHeartbeats 4000000 in
theorem refsame_any (p q : Pkt) (A B : Option Addr) (l m : List UInt8) (c d : Nat) (w : World) (hl : Bytes w A l) (hm : Bytes w B m) :
    Calls Try.prog 61 #[pv p A l.length c, pv q B m.length d] w fun e w' => e = .returned (.bool (sameB p q && l == m)) ∧ Below w.heap.size w w' := by
  have hG2 := fun (o o2 : Obj) => ((Grow.refl w).alloc o).alloc o2
  have hc1 := fun (W : World) (h : Grow w W) => conv_any c (hl.grow h)
  have hc2 := fun (W : World) (h : Grow w W) => conv_any d (hm.grow h)
  have hk := run_eqKey p q
  clear hl hm
  go_enter Try.func61, Try.ntmps61
  go_wp2
  all_goals
    go_ret
    exact ⟨ret_bool (by simp_all [sameB, restB]), hG2 _ _⟩
end Go.Proofs.Ytldgnallbkpchaa
