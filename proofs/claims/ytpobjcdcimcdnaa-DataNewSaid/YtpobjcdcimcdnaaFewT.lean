/- Walks and plain lemmas that several statements share. -/
import Derived.Test.YtpobjcdcimcdnaaFewS
import Derived.Test.YtpobjcdcimcdnaaPulS
import Derived.Test.YtpobjcdcimcdnaaDatS
import Derived.Test.YtpobjcdcimcdnaaPlsS
import Derived.Test.YtpobjcdcimcdnaaPlpS
import Derived.Test.YtpobjcdcimcdnaaAtdS
import Derived.Test.YtpobjcdcimcdnaaFrm
import Derived.Laws.Rows
import Derived.Deep.RegionLaw
import Derived.Laws.OwnMore
import Derived.Deep.QuietTactic
import Derived.BigQuiet
import Derived.Lib.Mul64
namespace Go.Proofs.Ytpobjcdcimcdnaa
open Go.RowKit
end Go.Proofs.Ytpobjcdcimcdnaa
namespace Go.Proofs.Ytpobjcdcimcdnaa
open Go.RowKit
end Go.Proofs.Ytpobjcdcimcdnaa
namespace Go.Proofs.Ytpobjcdcimcdnaa
open Go.RowKit
end Go.Proofs.Ytpobjcdcimcdnaa

namespace Buf
end Buf
namespace Go.Proofs.Ytpobjcdcimcdnaa
open Go.RowKit
section
variable {w w' : World} {B p : Nat} {A : Option Addr} {c : Nat} {e : Int} {b : List UInt8} {most : Int}
end
end Go.Proofs.Ytpobjcdcimcdnaa
namespace Go.Proofs.Ytpobjcdcimcdnaa
open Go.RowKit
section
variable {w w' : World} {g n k : Nat} {f : Nat → Value}
end
end Go.Proofs.Ytpobjcdcimcdnaa
namespace Go.Proofs.Ytpobjcdcimcdnaa
open Go.RowKit
end Go.Proofs.Ytpobjcdcimcdnaa
namespace Go.Proofs.Ytpobjcdcimcdnaa
open Go.RowKit
end Go.Proofs.Ytpobjcdcimcdnaa

namespace Buf
/-! ### written and read back -/
/-! ### what a reader has: the bytes that are left, what is wrong -/
end Buf
namespace Go.Proofs.Ytpobjcdcimcdnaa
open Go.RowKit
section
variable {w w' : World} {N p : Nat} {s : List UInt8 × Int}
end
end Go.Proofs.Ytpobjcdcimcdnaa
namespace Go.Proofs.Ytpobjcdcimcdnaa
open Go.RowKit
end Go.Proofs.Ytpobjcdcimcdnaa
namespace Go.Proofs.Ytpobjcdcimcdnaa
open Go.RowKit
end Go.Proofs.Ytpobjcdcimcdnaa
namespace Go.Proofs.Ytpobjcdcimcdnaa
open Go.RowKit
end Go.Proofs.Ytpobjcdcimcdnaa
namespace Go.Proofs.Ytpobjcdcimcdnaa
open Go.RowKit
end Go.Proofs.Ytpobjcdcimcdnaa

namespace Go.Proofs.Ytpobjcdcimcdnaa
open Go.RowKit
end Go.Proofs.Ytpobjcdcimcdnaa
namespace Go.Proofs.Ytpobjcdcimcdnaa
open Go.RowKit
end Go.Proofs.Ytpobjcdcimcdnaa
namespace Go.Proofs.Ytpobjcdcimcdnaa
open Go.RowKit
end Go.Proofs.Ytpobjcdcimcdnaa

namespace Go.Proofs.Ytpobjcdcimcdnaa
open Go.RowKit
end Go.Proofs.Ytpobjcdcimcdnaa
namespace Go.Proofs.Ytpobjcdcimcdnaa
open Go.RowKit
end Go.Proofs.Ytpobjcdcimcdnaa
namespace Go.Proofs.Ytpobjcdcimcdnaa
open Go.RowKit
end Go.Proofs.Ytpobjcdcimcdnaa
namespace Go.Proofs.Ytpobjcdcimcdnaa
open Go.RowKit
end Go.Proofs.Ytpobjcdcimcdnaa
namespace Go.Proofs.Ytpobjcdcimcdnaa
open Go.RowKit
end Go.Proofs.Ytpobjcdcimcdnaa
namespace Go.Proofs.Ytpobjcdcimcdnaa
open Go.RowKit
theorem same_self (p : Pkt) (w : World) : Calls Try.prog 50 #[pv p none 0 0, pv p none 0 0] w fun e w' => e = .returned (.bool true) ∧ Below w.heap.size w w' := by
  have h := refsame_any p p none none [] [] 0 0 w (Bytes.nil _ _) (Bytes.nil _ _)
  rw [sameB_refl] at h
  exact h
end Go.Proofs.Ytpobjcdcimcdnaa

namespace Go.Proofs.Ytpobjcdcimcdnaa
open Go.RowKit
end Go.Proofs.Ytpobjcdcimcdnaa
namespace Go.Proofs.Ytpobjcdcimcdnaa
open Go.RowKit
end Go.Proofs.Ytpobjcdcimcdnaa

namespace Go.Proofs.Ytpobjcdcimcdnaa
open Go.RowKit
set_option maxRecDepth 100000 in
set_option maxHeartbeats 1000000 in
theorem own_any (A : Option Addr) (l : List UInt8) (c : Nat) (w : World) (hl : Bytes w A l) (hn : l.length ≤ 1000000000000) (hc : l.length ≤ c) :
    Calls Try.prog 111 #[.slice A l.length c] w fun r w' => ∃ A' c', r = .returned (.slice A' l.length c') ∧ Own w' w.heap.size A' c' l ∧ Grow w w' := by
  have HC := hide (fun W h => clone_any A l l.length W h hn)
  go_enter Try.func111, Try.ntmps111
  go_wp2_with fail
  refine (HC.out _ hl).mono ?_
  rintro r w' ⟨A', c', rfl, h1, h2⟩
  go_wp2
  go_ret
  exact ⟨A', c', rfl, h1, h2⟩
end Go.Proofs.Ytpobjcdcimcdnaa
namespace Go.Proofs.Ytpobjcdcimcdnaa
open Go.RowKit
end Go.Proofs.Ytpobjcdcimcdnaa
namespace Go.Proofs.Ytpobjcdcimcdnaa
open Go.RowKit
end Go.Proofs.Ytpobjcdcimcdnaa
namespace Go.Proofs.Ytpobjcdcimcdnaa
open Go.RowKit
end Go.Proofs.Ytpobjcdcimcdnaa
namespace Go.Proofs.Ytpobjcdcimcdnaa
open Go.RowKit
set_option maxRecDepth 100000 in
set_option maxHeartbeats 2000000 in
theorem datanew_any (t f q : Int) (A : Option Addr) (l : List UInt8) (c : Nat) (w : World) (hl : Bytes w A l) (hn : l.length ≤ 1000000000000) (hc : l.length ≤ c) :
    Calls Try.prog 53 #[kv t f q, .slice A l.length c] w fun r w' => ∃ A' c', r = .returned (pv (dataP t f q 1) A' l.length c') ∧ Own w' w.heap.size A' c' l ∧ Grow w w' := by
  have hO := hide (fun W h => own_any A l c W h hn hc)
  go_enter Try.func53, Try.ntmps53
  go_wp2_with fail
  generalize hW1 : World.alloc (World.alloc w _) _ = w1
  have hb1 := Grow.of_eq hW1
  clear hW1
  obtain ⟨k0, q0, hg1⟩ := peel2 hb1
  have k0_ := hide k0
  clear k0
  have k0 := k0_
  clear k0_
  have q0_ := hide q0
  clear q0
  have q0 := q0_
  clear q0_
  have hl := hl.grow hg1
  have HG1 := hide (show Grow w w1 from hg1)
  clear hb1 hg1
  obtain ⟨ck0, fk0, lk0⟩ := (show Box w1 _ _ from k0.out).rules
  obtain ⟨cq0, fq0, lq0⟩ := (show Box w1 _ _ from q0.out).rules
  have hlow := lq0
  have Rk0 := fun (W : World) (h : Grow w1.drew W) => ((show Box w1 _ _ from k0.out).grow (Grow.of_drew h)).cell
  have Fk0 := fun (W : World) (h : Grow w1.drew W) => ((show Box w1 _ _ from k0.out).grow (Grow.of_drew h)).fz
  have Rq0 := fun (W : World) (h : Grow w1.drew W) => ((show Box w1 _ _ from q0.out).grow (Grow.of_drew h)).cell
  have Fq0 := fun (W : World) (h : Grow w1.drew W) => ((show Box w1 _ _ from q0.out).grow (Grow.of_drew h)).fz
  refine wpR_region (Grow) [4] (by kernel_rfl) ?_
  refine wpR_take grow_rf grow_tr 0 rfl (by kernel_rfl) (fun _ _ _ h => h) rfl (v := ?_) ?_ ?_
  rotate_left
  · (intro w' hG; go_simp; try with_reducible rfl)
  try simp only [Act.put, List.setIfInBounds_toArray, List.set_cons_zero, List.set_cons_succ]
  refine wpR_take grow_rf grow_tr 1 rfl (by kernel_rfl) (fun _ _ _ h => h) rfl (v := ?_) ?_ ?_
  rotate_left
  · (intro w' hG; go_simp; try with_reducible rfl)
  try simp only [Act.put, List.setIfInBounds_toArray, List.set_cons_zero, List.set_cons_succ]
  refine wpR_call 2 rfl (by kernel_rfl) rfl fun K hK => ?_
  go_simp
  refine (hO.out _ hl.drew).mono ?_
  rintro r w2 ⟨A1, c1, rfl, hown, hb2⟩
  have hlt := fun q h => hown.lt (q := q) h
  have hge := fun q h => hown.base (q := q) h
  refine hK.out _ _ (.inr (hb2)) ?_
  clear hK
  try simp only [Act.put, List.setIfInBounds_toArray, List.set_cons_zero, List.set_cons_succ]
  clear Rk0 Fk0 Rq0 Fq0
  have hb2 := Grow.of_drew hb2
  clear ck0 fk0 lk0 cq0 fq0 lq0
  have hg2 := hb2
  have k0_ := hide ((show Box w1 _ _ from k0.out).grow hg2)
  clear k0
  have k0 := k0_
  clear k0_
  have q0_ := hide ((show Box w1 _ _ from q0.out).grow hg2)
  clear q0
  have q0 := q0_
  clear q0_
  have hl := hl.grow hg2
  have HG2 := hide (Grow.trans (show Grow w w1 from HG1.out) hg2)
  clear HG1
  clear hb2 hg2
  obtain ⟨ck0, fk0, lk0⟩ := (show Box w2 _ _ from k0.out).rules
  obtain ⟨cq0, fq0, lq0⟩ := (show Box w2 _ _ from q0.out).rules
  have Rk0 := fun (W : World) (h : Grow w2 W) => ((show Box w2 _ _ from k0.out).grow h).cell
  have Fk0 := fun (W : World) (h : Grow w2 W) => ((show Box w2 _ _ from k0.out).grow h).fz
  have Rq0 := fun (W : World) (h : Grow w2 W) => ((show Box w2 _ _ from q0.out).grow h).cell
  have Fq0 := fun (W : World) (h : Grow w2 W) => ((show Box w2 _ _ from q0.out).grow h).fz
  refine wpR_take grow_rf grow_tr 3 rfl (by kernel_rfl) (fun _ _ _ h => h) rfl (v := ?_) ?_ ?_
  rotate_left
  · (intro w' hG; go_simp; try with_reducible rfl)
  try simp only [Act.put, List.setIfInBounds_toArray, List.set_cons_zero, List.set_cons_succ]
  refine wpR_call 4 rfl (by kernel_rfl) rfl fun K hK => ?_
  go_simp
  skip
  refine hK.out _ _ (.inl (by simp)) ?_
  clear hK
  try simp only [Act.put, List.setIfInBounds_toArray, List.set_cons_zero, List.set_cons_succ]
  refine wpR_done (by kernel_rfl) ?_ _
  clear Rk0 Fk0 Rq0 Fq0
  go_wp2
  refine bodyPost_ret (v := pv (dataP t f q 1) A1 l.length c1) (by simp [results, Try.results53, go_sem, cq0]) rfl ?_
  refine ⟨A1, c1, rfl, ?_, ?_⟩
  · repeat ((with_reducible refine Own.setAt ?_ ?_ _); rotate_left; · (intro q h; have h1 := hge q h; have h2 : w.heap.size + 1 < q := Nat.lt_of_lt_of_le hlow h1; simp; omega))
    exact hown.mono (Nat.le_trans (Nat.le_succ _) (Nat.le_of_lt hlow))
  · show Below w.heap.size w _
    repeat (with_reducible refine Below.setCell ?_ (by simp) _)
    exact HG2.out
/-- an entry -/
abbrev ev (a t f q : Int) (A : Option Addr) (n c : Nat) : Value := .agg #[.int .i64 a, .int .i64 t, .int .i64 f, .int .u32 q, .slice A n c]
set_option maxRecDepth 100000 in
set_option maxHeartbeats 2000000 in
theorem entry_ok (p : Pkt) (A : Option Addr) (l : List UInt8) (c : Nat) (d : Int) (w : World) (hl : Bytes w A l) (hn : l.length ≤ 1000000000000) (h : dataB p l.length = true) (h0 : 0 ≤ d) (h1 : d ≤ 1152921504606846976 - p.t) (hc : l.length ≤ c) :
    Calls Try.prog 113 #[pv p A l.length c, .int .i64 d] w fun r w' => (∃ A1 c1, r = .returned (.tuple #[ev (p.t + d) p.t p.frm p.seq A1 l.length c1, .int .i64 0]) ∧ Own w' w.heap.size A1 c1 l) ∧ Grow w w' := by
  have ht0 : 0 ≤ p.t ∧ p.t ≤ 1152921504606846976 := by
    simp only [dataB, Bool.and_eq_true, beq_iff_eq] at h
    obtain ⟨⟨⟨h1, h2⟩, _⟩, _⟩ := h
    unfold headB at h2
    rw [if_pos (by simp [floodB, h1])] at h2
    simp [keyB] at h2
    omega
  obtain ⟨ht1, ht2⟩ := ht0
  have HG := hide (fun W => datagood_any p A l.length c W hn)
  rw [h] at HG
  clear h
  have hO := hide (fun W h => own_any A l c W h hn hc)
  go_enter Try.func113, Try.ntmps113
  go_wp2_with fail
  refine (HG.out _).mono ?_
  rintro r w1 ⟨rfl, hb1⟩
  obtain ⟨p0, q0, hg1⟩ := peel2 hb1
  have p0_ := hide p0
  clear p0
  have p0 := p0_
  clear p0_
  have q0_ := hide q0
  clear q0
  have q0 := q0_
  clear q0_
  have hl := hl.grow hg1
  have HG1 := hide (show Grow w w1 from hg1)
  clear hb1 hg1
  obtain ⟨cp0, fp0, lp0⟩ := (show Box w1 _ _ from p0.out).rules
  obtain ⟨cq0, fq0, lq0⟩ := (show Box w1 _ _ from q0.out).rules
  have hlow := lq0
  have hw : IntKind.i64.wrap (p.t + d) = p.t + d := IntWalk.i64_in _ (by omega)
  go_wp2_with fail
  have Rp0 := fun (W : World) (h : Grow w1.drew W) => ((show Box w1 _ _ from p0.out).grow (Grow.of_drew h)).cell
  have Fp0 := fun (W : World) (h : Grow w1.drew W) => ((show Box w1 _ _ from p0.out).grow (Grow.of_drew h)).fz
  have Rq0 := fun (W : World) (h : Grow w1.drew W) => ((show Box w1 _ _ from q0.out).grow (Grow.of_drew h)).cell
  have Fq0 := fun (W : World) (h : Grow w1.drew W) => ((show Box w1 _ _ from q0.out).grow (Grow.of_drew h)).fz
  refine wpR_region (Grow) [11] (by kernel_rfl) ?_
  refine wpR_take grow_rf grow_tr 0 rfl (by kernel_rfl) (fun _ _ _ h => h) rfl (v := ?_) ?_ ?_
  rotate_left
  · (intro w' hG; go_simp; try with_reducible rfl)
  try simp only [Act.put, List.setIfInBounds_toArray, List.set_cons_zero, List.set_cons_succ]
  refine wpR_take grow_rf grow_tr 1 rfl (by kernel_rfl) (fun _ _ _ h => h) rfl (v := ?_) ?_ ?_
  rotate_left
  · (intro w' hG; go_simp; try with_reducible rfl)
  try simp only [Act.put, List.setIfInBounds_toArray, List.set_cons_zero, List.set_cons_succ]
  refine wpR_take grow_rf grow_tr 2 rfl (by kernel_rfl) (fun _ _ _ h => h) rfl (v := ?_) ?_ ?_
  rotate_left
  · (intro w' hG; go_simp; try with_reducible rfl)
  try simp only [Act.put, List.setIfInBounds_toArray, List.set_cons_zero, List.set_cons_succ]
  refine wpR_take grow_rf grow_tr 3 rfl (by kernel_rfl) (fun _ _ _ h => h) rfl (v := ?_) ?_ ?_
  rotate_left
  · (intro w' hG; go_simp; try with_reducible rfl)
  try simp only [Act.put, List.setIfInBounds_toArray, List.set_cons_zero, List.set_cons_succ]
  refine wpR_take grow_rf grow_tr 4 rfl (by kernel_rfl) (fun _ _ _ h => h) rfl (v := ?_) ?_ ?_
  rotate_left
  · (intro w' hG; go_simp; try with_reducible rfl)
  try simp only [Act.put, List.setIfInBounds_toArray, List.set_cons_zero, List.set_cons_succ]
  refine wpR_take grow_rf grow_tr 5 rfl (by kernel_rfl) (fun _ _ _ h => h) rfl (v := ?_) ?_ ?_
  rotate_left
  · (intro w' hG; go_simp; try with_reducible rfl)
  try simp only [Act.put, List.setIfInBounds_toArray, List.set_cons_zero, List.set_cons_succ]
  refine wpR_take grow_rf grow_tr 6 rfl (by kernel_rfl) (fun _ _ _ h => h) rfl (v := ?_) ?_ ?_
  rotate_left
  · (intro w' hG; go_simp; try with_reducible rfl)
  try simp only [Act.put, List.setIfInBounds_toArray, List.set_cons_zero, List.set_cons_succ]
  refine wpR_take grow_rf grow_tr 7 rfl (by kernel_rfl) (fun _ _ _ h => h) rfl (v := ?_) ?_ ?_
  rotate_left
  · (intro w' hG; go_simp; try with_reducible rfl)
  try simp only [Act.put, List.setIfInBounds_toArray, List.set_cons_zero, List.set_cons_succ]
  refine wpR_take grow_rf grow_tr 8 rfl (by kernel_rfl) (fun _ _ _ h => h) rfl (v := ?_) ?_ ?_
  rotate_left
  · (intro w' hG; go_simp; try with_reducible rfl)
  try simp only [Act.put, List.setIfInBounds_toArray, List.set_cons_zero, List.set_cons_succ]
  refine wpR_call 9 rfl (by kernel_rfl) rfl fun K hK => ?_
  go_simp
  refine (hO.out _ hl.drew).mono ?_
  rintro r w2 ⟨A1, c1, rfl, hown, hb2⟩
  have hlt := fun q h => hown.lt (q := q) h
  have hge := fun q h => hown.base (q := q) h
  refine hK.out _ _ (.inr (hb2)) ?_
  clear hK
  try simp only [Act.put, List.setIfInBounds_toArray, List.set_cons_zero, List.set_cons_succ]
  clear Rp0 Fp0 Rq0 Fq0
  have hb2 := Grow.of_drew hb2
  clear cp0 fp0 lp0 cq0 fq0 lq0
  have hg2 := hb2
  have p0_ := hide ((show Box w1 _ _ from p0.out).grow hg2)
  clear p0
  have p0 := p0_
  clear p0_
  have q0_ := hide ((show Box w1 _ _ from q0.out).grow hg2)
  clear q0
  have q0 := q0_
  clear q0_
  have hl := hl.grow hg2
  have HG2 := hide (Grow.trans (show Grow w w1 from HG1.out) hg2)
  clear HG1
  clear hb2 hg2
  obtain ⟨cp0, fp0, lp0⟩ := (show Box w2 _ _ from p0.out).rules
  obtain ⟨cq0, fq0, lq0⟩ := (show Box w2 _ _ from q0.out).rules
  have Rp0 := fun (W : World) (h : Grow w2 W) => ((show Box w2 _ _ from p0.out).grow h).cell
  have Fp0 := fun (W : World) (h : Grow w2 W) => ((show Box w2 _ _ from p0.out).grow h).fz
  have Rq0 := fun (W : World) (h : Grow w2 W) => ((show Box w2 _ _ from q0.out).grow h).cell
  have Fq0 := fun (W : World) (h : Grow w2 W) => ((show Box w2 _ _ from q0.out).grow h).fz
  refine wpR_take grow_rf grow_tr 10 rfl (by kernel_rfl) (fun _ _ _ h => h) rfl (v := ?_) ?_ ?_
  rotate_left
  · (intro w' hG; go_simp; try with_reducible rfl)
  try simp only [Act.put, List.setIfInBounds_toArray, List.set_cons_zero, List.set_cons_succ]
  refine wpR_call 11 rfl (by kernel_rfl) rfl fun K hK => ?_
  go_simp
  skip
  refine hK.out _ _ (.inl (by simp)) ?_
  clear hK
  try simp only [Act.put, List.setIfInBounds_toArray, List.set_cons_zero, List.set_cons_succ]
  refine wpR_take grow_rf grow_tr 12 rfl (by kernel_rfl) (fun _ _ _ h => h) rfl (v := ?_) ?_ ?_
  rotate_left
  · (intro w' hG; go_simp; try with_reducible rfl)
  try simp only [Act.put, List.setIfInBounds_toArray, List.set_cons_zero, List.set_cons_succ]
  refine wpR_done (by kernel_rfl) ?_ _
  clear Rp0 Fp0 Rq0 Fq0
  go_wp2
  refine bodyPost_ret (v := (.tuple #[ev (p.t + d) p.t p.frm p.seq A1 l.length c1, .int .i64 0])) (by simp [results, Try.results113, go_sem, cq0]) rfl ?_
  refine ⟨⟨A1, c1, rfl, ?_⟩, ?_⟩
  · repeat ((with_reducible refine Own.setAt ?_ ?_ _); rotate_left; · (intro q h; have h1 := hge q h; have h2 : w.heap.size + 1 < q := Nat.lt_of_lt_of_le hlow h1; simp; omega))
    exact hown.mono (Nat.le_trans (Nat.le_succ _) (Nat.le_of_lt hlow))
  · show Below w.heap.size w _
    repeat (with_reducible refine Below.setCell ?_ (by simp) _)
    exact HG2.out
end Go.Proofs.Ytpobjcdcimcdnaa
namespace Go.Proofs.Ytpobjcdcimcdnaa
open Go.RowKit
theorem ex10 : dataB (dataP 5 1 2 1) 2 = true := by decide
theorem exS10 : Buf.wput 9 (0, []) (Buf.sevens ([104, 105] : List UInt8).length ++ [104, 105]) = (0, [2, 104, 105]) := by decide +kernel
set_option maxRecDepth 100000 in
set_option maxHeartbeats 2000000 in
theorem works10_any (w : World) : Calls Try.prog 56 #[] w fun e w' => e = .returned (.bool true) ∧ Grow w w' := by
  have hN := hide (datanew_any 5 1 2 (some ⟨w.heap.size, 0, none⟩) [104, 105] 2 _ (Bytes.lit w [104, 105] #[.int .u8 104, .int .u8 105] 5 (2, 3) rfl) (by simp) (by simp))
  have hG := hide (fun (A : Option Addr) (c : Nat) W => datagood_any (dataP 5 1 2 1) A 2 c W (by omega))
  rw [ex10] at hG
  have kc := fun (w : World) (C : Array Value) (n c : Nat) => Lib.run_convert_bytes_const (P := Try.prog) w 25 5 C n c Try.underlying25 Try.underlying5
  go_enter Try.func56, Try.ntmps56
  go_wp2_with fail
  refine hN.out.mono ?_
  rintro r w1 ⟨A1, c1, rfl, hown, hb1⟩
  have hl := hown.bytes
  have hle := hown.le
  have hlt1 := fun q h => hown.lt (q := q) h
  clear hown hN
  have hb1 := Grow.trans ((Grow.refl w).alloc _) hb1
  have hg1 := hb1
  have HG1 := hide (show Grow w w1 from hg1)
  have hsz1 : w.heap.size ≤ w1.heap.size := HG1.out.size
  clear hb1 hg1
  go_wp2_with fail
  refine (new_at 9 (w1.heap.size + 1) _ (by decide) (by decide) (by simp)).mono ?_
  rintro r w2 ⟨rfl, hwr, hb2⟩
  obtain ⟨p0, hg2⟩ := peel1 hb2
  have p0_ := hide p0
  clear p0
  have p0 := p0_
  clear p0_
  have hl := hl.grow hg2
  have HG2 := hide (Grow.trans (show Grow w w1 from HG1.out) hg2)
  clear HG1
  have hsz2 : w.heap.size ≤ w2.heap.size := HG2.out.size
  clear hb2 hg2
  obtain ⟨cp0, fp0, lp0⟩ := (show Box w2 _ _ from p0.out).rules
  go_wp2_with fail
  have hlo : ∀ q, blk A1 = some q → q ∉ [w1.heap.size + 1] := fun q hq => by have := hlt1 q hq; simp; omega
  refine (dataput_any _ _ none 0 0 [] 9 (dataP 5 1 2 1) A1 [104, 105] c1 _ hwr hl (by simp) (by simp) (by have := hwr.lt; omega) (by simp [blk])).mono ?_
  rw [exS10]
  rintro r w3 ⟨rfl, A3, c3, hwr3, hb3, _⟩
  simp only [foot, blk, Option.map_none, Option.toList_none] at hb3
  clear cp0 fp0 lp0
  have hg3 := hb3
  have p0_ := hide ((show Box w2 _ _ from p0.out).kept hg3 (by simp; try omega))
  clear p0
  have p0 := p0_
  clear p0_
  have hl := hl.kept hg3 hlo
  have HG3 := hide (Kept.fresh1 hg3 (show Grow w w2 from HG2.out) (by omega))
  clear HG2
  have hsz3 : w.heap.size ≤ w3.heap.size := HG3.out.size
  clear hb3 hg3
  obtain ⟨cp0, fp0, lp0⟩ := (show Box w3 _ _ from p0.out).rules
  go_wp2_with fail
  refine (done_ok _ _ A3 c3 _ 9 _ hwr3 (by simp)).mono ?_
  rintro r w4 ⟨A4, c4, rfl, hown4, hb4⟩
  have hl4 := hown4.bytes
  clear hwr hwr3 hown4
  clear cp0 fp0 lp0
  have hg4 := hb4
  have p0_ := hide ((show Box w3 _ _ from p0.out).grow hg4)
  clear p0
  have p0 := p0_
  clear p0_
  have hl := hl.grow hg4
  have HG4 := hide (Grow.trans (show Grow w w3 from HG3.out) hg4)
  clear HG3
  have hsz4 : w.heap.size ≤ w4.heap.size := HG4.out.size
  clear hb4 hg4
  obtain ⟨cp0, fp0, lp0⟩ := (show Box w4 _ _ from p0.out).rules
  go_wp2_with fail
  refine (entry_ok (dataP 5 1 2 1) A1 [104, 105] c1 10 _ hl (by simp) ex10 (by decide) (by decide) hle.1).mono ?_
  rintro r w5 ⟨⟨A5, c5, rfl, hown5⟩, hb5⟩
  have hl5 := hown5.bytes
  clear hown5
  clear cp0 fp0 lp0
  have hg5 := hb5
  have p0_ := hide ((show Box w4 _ _ from p0.out).grow hg5)
  clear p0
  have p0 := p0_
  clear p0_
  have hl := hl.grow hg5
  have hl4 := hl4.grow hg5
  have HG5 := hide (Grow.trans (show Grow w w4 from HG4.out) hg5)
  clear HG4
  have hsz5 : w.heap.size ≤ w5.heap.size := HG5.out.size
  clear hb5 hg5
  obtain ⟨cp0, fp0, lp0⟩ := (show Box w5 _ _ from p0.out).rules
  have vhl4 : ∀ o, (convert 25 9 (.slice A4 3 c4)).run Try.prog (World.alloc w5 o) = .ok (.string ⟨#[2, 104, 105]⟩) (World.alloc w5 o) := fun o => conv_any c4 (hl4.alloc o)
  have vhl5 : ∀ o, (convert 25 9 (.slice A5 2 c5)).run Try.prog (World.alloc w5 o) = .ok (.string ⟨#[104, 105]⟩) (World.alloc w5 o) := fun o => conv_any c5 (hl5.alloc o)
  go_wp2_with fail
  refine (hG.out _ _ _).mono ?_
  rintro r w6 ⟨rfl, hb6⟩
  clear cp0 fp0 lp0
  obtain ⟨x0, hg6⟩ := peel1 hb6
  have p0_ := hide ((show Box w5 _ _ from p0.out).grow hg6)
  clear p0
  have p0 := p0_
  clear p0_
  have x0_ := hide x0
  clear x0
  have x0 := x0_
  clear x0_
  have hl := hl.grow hg6
  have hl4 := hl4.grow hg6
  have hl5 := hl5.grow hg6
  have HG6 := hide (Grow.trans (show Grow w w5 from HG5.out) hg6)
  clear HG5
  have hsz6 : w.heap.size ≤ w6.heap.size := HG6.out.size
  clear hb6 hg6
  obtain ⟨cp0, fp0, lp0⟩ := (show Box w6 _ _ from p0.out).rules
  obtain ⟨cx0, fx0, lx0⟩ := (show Box w6 _ _ from x0.out).rules
  go_wp2
  go_ret
  exact ⟨rfl, HG6.out⟩
end Go.Proofs.Ytpobjcdcimcdnaa

namespace Go.Proofs.Ytpobjcdcimcdnaa
open Go.RowKit
end Go.Proofs.Ytpobjcdcimcdnaa
namespace Go.Proofs.Ytpobjcdcimcdnaa
open Go.RowKit
end Go.Proofs.Ytpobjcdcimcdnaa
namespace Go.Proofs.Ytpobjcdcimcdnaa
open Go.RowKit
end Go.Proofs.Ytpobjcdcimcdnaa

namespace Go.Proofs.Ytpobjcdcimcdnaa
open Go.RowKit
end Go.Proofs.Ytpobjcdcimcdnaa
namespace Go.Proofs.Ytpobjcdcimcdnaa
open Go.RowKit
end Go.Proofs.Ytpobjcdcimcdnaa
namespace Go.Proofs.Ytpobjcdcimcdnaa
open Go.RowKit
end Go.Proofs.Ytpobjcdcimcdnaa

namespace Go.Proofs.Ytpobjcdcimcdnaa
open Go.RowKit
end Go.Proofs.Ytpobjcdcimcdnaa
namespace Go.Proofs.Ytpobjcdcimcdnaa
open Go.RowKit
end Go.Proofs.Ytpobjcdcimcdnaa

namespace Go.Proofs.Ytpobjcdcimcdnaa
open Go.RowKit
end Go.Proofs.Ytpobjcdcimcdnaa
namespace Go.Proofs.Ytpobjcdcimcdnaa
open Go.RowKit
theorem mask32 (a : Nat) (ha : a < 18446744073709551616) : bits .and .u64 (a : Int) 4294967295 = ((a % 4294967296 : Nat) : Int) := by
  have h := u64_and_nat a 4294967295 ha (by omega)
  rw [show a &&& 4294967295 = a % 4294967296 from Nat.and_two_pow_sub_one_eq_mod a 32] at h
  exact h
theorem divN (a : Nat) : (a : Int) / 4294967296 = ((a / 4294967296 : Nat) : Int) := by omega
theorem mulN (a b : Nat) : (a : Int) * (b : Int) = ((a * b : Nat) : Int) := (Int.natCast_mul a b).symm
theorem addN (a b : Nat) : (a : Int) + (b : Int) = ((a + b : Nat) : Int) := (Int.natCast_add a b).symm
theorem wrapN (a : Nat) (ha : a < 18446744073709551616) : IntKind.u64.wrap (a : Int) = (a : Int) := by rw [IntKind.wrap_u64]; omega
theorem wrapM (a : Nat) : IntKind.u64.wrap (a : Int) = ((a % 18446744073709551616 : Nat) : Int) := by rw [IntKind.wrap_u64]; omega
set_option maxRecDepth 100000 in
set_option maxHeartbeats 1000000 in
theorem mul64_any (x y : Nat) (hx : Hid (x < 18446744073709551616)) (hy : Hid (y < 18446744073709551616)) (w : World) :
    Calls Try.prog 139 #[.int .u64 x, .int .u64 y] w fun e w' => e = .returned (.tuple #[.int .u64 ((x * y / 18446744073709551616 : Nat) : Int), .int .u64 ((x * y % 18446744073709551616 : Nat) : Int)]) ∧ w = w' := by
  obtain ⟨bd, bt, bw, hhi⟩ := Lib.mul64_hi x y hx.out hy.out
  have BD := hide bd
  have BT := hide bt
  have BW := hide bw
  have HHI := hide hhi
  clear bd bt bw hhi
  go_enter Try.func139, Try.ntmps139
  go_wp2
  have hx' := hx.out
  have hy' := hy.out
  have bd := BD.out
  have bt := BT.out
  have bw := BW.out
  have ba := Lib.half_mul_le (a := x / 4294967296) (b := y / 4294967296) (by omega) (by omega)
  have bb := Lib.half_mul_le (a := x / 4294967296) (b := y % 4294967296) (by omega) (by omega)
  have bc := Lib.half_mul_le (a := x % 4294967296) (b := y / 4294967296) (by omega) (by omega)
  have ba' : x / 4294967296 * (y / 4294967296) < 18446744073709551616 := by omega
  have bb' : x / 4294967296 * (y % 4294967296) < 18446744073709551616 := by omega
  have bc' : x % 4294967296 * (y / 4294967296) < 18446744073709551616 := by omega
  have bh1 : x / 4294967296 * (y / 4294967296) + (x / 4294967296 * (y % 4294967296) + x % 4294967296 * (y % 4294967296) / 4294967296) / 4294967296 < 18446744073709551616 := by omega
  have bh : x / 4294967296 * (y / 4294967296) + (x / 4294967296 * (y % 4294967296) + x % 4294967296 * (y % 4294967296) / 4294967296) / 4294967296 + ((x / 4294967296 * (y % 4294967296) + x % 4294967296 * (y % 4294967296) / 4294967296) % 4294967296 + x % 4294967296 * (y / 4294967296)) / 4294967296 < 18446744073709551616 := by omega
  simp only [mask32 x hx', mask32 y hy', divN, mulN, addN, wrapN _ bd, wrapN _ bb', wrapN _ bt, mask32 _ bt, wrapN _ bc', wrapN _ bw, wrapN _ ba', wrapN _ bh1, wrapN _ bh, wrapM (x * y)]
  rw [HHI.out]
  go_ret2
  exact ⟨rfl, rfl⟩
/-- when an attendance is due -/
def dueB (n e : Int) : Bool := decide (0 ≤ n) && decide (0 ≤ e) && decide (n * e ≤ 1152921504606846976)
def dueR (n e : Int) : Value := .tuple #[.int .i64 (if dueB n e then n * e else 0), .bool (dueB n e)]
theorem dueR_no {n e : Int} (h : dueB n e = false) : dueR n e = .tuple #[.int .i64 0, .bool false] := by unfold dueR; rw [h]; rfl
theorem dueR_yes {n e : Int} (h : dueB n e = true) : dueR n e = .tuple #[.int .i64 (n * e), .bool true] := by unfold dueR; rw [h]; rfl
set_option maxRecDepth 100000 in
set_option maxHeartbeats 1000000 in
theorem due_any (n e : Int) (w : World) (hn : Hid (n ≤ 9223372036854775807)) (he : Hid (e ≤ 9223372036854775807)) :
    Calls Try.prog 117 #[.int .i64 n, .int .i64 e] w fun r w' => r = .returned (dueR n e) ∧ Grow w w' := by
  by_cases h0 : 0 ≤ n
  · by_cases h1 : 0 ≤ e
    · obtain ⟨a, rfl⟩ := Int.eq_ofNat_of_zero_le h0
      obtain ⟨b, rfl⟩ := Int.eq_ofNat_of_zero_le h1
      have hM := hide (fun W => mul64_any a b (hide (by have := hn.out; omega)) (hide (by have := he.out; omega)) W)
      have hd : dueB (a : Int) (b : Int) = decide (a * b ≤ 1152921504606846976) := by
        unfold dueB
        rw [Bool.eq_iff_iff]
        simp [← Int.natCast_mul]
        omega
      have hpr : ((a : Int) * (b : Int)) = ((a * b : Nat) : Int) := (Int.natCast_mul a b).symm
      generalize hP : a * b = P at *
      have HP := hide hpr
      clear hpr hP h0 h1
      have ha : (a : Int) ≤ 9223372036854775807 := hn.out
      have hb : (b : Int) ≤ 9223372036854775807 := he.out
      by_cases hs : P ≤ 1152921504606846976
      · have HR := hide (dueR_yes (n := (a : Int)) (e := (b : Int)) (by rw [hd]; simpa using hs))
        have e1 : P / 18446744073709551616 = 0 := by omega
        have e2 : P % 18446744073709551616 = P := by omega
        rw [e1, e2] at hM
        clear hd e1 e2
        go_enter Try.func117, Try.ntmps117
        go_wp2_with fail
        refine (hM.out _).mono ?_
        rintro r w' ⟨rfl, rfl⟩
        go_wp2
        go_ret2
        rw [HR.out, HP.out]
        exact ⟨rfl, Grow.refl w⟩
      · have HR := hide (dueR_no (n := (a : Int)) (e := (b : Int)) (by rw [hd]; simpa using hs))
        clear hd
        by_cases hz : P / 18446744073709551616 = 0
        · have e2 : P % 18446744073709551616 = P := by omega
          rw [hz, e2] at hM
          have hs2 : 1152921504606846976 < P := by omega
          clear hz e2 hs
          go_enter Try.func117, Try.ntmps117
          go_wp2_with fail
          refine (hM.out _).mono ?_
          rintro r w' ⟨rfl, rfl⟩
          go_wp2
          go_ret2
          rw [HR.out]
          exact ⟨rfl, Grow.refl w⟩
        · generalize P / 18446744073709551616 = Q at *
          generalize P % 18446744073709551616 = R at *
          have hq : ((Q : Int) != 0) = true := by simpa using hz
          clear hz hs
          go_enter Try.func117, Try.ntmps117
          go_wp2_with fail
          refine (hM.out _).mono ?_
          rintro r w' ⟨rfl, rfl⟩
          go_wp2
          go_ret2
          rw [HR.out]
          exact ⟨rfl, Grow.refl w⟩
    · have HR := hide (dueR_no (n := n) (e := e) (by simp [dueB, h1]))
      go_enter Try.func117, Try.ntmps117
      go_wp2
      go_ret2
      rw [HR.out]
      exact ⟨rfl, Grow.refl w⟩
  · have HR := hide (dueR_no (n := n) (e := e) (by simp [dueB, h0]))
    go_enter Try.func117, Try.ntmps117
    go_wp2
    go_ret2
    rw [HR.out]
    exact ⟨rfl, Grow.refl w⟩
end Go.Proofs.Ytpobjcdcimcdnaa
namespace Go.Proofs.Ytpobjcdcimcdnaa
open Go.RowKit
/-- one more that is there -/
def whoAdd (no : Int) (s : Nat) (x : PB) : Nat := if attB x.p x.l && x.p.no == no then s ||| 2 ^ x.p.frm.toNat else s
/-- who is there -/
def whoOf (no : Int) (L : List PB) : Nat := L.foldl (whoAdd no) 0
theorem attB_frm (p : Pkt) (l : List UInt8) (h : attB p l = true) : 0 ≤ p.frm ∧ p.frm < 64 := by
  rw [att_key] at h
  simp [keyB] at h
  omega
theorem whoAdd_lt (no : Int) (s : Nat) (x : PB) (h : s < 18446744073709551616) : whoAdd no s x < 18446744073709551616 := by
  unfold whoAdd
  split
  · rename_i hc
    simp only [Bool.and_eq_true] at hc
    have hf := attB_frm _ _ hc.1
    have h1 : 2 ^ x.p.frm.toNat < 2 ^ 64 := Nat.pow_lt_pow_right (by omega) (by omega)
    exact Nat.or_lt_two_pow (n := 64) h h1
  · exact h
theorem whoOf_lt (no : Int) (L : List PB) : whoOf no L < 18446744073709551616 := by
  have : ∀ (L : List PB) s, s < 18446744073709551616 → L.foldl (whoAdd no) s < 18446744073709551616 := by
    intro L
    induction L with
    | nil => intro s h; exact h
    | cons x L ih => intro s h; exact ih _ (whoAdd_lt no s x h)
  exact this L 0 (by decide)
theorem whoOf_snoc (no : Int) (L : List PB) (k : Nat) (h : k < L.length) : whoOf no (L.take (k + 1)) = whoAdd no (whoOf no (L.take k)) L[k] := by
  unfold whoOf
  rw [List.take_succ_eq_append_getElem h, List.foldl_append]
  rfl
theorem or_bit (s i : Nat) (hs : s < 18446744073709551616) (hi : i < 64) : bits .or .u64 (s : Int) (IntKind.u64.wrap ((2 : Int) ^ i)) = ((s ||| 2 ^ i : Nat) : Int) := by
  have h1 : (2 : Nat) ^ i < 2 ^ 64 := Nat.pow_lt_pow_right (by omega) hi
  have e : (2 : Int) ^ i = ((2 ^ i : Nat) : Int) := by simp
  rw [e]
  generalize (2 ^ i : Nat) = X at *
  rw [IntKind.wrap_u64, show (X : Int) % 18446744073709551616 = (X : Int) by omega]
  exact u64_or_nat _ _ hs (by omega)
set_option maxRecDepth 100000 in
set_option maxHeartbeats 2000000 in
theorem who_any (no : Int) (A : Option Addr) (L : List PB) (c : Nat) (w : World) (hL : Pks w A L) (hm : L.length ≤ 9223372036854775807) :
    Calls Try.prog 63 #[.int .i64 no, .slice A L.length c] w fun r w' => r = .returned (.int .u64 (whoOf no L : Nat)) ∧ Grow w w' := by
  go_enter Try.func63, Try.ntmps63
  go_wp2
  go_loopw [5, 10] (fun s i wr => ∃ k : Nat, k ≤ L.length ∧ i = .int .i64 k ∧ s = .int .u64 (whoOf no (L.take k) : Nat) ∧ Grow w wr) (fun _ i _ => L.length - (intOf i).toNat)
  case atStart => exact ⟨0, by omega, rfl, rfl, Grow.refl w⟩
  case round =>
    obtain ⟨k, hk, rfl, rfl, hg⟩ := hrel
    by_cases hlt : k < L.length
    · obtain ⟨b, o, hA, hc⟩ := hL.grow hg (by rintro rfl; simp at hlt)
      subst hA
      obtain ⟨hcell, hby⟩ := hc k hlt
      have HS := hide (whoOf_snoc no L k hlt)
      have hslt := whoOf_lt no (L.take k)
      generalize whoOf no (L.take k) = s at *
      generalize L[k] = x at *
      obtain ⟨p, A1, l, c1⟩ := x
      dsimp only at *
      clear hc
      have hcs : ∀ i, i < 12 → wr.cell? ⟨b, o + k * 12 + i, none⟩ = (pcells p A1 l.length c1)[i]? := hcell
      have d0 := hcs 0 (by omega)
      have d1 := hcs 1 (by omega)
      have d2 := hcs 2 (by omega)
      have d3 := hcs 3 (by omega)
      have d4 := hcs 4 (by omega)
      have d5 := hcs 5 (by omega)
      have d6 := hcs 6 (by omega)
      have d7 := hcs 7 (by omega)
      have d8 := hcs 8 (by omega)
      have d9 := hcs 9 (by omega)
      have d10 := hcs 10 (by omega)
      have d11 := hcs 11 (by omega)
      clear hcs hcell
      simp at d0 d1 d2 d3 d4 d5 d6 d7 d8 d9 d10 d11
      have HG := hide (attgood_any p A1 l c1 _ (hby.alloc (.cells (pcells p A1 l.length c1) 65)))
      have hfr := hide (attB_frm p l)
      have HW := hide (show whoAdd no s { p := p, A := A1, l := l, c := c1 } = if attB p l && p.no == no then s ||| 2 ^ p.frm.toNat else s from rfl)
      generalize attB p l = b1 at *
      clear hby
      go_wp2_with fail
      refine HG.out.mono ?_
      rintro r w1 ⟨rfl, hb1⟩
      obtain ⟨q0, hg1⟩ := peel1 hb1
      obtain ⟨cq0, fq0, lq0⟩ := q0.rules
      have HG1 := hide (Grow.trans hg hg1)
      clear hb1 hg1 d0 d1 d2 d3 d4 d5 d6 d7 d8 d9 d10 d11 HG q0 hg
      cases b1 with
      | false =>
        go_wp2
        go_roundw
        case rel => exact ⟨k + 1, by omega, by go_num, by rw [HS.out, HW.out]; rfl, HG1.out⟩
        case measure => simp [intOf]; omega
      | true =>
        obtain ⟨f0, f1⟩ := hfr.out rfl
        obtain ⟨i, hi⟩ := Int.eq_ofNat_of_zero_le f0
        have hi64 : i < 64 := by omega
        have HO := hide (or_bit s p.frm.toNat hslt (by omega))
        by_cases hno : p.no = no
        · have hd : (p.no == no) = true := by simpa using hno
          rw [hd] at HW
          clear hno hi
          go_wp2
          rw [HO.out]
          go_roundw
          case rel => exact ⟨k + 1, by omega, by go_num, by rw [HS.out, HW.out]; rfl, HG1.out⟩
          case measure => simp [intOf]; omega
        · have hd : (p.no == no) = false := by simpa using hno
          rw [hd] at HW
          clear hno hi
          go_wp2
          go_roundw
          case rel => exact ⟨k + 1, by omega, by go_num, by rw [HS.out, HW.out]; rfl, HG1.out⟩
          case measure => simp [intOf]; omega
    · obtain rfl : k = L.length := by omega
      have HT := hide (show L.take L.length = L from List.take_length)
      go_wp2
      go_ret
      exact ⟨by rw [HT.out]; rfl, hg⟩
end Go.Proofs.Ytpobjcdcimcdnaa
namespace Go.Proofs.Ytpobjcdcimcdnaa
open Go.RowKit
def ex12 : Pkt := attP 30 2 4 1 3
theorem ex12_good : attB ex12 [] = true := by decide
theorem ex12_S : Buf.wput 9 (0, []) (Buf.sevens (u64of 3)) = (0, [3]) := by decide +kernel
theorem ex12_who : whoOf 3 [⟨ex12, none, [], 0⟩] = 4 := by decide
set_option maxRecDepth 100000 in
set_option maxHeartbeats 2000000 in
theorem works12_any (w : World) : Calls Try.prog 61 #[] w fun e w' => e = .returned (.bool true) ∧ Grow w w' := by
  have hG := hide (fun W => attgood_any ex12 none [] 0 W (Bytes.nil _ _))
  rw [ex12_good] at hG
  have hD := hide (fun W => due_any 3 10 W (hide (by decide)) (hide (by decide)))
  rw [show dueR 3 10 = .tuple #[.int .i64 30, .bool true] from rfl] at hD
  have hW := hide (fun A W (h : Pks W A [⟨ex12, none, [], 0⟩]) => who_any 3 A [⟨ex12, none, [], 0⟩] 1 W h (by simp))
  rw [ex12_who] at hW
  go_enter Try.func61, Try.ntmps61
  go_wp2_with fail
  refine (attnew_any 30 2 4 3 _).mono ?_
  rintro r w1 ⟨rfl, hb1⟩
  have hg1 := hb1
  have HG1 := hide (show Grow w w1 from hg1)
  have hsz1 : w.heap.size ≤ w1.heap.size := HG1.out.size
  have hq1 : w.heap.size ≤ w1.heap.size := hg1.size
  have HS1 := hide hg1
  clear hb1 hg1
  go_wp2_with fail
  refine (new_at 9 (w1.heap.size + 1) _ (by decide) (by decide) (by simp)).mono ?_
  rintro r w2 ⟨rfl, hwr, hb2⟩
  obtain ⟨p0, hg2⟩ := peel1 hb2
  have p0_ := hide p0
  clear p0
  have p0 := p0_
  clear p0_
  have HG2 := hide (Grow.trans (show Grow w w1 from HG1.out) hg2)
  clear HG1
  have hsz2 : w.heap.size ≤ w2.heap.size := HG2.out.size
  have hq2 : w1.heap.size ≤ w2.heap.size := hg2.size
  have HS2 := hide hg2
  clear hb2 hg2
  obtain ⟨cp0, fp0, lp0⟩ := (show Box w2 _ _ from p0.out).rules
  go_wp2_with fail
  refine (attput_any _ _ none 0 0 [] 9 ex12 none 0 0 _ hwr (by simp) (by have := hwr.lt; omega)).mono ?_
  rw [show ex12.no = 3 from rfl, ex12_S]
  rintro r w3 ⟨rfl, A3, c3, hwr3, hb3, _⟩
  simp only [foot, blk, Option.map_none, Option.toList_none] at hb3
  clear cp0 fp0 lp0
  have hg3 := hb3
  have p0_ := hide ((show Box w2 _ _ from p0.out).kept hg3 (by simp; try omega))
  clear p0
  have p0 := p0_
  clear p0_
  have HG3 := hide (Kept.fresh1 hg3 (show Grow w w2 from HG2.out) (by omega))
  clear HG2
  have hsz3 : w.heap.size ≤ w3.heap.size := HG3.out.size
  have hq3 : w2.heap.size ≤ w3.heap.size := hg3.size
  have HS3 := hide hg3
  clear hb3 hg3
  obtain ⟨cp0, fp0, lp0⟩ := (show Box w3 _ _ from p0.out).rules
  go_wp2_with fail
  refine (done_ok _ _ A3 c3 _ 9 _ hwr3 (by simp)).mono ?_
  rintro r w4 ⟨A4, c4, rfl, hown4, hb4⟩
  have hl4 := hown4.bytes
  clear hwr hwr3 hown4
  clear cp0 fp0 lp0
  have hg4 := hb4
  have p0_ := hide ((show Box w3 _ _ from p0.out).grow hg4)
  clear p0
  have p0 := p0_
  clear p0_
  have HG4 := hide (Grow.trans (show Grow w w3 from HG3.out) hg4)
  clear HG3
  have hsz4 : w.heap.size ≤ w4.heap.size := HG4.out.size
  have hq4 : w3.heap.size ≤ w4.heap.size := hg4.size
  have HS4 := hide hg4
  clear hb4 hg4
  obtain ⟨cp0, fp0, lp0⟩ := (show Box w4 _ _ from p0.out).rules
  go_wp2_with fail
  refine (hD.out _).mono ?_
  rintro r w5 ⟨rfl, hb5⟩
  clear cp0 fp0 lp0
  have hg5 := hb5
  have p0_ := hide ((show Box w4 _ _ from p0.out).grow hg5)
  clear p0
  have p0 := p0_
  clear p0_
  have hl4 := hl4.grow hg5
  have HG5 := hide (Grow.trans (show Grow w w4 from HG4.out) hg5)
  clear HG4
  have hsz5 : w.heap.size ≤ w5.heap.size := HG5.out.size
  have hq5 : w4.heap.size ≤ w5.heap.size := hg5.size
  have HS5 := hide hg5
  clear hb5 hg5
  obtain ⟨cp0, fp0, lp0⟩ := (show Box w5 _ _ from p0.out).rules
  have vl4 := (show (convert 25 9 (.slice A4 1 c4)).run Try.prog w5 = .ok (.string ⟨#[3]⟩) w5 from conv_any c4 hl4)
  go_wp2_with fail
  refine (hG.out _).mono ?_
  rintro r w6 ⟨rfl, hb6⟩
  clear cp0 fp0 lp0
  have hg6 := hb6
  have p0_ := hide ((show Box w5 _ _ from p0.out).grow hg6)
  clear p0
  have p0 := p0_
  clear p0_
  have hl4 := hl4.grow hg6
  have HG6 := hide (Grow.trans (show Grow w w5 from HG5.out) hg6)
  clear HG5
  have hsz6 : w.heap.size ≤ w6.heap.size := HG6.out.size
  have hq6 : w5.heap.size ≤ w6.heap.size := hg6.size
  have HS6 := hide hg6
  clear hb6 hg6
  obtain ⟨cp0, fp0, lp0⟩ := (show Box w6 _ _ from p0.out).rules
  go_wp2_with fail
  refine (hW.out _ _ (Pks.one (Box.new w6 (pcells ex12 none 0 0) 65 rfl))).mono ?_
  rintro r w7 ⟨rfl, hb7⟩
  clear cp0 fp0 lp0
  obtain ⟨x0, hg7⟩ := peel1 hb7
  have p0_ := hide ((show Box w6 _ _ from p0.out).grow hg7)
  clear p0
  have p0 := p0_
  clear p0_
  have x0_ := hide x0
  clear x0
  have x0 := x0_
  clear x0_
  have hl4 := hl4.grow hg7
  have HG7 := hide (Grow.trans (show Grow w w6 from HG6.out) hg7)
  clear HG6
  have hsz7 : w.heap.size ≤ w7.heap.size := HG7.out.size
  have hq7 : w6.heap.size ≤ w7.heap.size := hg7.size
  have HS7 := hide hg7
  clear hb7 hg7
  obtain ⟨cp0, fp0, lp0⟩ := (show Box w7 _ _ from p0.out).rules
  obtain ⟨cx0, fx0, lx0⟩ := (show Box w7 _ _ from x0.out).rules
  go_wp2
  go_ret
  exact ⟨rfl, HG7.out⟩
end Go.Proofs.Ytpobjcdcimcdnaa

namespace Go.Proofs.Ytpobjcdcimcdnaa
open Go.RowKit
end Go.Proofs.Ytpobjcdcimcdnaa
