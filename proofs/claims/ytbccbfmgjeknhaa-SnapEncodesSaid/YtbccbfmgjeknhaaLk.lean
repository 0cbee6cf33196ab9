/- A ledger that is written (chapters 37, 41); snap.Encode. -/
import Derived.Test.YtbccbfmgjeknhaaLj
import Derived.Test.YtbccbfmgjeknhaaWri
namespace Go.Proofs.Ytbccbfmgjeknhaa
open Go.RowKit
/-- a ledger's bytes -/
def ofBytes (L : List Nat) : List UInt8 := L.flatMap (fun x => Buf.fixed x 4)
def lgBytes (l : Lg) (n : Nat) : List UInt8 := Buf.fixed l.count.toNat 8 ++ Buf.fixed l.sum 8 ++ ofBytes (l.of.take n)
theorem ofBytes_len (L : List Nat) : (ofBytes L).length = 4 * L.length := by
  unfold ofBytes
  induction L with
  | nil => rfl
  | cons x L ih => rw [List.flatMap_cons, List.length_append, ih, Buf.fixed_length, List.length_cons]; omega
theorem ofBytes_succ (L : List Nat) (k : Nat) (h : k < L.length) : ofBytes (L.take (k + 1)) = ofBytes (L.take k) ++ Buf.fixed L[k] 4 := by
  unfold ofBytes
  rw [List.take_succ_eq_append_getElem h, List.flatMap_append]
  simp
theorem lgBytes_len (l : Lg) (n : Nat) (h : l.Ok) (hn : n ≤ 64) : (lgBytes l n).length = 16 + 4 * n := by
  unfold lgBytes
  rw [List.length_append, List.length_append, Buf.fixed_length, Buf.fixed_length, ofBytes_len, List.length_take, h.len]
  omega
theorem wfixed_ok (most : Int) (b : List UInt8) (x n : Nat) (h1 : 1 ≤ n) (h8 : n ≤ 8) (h : (b.length : Int) + n ≤ most) : Buf.wfixed most (0, b) x (n : Int) = (0, b ++ Buf.fixed x n) := by
  unfold Buf.wfixed Buf.wput
  rw [if_neg (by omega), if_neg (by simp), if_neg (by rw [Buf.fixed_length]; show ¬ most - (b.length : Int) < _; omega)]
  rfl
theorem run_slice_high (g n : Nat) (hn : n ≤ 64) (W : World) : (Instr.sliceAt 32 (.pointer (some ⟨g, 2, none⟩)) none (some (.int .i64 (n : Int))) none).run Try.prog W = .ok (.slice (some ⟨g, 2, none⟩) n 64) W := by
  obtain ⟨i0, hi0, hz0, hs0, hb0⟩ := info_parts u32Info
  simp [Instr.sliceAt, run_underlying Try.underlying32, sizeOf, typeInfo, hi0, hs0, Instr.sureAddr, Instr.sliceBounds, Instr.sliceBound, asIntOf, hn, Result.andThen, Addr.add_mid]
theorem lnodes_any (n : Nat) (hn : n ≤ 64) (w : World) : Calls Try.prog 67 #[.int .i64 n] w fun r w' => r = .returned (.int .i64 n) ∧ w = w' := by
  have h1 : ¬ ((n : Int) < 0) := by omega
  have h2 : ¬ ((64 : Int) < (n : Int)) := by omega
  go_enter Try.func67, Try.ntmps67
  go_wp2
  go_ret
  exact ⟨by simp, rfl⟩
/-- what holds while a ledger is written: the writer, the ledger's own variable, what was kept -/
structure Put (w wi : World) (B p : Nat) (A : Option Addr) (C : Array Value) (Ai : Option Addr) (ci : Nat) (bi : List UInt8) (most : Int) : Prop where
  wr : Wr wi B p Ai ci 0 bi most
  box : Box wi w.heap.size C
  kept : Kept w.heap.size (foot p A) w wi
  at_ : ∀ q, blk Ai = some q → q ≠ w.heap.size ∧ (blk A = some q ∨ w.heap.size ≤ q)
  low : p < w.heap.size
theorem Put.step {w wi wj : World} {B p : Nat} {A Ai : Option Addr} {C : Array Value} {ci : Nat} {bi bj : List UInt8} {most : Int} (h : Put w wi B p A C Ai ci bi most) (hw : Wrote wi wj B p Ai (0, bj) most) : ∃ Aj cj, Put w wj B p A C Aj cj bj most := by
  obtain ⟨Aj, cj, h1, h2, h3⟩ := hw
  have hlow := h.low
  have hbl := h.box.lt
  refine ⟨Aj, cj, h1, h.box.kept h2 (fun hm => ?_), h.kept.trans (h2.mono h.kept.size (fun k hk hm => ?_)), fun q hq => ?_, h.low⟩
  · rcases List.mem_cons.1 hm with e | e
    · omega
    · exact (h.at_ _ (by simpa using e)).1 rfl
  · rcases List.mem_cons.1 hm with e | e
    · rw [e]; simp [foot]
    · rcases (h.at_ k (by simpa using e)).2 with h' | h'
      · simp [foot, h']
      · omega
  · rcases h3 q hq with e | e
    · exact h.at_ q e
    · exact ⟨by omega, .inr (by omega)⟩
set_option maxRecDepth 100000 in
set_option maxHeartbeats 2000000 in
theorem lput_any (B p : Nat) (A : Option Addr) (c : Nat) (b : List UInt8) (most : Int) (l : Lg) (n : Nat) (w : World) (hw : Wr w B p A c 0 b most) (h : l.Ok) (h0 : 0 ≤ l.count) (hn : n ≤ 64) (hm : (b.length : Int) + 300 ≤ most) (hb : b.length ≤ 1000) (hB : B ≤ w.heap.size) :
    Calls Try.prog 42 #[.pointer (some ⟨p, 0, none⟩), .agg (lcs l).toArray, .int .i64 n] w fun r w' => r = .returned (.tuple #[]) ∧ Wrote w w' B p A (0, b ++ lgBytes l n) most := by
  have hbx := Box.new w (lcs l).toArray 34 rfl
  have hg := (Grow.refl w).alloc (.cells (lcs l).toArray 34)
  have hat := hide (fun k (hk : k < l.of.length) => lcs_at l k hk)
  have hc0 : (lcs l).toArray[0]? = some (.int .i64 l.count) := rfl
  have hc1 : (lcs l).toArray[1]? = some (.int .u64 (l.sum : Int)) := rfl
  have hLB := hide (show lgBytes l n = Buf.fixed l.count.toNat 8 ++ Buf.fixed l.sum 8 ++ ofBytes (l.of.take n) from rfl)
  have hlen := h.len
  have hlt := hide h.lt
  obtain ⟨cn, hcn⟩ := Int.eq_ofNat_of_zero_le h0
  have hcmax : cn ≤ 9223372036854775807 := by have := h.c1; omega
  have hsum := h.sum
  rw [hcn, Int.toNat_natCast] at hLB
  rw [hcn] at hc0
  have hw1 := hw.grow hg
  have hpw := hw.lt
  have hAw := fun q hq => hw.own.lt (q := q) hq
  generalize l.of = L at *
  generalize l.sum = sm at *
  generalize lgBytes l n = LB at *
  clear h h0 hcn hw
  generalize (lcs l).toArray = C at *
  generalize hW : w.alloc (.cells C 34) = w1 at *
  have hcc0 := (hbx.cell 0).trans hc0
  have hbg : w.heap.size < w1.heap.size := hbx.lt
  have hfix := hide (fun (Ai : Option Addr) (ci : Nat) (bi : List UInt8) (x n : Nat) (W : World) (h : Wr W B p Ai ci 0 bi most) (hb : bi.length ≤ 2000) (hB : B ≤ W.heap.size) (h1 : 1 ≤ n) (h8 : n ≤ 8) (hm : (bi.length : Int) + n ≤ most) => (show Calls Try.prog 41 #[.pointer (some ⟨p, 0, none⟩), .int .u64 x, .int .i64 n] W fun r w' => r = .returned (.tuple #[]) ∧ Wrote W w' B p Ai (0, bi ++ Buf.fixed x n) most from by
    have := fixed_any B p Ai ci 0 bi most x n W h (by omega) hB
    rw [wfixed_ok most bi x n h1 h8 hm] at this
    exact this))
  have hP1 : Put w w1 B p A C A c b most := ⟨hw1, hbx, Kept.of_below hg _, fun q hq => ⟨by have := hAw q hq; omega, .inl hq⟩, hpw⟩
  have HF1 := hide (hfix.out A c b cn 8 w1 hw1 (by omega) (by omega) (by omega) (by omega) (by omega))
  have hP1 := hide hP1
  clear hbx hw1 hg hc0 hAw hpw
  go_enter Try.func42, Try.ntmps42
  go_wp2_with fail
  refine HF1.out.mono ?_
  rintro r0 w2 ⟨rfl, hwt2⟩
  obtain ⟨A2, c2, hP2⟩ := hP1.out.step hwt2
  have hcc1 := (hP2.box.cell 1).trans hc1
  have h8l := Buf.fixed_length 8 cn
  have HF2 := hide (hfix.out A2 c2 _ sm 8 w2 hP2.wr (by rw [List.length_append]; omega) (by have := hP2.kept.size; omega) (by omega) (by omega) (by rw [List.length_append]; omega))
  have hP2 := hide hP2
  clear HF1 hwt2 hP1 hcc0 hW hc1
  go_wp2_with fail
  refine HF2.out.mono ?_
  rintro r0 w3 ⟨rfl, hwt3⟩
  obtain ⟨A3, c3, hP3⟩ := hP2.out.step hwt3
  have h8s := Buf.fixed_length 8 sm
  have hP3 := hide hP3
  have hsl := run_slice_high w.heap.size n hn w3
  have HN := hide (lnodes_any n hn w3)
  have hb3 : Hid (b ++ Buf.fixed cn 8 ++ Buf.fixed sm 8 = b ++ (Buf.fixed cn 8 ++ Buf.fixed sm 8)) := hide (List.append_assoc _ _ _)
  have hl3 : (b ++ Buf.fixed cn 8 ++ Buf.fixed sm 8).length = b.length + 16 := by rw [List.length_append, List.length_append]; omega
  generalize b ++ Buf.fixed cn 8 ++ Buf.fixed sm 8 = b3 at *
  clear HF2 hwt3 hP2 hcc1
  go_wp2_with fail
  refine HN.out.mono ?_
  rintro r0 w4 ⟨rfl, rfl⟩
  go_wp2
  clear hsl HN
  go_loopw [22] (fun i wr => ∃ (k : Nat) (Ai : Option Addr) (ci : Nat) (bi : List UInt8), k ≤ n ∧ i = .int .i64 k ∧ Hid (Put w wr B p A C Ai ci bi most) ∧ Hid (bi = b3 ++ ofBytes (L.take k)) ∧ bi.length = b.length + 16 + 4 * k) (fun i _ => n - (intOf i).toNat)
  case atStart => exact ⟨0, A3, c3, b3, by omega, rfl, hP3, hide (by simp [ofBytes]), by omega⟩
  case round =>
    clear hP3
    obtain ⟨k, Ai, ci, bi, hk, rfl, hP, hbi, hbil⟩ := hrel
    by_cases hltk : k < n
    · have hki : (k : Int) < (n : Int) := by omega
      have hkL : k < L.length := by omega
      have hcell := (hP.out.box.cell (2 + k)).trans (hat.out k hkL)
      have hsn := hide (ofBytes_succ L k hkL)
      have hx := hlt.out _ (List.getElem_mem hkL)
      generalize L[k] = x at *
      have HF := hide (hfix.out Ai ci bi x 4 wr hP.out.wr (by omega) (by have := hP.out.kept.size; omega) (by omega) (by omega) (by omega))
      go_wp2_with fail
      refine HF.out.mono ?_
      rintro r0 w5 ⟨rfl, hwt5⟩
      obtain ⟨A5, c5, hP5⟩ := hP.out.step hwt5
      have hP5 := hide hP5
      have hb5 : Hid (bi ++ Buf.fixed x 4 = b3 ++ ofBytes (L.take (k + 1))) := hide (by rw [hsn.out, hbi.out, List.append_assoc])
      have hl5 : (bi ++ Buf.fixed x 4).length = b.length + 16 + 4 * (k + 1) := by rw [List.length_append, Buf.fixed_length]; omega
      generalize bi ++ Buf.fixed x 4 = b5 at *
      clear HF hwt5 hP hcell hsn hbi
      go_wp2
      go_roundw
      case rel => exact ⟨k + 1, A5, c5, b5, by omega, by go_num, hP5, hb5, hl5⟩
      case measure => simp [intOf]; omega
    · obtain rfl : k = n := by omega
      clear hltk
      go_wp2
      go_end0
      have e : bi = b ++ LB := by rw [hbi.out, hb3.out, hLB.out, List.append_assoc]
      refine ⟨rfl, ?_⟩
      rw [← e]
      exact ⟨Ai, ci, hP.out.wr, hP.out.kept, fun q hq => (hP.out.at_ q hq).2⟩
end Go.Proofs.Ytbccbfmgjeknhaa
