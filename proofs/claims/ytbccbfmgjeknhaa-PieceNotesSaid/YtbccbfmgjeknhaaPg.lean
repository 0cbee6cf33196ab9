/- The example of chapter 42; the walks of PieceNil and PieceOwn. -/
import Derived.Test.YtbccbfmgjeknhaaPf
namespace Go.Proofs.Ytbccbfmgjeknhaa
open Go.RowKit
theorem Kept.to_below' {B : Nat} {S : List Nat} {a b : World} (h : Kept B S a b) (hS : ∀ q, q ∈ S → B ≤ q) : Below B a b := ⟨h.os, h.tape, h.output, h.size, fun k hk => h.block k hk (fun hm => by have := hS k hm; omega)⟩
theorem Grow.keptS {w W W' : World} {S : List Nat} (hg : Grow w W) (hk : Kept W.heap.size S W W') (hS : ∀ q, q ∈ S → w.heap.size ≤ q) : Grow w W' :=
  ((Kept.of_below hg S).trans (hk.mono hg.size (fun _ _ h => h))).to_below' hS
theorem ex42a : pcheck 3 0 0 [] (chunkP 0 0 0 7 3 1 2) 1 = 0 := by decide
theorem ex42b : pcheck 3 7 2 [(1, [98])] (chunkP 0 0 0 7 3 0 2) 1 = 0 := by decide
theorem ex42c : wholeR [(1, [98])] 2 = ([], false) := by decide
theorem ex42d : wholeR [(1, [98]), (0, [97])] 2 = ([97, 98], true) := by decide
theorem pnote1_any {N p m : Nat} {sf no tot : Int} {X : List PE} (q : Pkt) (A : Option Addr) (x : UInt8) (c : Nat) (w : World) (h : Pc w N p m sf no tot X) (hl : Bytes w A [x]) (hN : N ≤ w.heap.size) (hA : ∀ g, blk A = some g → g ≠ p ∧ g ≠ m) :
    Calls Try.prog 25 #[.pointer (some ⟨p, 0, none⟩), pv q A 1 c] w fun r w' => NoteP w N p m sf no tot X q [x] (pcheck sf no tot (X.map kl) q 1) r w' :=
  pnote_any q A [x] c w h hl (by simp) hN (fun _ => hA)
set_option maxRecDepth 100000 in
set_option maxHeartbeats 2000000 in
theorem works42_any (w : World) : Calls Try.prog 28 #[] w fun e w' => e = .returned (.bool true) ∧ Grow w w' := by
  have kc := fun (w : World) (C : Array Value) (n c : Nat) => Lib.run_convert_bytes_const (P := Try.prog) w 22 5 C n c Try.underlying22 Try.underlying5
  go_enter Try.func28, Try.ntmps28
  go_wp2_with fail
  refine (pnew_any 3 w).mono ?_
  rintro r w1 ⟨p, m, rfl, h1, hg1⟩
  have h1 := hide h1
  go_wp2_with fail
  refine (refchunknew_any 0 0 0 7 3 1 2 (some ⟨w1.heap.size, 0, none⟩) 1 1 _).mono ?_
  rintro r w2 ⟨rfl, hb2⟩
  have hby2 := (Bytes.lit w1 [98] #[.int .u8 98] 5 (1, 2) rfl).grow hb2
  have hg12 : Grow w1 w2 := Grow.trans ((Grow.refl w1).alloc _) hb2
  have hg2 := Grow.trans hg1 hg12
  have hlow := h1.out.low
  have hpl := h1.out.box.lt
  have hml := h1.out.map.lt
  have HN := hide (pnote1_any (chunkP 0 0 0 7 3 1 2) (some ⟨w1.heap.size, 0, none⟩) 98 1 w2 (h1.out.grow hg12) hby2 hg2.size (fun g hg => by
    have e : w1.heap.size = g := by simpa [blk] using hg
    omega))
  rw [show ([] : List PE).map kl = [] from rfl, ex42a] at HN
  clear h1 hb2 hby2 hg12 hg1
  go_wp2_with fail
  refine HN.out.mono ?_
  rintro r w3 ⟨rfl, _, hz, hk⟩
  obtain ⟨X3, h3, hX3, _⟩ := hz rfl
  have hX3 : X3.map kl = [(1, [98])] := hX3
  have h3 : Pc w3 w.heap.size p m 3 7 ((2 : Nat) : Int) X3 := h3
  have hg3 := hg2.keptS hk (by simp; omega)
  have HW := hide (pwhole_any w3 h3 (by omega) (by rw [hX3]; simp))
  rw [hX3, ex42c] at HW
  have h3 := hide h3
  have hX3 := hide hX3
  clear hk hz HN hg2
  go_wp2_with fail
  refine HW.out.mono ?_
  rintro r w4 ⟨⟨A4, c4, rfl, hown4⟩, hg34⟩
  have h4 := hide (h3.out.grow hg34)
  have hg4 := Grow.trans hg3 hg34
  clear h3 HW hg34 hown4 hg3
  go_wp2_with fail
  refine (refchunknew_any 0 0 0 7 3 0 2 (some ⟨w4.heap.size, 0, none⟩) 1 1 _).mono ?_
  rintro r w5 ⟨rfl, hb5⟩
  have hby5 := (Bytes.lit w4 [97] #[.int .u8 97] 5 (1, 2) rfl).grow hb5
  have hg45 : Grow w4 w5 := Grow.trans ((Grow.refl w4).alloc _) hb5
  have hg5 := Grow.trans hg4 hg45
  have hpl := h4.out.box.lt
  have hml := h4.out.map.lt
  have HN := hide (pnote1_any (chunkP 0 0 0 7 3 0 2) (some ⟨w4.heap.size, 0, none⟩) 97 1 w5 (h4.out.grow hg45) hby5 hg5.size (fun g hg => by
    have e : w4.heap.size = g := by simpa [blk] using hg
    omega))
  rw [hX3.out] at HN
  have HN := hide (show Calls _ _ _ _ _ from HN.out)
  rw [show ((2 : Nat) : Int) = 2 from rfl, ex42b] at HN
  clear h4 hb5 hby5 hg45 hg4
  go_wp2_with fail
  refine HN.out.mono ?_
  rintro r w6 ⟨rfl, _, hz, hk⟩
  obtain ⟨X6, h6, hX6, _⟩ := hz rfl
  have hX6 : X6.map kl = [(1, [98]), (0, [97])] := by
    rw [hX6, if_pos rfl, hX3.out]
    rfl
  have h6 : Pc w6 w.heap.size p m 3 7 ((2 : Nat) : Int) X6 := h6
  have hg6 := hg5.keptS hk (by simp; omega)
  have HW := hide (pwhole_any w6 h6 (by omega) (by rw [hX6]; simp))
  rw [hX6, ex42d] at HW
  clear hk hz HN hg5 h6 hX6
  go_wp2_with fail
  refine HW.out.mono ?_
  rintro r w7 ⟨⟨A7, c7, rfl, hown7⟩, hg67⟩
  have V7 : (convert 22 9 (.slice A7 2 c7)).run Try.prog w7 = .ok (.string ⟨[97, 98].toArray⟩) w7 := conv_any c7 hown7.bytes
  have hg7 := Grow.trans hg6 hg67
  go_wp2
  go_ret
  exact ⟨rfl, hg7⟩
set_option maxRecDepth 100000 in
set_option maxHeartbeats 2000000 in
theorem pieceNil_any (q : Pkt) (A : Option Addr) (l : List UInt8) (c : Nat) (w : World) : Calls Try.prog 11 #[pv q A l.length c] w fun e w' => e = .returned (.bool true) ∧ Grow w w' := by
  generalize l.length = n
  have q0 := Box.new w (pcells q A n c) 58 rfl
  have hg0 := (Grow.refl w).alloc (.cells (pcells q A n c) 58)
  go_enter Try.func11, Try.ntmps11
  go_wp2_with fail
  refine (preset_nil _).mono ?_
  rintro r w1 ⟨rfl, rfl⟩
  go_wp2_with fail
  refine (pno_nil _).mono ?_
  rintro r w1 ⟨rfl, rfl⟩
  go_wp2_with fail
  refine (pwhole_nil _).mono ?_
  rintro r w2 ⟨rfl, hg2⟩
  have q2 := (q0.grow hg2).cell
  have hgw2 := Grow.trans hg0 hg2
  clear q0 hg0
  go_wp2_with fail
  refine (pnote_nil q A n c _).mono ?_
  rintro r w3 ⟨rfl, hg3⟩
  have hgw3 := Grow.trans hgw2 hg3
  clear q2
  go_wp2_with fail
  refine (pmissing_nil _).mono ?_
  rintro r w4 ⟨rfl, rfl⟩
  go_wp2_with fail
  refine (works42_any _).mono ?_
  rintro r w5 ⟨rfl, hg5⟩
  have hgw5 := Grow.trans hgw3 hg5
  go_wp2
  go_ret
  exact ⟨rfl, hgw5⟩
end Go.Proofs.Ytbccbfmgjeknhaa
