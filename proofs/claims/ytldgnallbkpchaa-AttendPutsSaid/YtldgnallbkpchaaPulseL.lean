/- Echoes, the example, and the statements of chapter 11 that need no bytes. -/
import Derived.Test.YtldgnallbkpchaaPulseR
namespace Go.Proofs.Ytldgnallbkpchaa
open Go.RowKit
abbrev noP : Pkt := { kind := 0, t := 0, frm := 0, seq := 0, hops := 0, no := 0, to := 0, index := 0, total := 0, stamp := 0, value := 0 }
set_option maxRecDepth 100000 in
set_option maxHeartbeats 1000000 in
theorem echo_yes (p : Pkt) (A : Option Addr) (l : List UInt8) (c : Nat) (v : Int) (w : World) (hl : Bytes w A l) (h1 : p.kind = 1) (h2 : pulseB p l = true) :
    Calls Try.prog 87 #[pv p A l.length c, .int .i64 v] w fun e w' => e = .returned (.tuple #[pv (echoP p.stamp v) none 0 0, .bool true]) ∧ Grow w w' := by
  obtain ⟨hp0, hq0, hb0⟩ := two_boxes w (pcells p A l.length c) #[.int .i64 0, .int .i64 0, .int .i64 0, .int .u32 0, .int .i64 0, .int .i64 0, .int .i64 0, .int .i64 0, .int .i64 0, .int .i64 0, .int .i64 0, .slice none 0 0] 65 65 (by simp)
  have hl0 := hl.grow hb0
  have k1 : (p.kind == 1) = true := by simpa using h1
  have k1' : (p.kind != 1) = false := by simpa using h1
  have HG := hide (fun W (hW : Bytes W A l) => pulsegood_any p A l c W hW)
  rw [h2] at HG
  clear hl h1 h2
  go_enter Try.func87, Try.ntmps87
  go_wp2_with fail
  refine (HG.out _ hl0).mono ?_
  rintro e w1 ⟨rfl, hb1⟩
  obtain ⟨hc1, hf1⟩ := grown_cell hb1
  have hs1 : w.heap.size + 1 < w1.heap.size := by have := hb1.size; simp at this; omega
  have HB := hide (hb0.step hb1)
  clear hb1 hp0 hq0 hl0 hb0
  go_wp2
  refine bodyPost_ret (v := .tuple #[pv (echoP p.stamp v) none 0 0, .bool true]) (by simp [results, Try.results87, go_sem, hc1]) rfl ⟨rfl, ?_⟩
  show Below w.heap.size w _
  exact (((((((((((((show Below w.heap.size w w1 from HB.out).setCell (Nat.le_succ _) _).setCell (Nat.le_succ _) _).setCell (Nat.le_succ _) _).setCell (Nat.le_succ _) _).setCell (Nat.le_succ _) _).setCell (Nat.le_succ _) _).setCell (Nat.le_succ _) _).setCell (Nat.le_succ _) _).setCell (Nat.le_succ _) _).setCell (Nat.le_succ _) _).setCell (Nat.le_succ _) _).setCell (Nat.le_succ _) _)
def isProbe (p : Pkt) (l : List UInt8) : Bool := p.kind == 1 && pulseB p l
set_option maxRecDepth 100000 in
set_option maxHeartbeats 1000000 in
theorem echo_no (p : Pkt) (A : Option Addr) (l : List UInt8) (c : Nat) (v : Int) (w : World) (hl : Bytes w A l) (h : isProbe p l = false) :
    Calls Try.prog 87 #[pv p A l.length c, .int .i64 v] w fun e w' => e = .returned (.tuple #[pv noP none 0 0, .bool false]) ∧ Grow w w' := by
  by_cases h1 : p.kind = 1
  · have h2 : pulseB p l = false := by simpa [isProbe, h1] using h
    obtain ⟨hp0, hq0, hb0⟩ := two_boxes w (pcells p A l.length c) #[.int .i64 0, .int .i64 0, .int .i64 0, .int .u32 0, .int .i64 0, .int .i64 0, .int .i64 0, .int .i64 0, .int .i64 0, .int .i64 0, .int .i64 0, .slice none 0 0] 65 65 (by simp)
    have hl0 := hl.grow hb0
    have k1 : (p.kind == 1) = true := by simpa using h1
    have k1' : (p.kind != 1) = false := by simpa using h1
    have HG := hide (fun W (hW : Bytes W A l) => pulsegood_any p A l c W hW)
    rw [h2] at HG
    clear hl h1 h2 h
    go_enter Try.func87, Try.ntmps87
    go_wp2_with fail
    refine (HG.out _ hl0).mono ?_
    rintro e w1 ⟨rfl, hb1⟩
    obtain ⟨hc1, hf1⟩ := grown_cell hb1
    have hs1 : w.heap.size + 1 < w1.heap.size := by have := hb1.size; simp at this; omega
    have HB := hide (hb0.step hb1)
    clear hb1 hp0 hq0 hl0 hb0
    go_wp2
    refine bodyPost_ret (v := .tuple #[pv noP none 0 0, .bool false]) (by simp [results, Try.results87, go_sem, hc1]) rfl ⟨rfl, ?_⟩
    show Below w.heap.size w _
    exact (((((((((((((show Below w.heap.size w w1 from HB.out).setCell (Nat.le_succ _) _).setCell (Nat.le_succ _) _).setCell (Nat.le_succ _) _).setCell (Nat.le_succ _) _).setCell (Nat.le_succ _) _).setCell (Nat.le_succ _) _).setCell (Nat.le_succ _) _).setCell (Nat.le_succ _) _).setCell (Nat.le_succ _) _).setCell (Nat.le_succ _) _).setCell (Nat.le_succ _) _).setCell (Nat.le_succ _) _)
  · have k1 : (p.kind == 1) = false := by simpa using h1
    have k1' : (p.kind != 1) = true := by simpa using h1
    clear h h1
    go_enter Try.func87, Try.ntmps87
    go_wp2
    exact bodyPost_ret (v := .tuple #[pv noP none 0 0, .bool false]) (by simp [results, Try.results87, go_sem]) rfl ⟨rfl, ((Grow.refl w).alloc _).alloc _⟩
theorem probe_good (s : Int) : pulseB (probeP s) [] = true := by
  simp [pulseB, headB, floodB, knownB, noKey, sameB, restB, keyEq, base]
theorem echo_good (s v : Int) : pulseB (echoP s v) [] = true := by
  simp [pulseB, headB, floodB, knownB, noKey, sameB, restB, keyEq, base]
set_option maxRecDepth 100000 in
set_option maxHeartbeats 1000000 in
theorem works11_any (w : World) : Calls Try.prog 86 #[] w fun e w' => e = .returned (.bool true) ∧ Grow w w' := by
  go_enter Try.func86, Try.ntmps86
  go_wp2_with fail
  refine (probe_any _ _).mono ?_
  rintro e w1 ⟨rfl, hg1⟩
  go_wp2_with fail
  refine (echo_yes (probeP (-1)) none [] 0 5 _ (Bytes.nil _ _) rfl (probe_good _)).mono ?_
  rintro e w2 ⟨rfl, hg2⟩
  obtain ⟨hc2, hf2⟩ := grown_cell hg2
  have hs2 : w1.heap.size < w2.heap.size := by have := hg2.size; simp at this; omega
  have HG2 := hide (fin_ hg2 (hg1.alloc _))
  clear hg2
  go_wp2_with fail
  have HP := hide (pulsegood_any (probeP (-1)) none [] 0)
  rw [probe_good] at HP
  refine (HP.out _ (Bytes.nil _ _)).mono ?_
  rintro e w3 ⟨rfl, hg3⟩
  obtain ⟨hc3, hf3⟩ := grown_cell hg3
  have hs3 : w2.heap.size < w3.heap.size := by have := hg3.size; simp at this; omega
  have HG3 := hide (fin_ hg3 (Grow.alloc (show Grow w w2 from HG2.out) _))
  clear hg3
  go_wp2_with fail
  have HE := hide (pulsegood_any (echoP (-1) 5) none [] 0)
  rw [echo_good] at HE
  refine (HE.out _ (Bytes.nil _ _)).mono ?_
  rintro e w4 ⟨rfl, hg4⟩
  go_wp2
  go_ret
  exact ⟨rfl, Grow.step (show Grow w w3 from HG3.out) hg4⟩
end Go.Proofs.Ytldgnallbkpchaa
