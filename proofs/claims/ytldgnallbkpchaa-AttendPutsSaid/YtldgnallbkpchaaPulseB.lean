/- The walk of the statement PulseEchoes. -/
import Derived.Test.YtldgnallbkpchaaPulseA
namespace Go.Proofs.Ytldgnallbkpchaa
open Go.RowKit
theorem echo_none (s v : Int) : isProbe (echoP s v) [] = false := by simp [isProbe]
set_option maxRecDepth 100000 in
set_option maxHeartbeats 4000000 in
theorem pulseEchoes_any (s v : Int) (w : World) :
    Calls Try.prog 19 #[.int .i64 s, .int .i64 v] w fun e w' => e = .returned (.bool true) ∧ Grow w w' := by
  have h1 := hide (fun W => echo_yes (probeP s) none [] 0 v W (Bytes.nil _ _) rfl (probe_good _))
  have h2 := hide (fun W => echo_no (echoP s v) none [] 0 v W (Bytes.nil _ _) (echo_none _ _))
  have h3 := hide (fun W => pulsegood_any (echoP s v) none [] 0 W (Bytes.nil _ _))
  rw [echo_good] at h3
  go_enter Try.func19, Try.ntmps19
  go_wp2_with fail
  refine (probe_any _ _).mono ?_
  rintro e w1 ⟨rfl, hb1⟩
  go_wp2_with fail
  refine (h1.out _).mono ?_
  rintro e w2 ⟨rfl, hb2⟩
  have hG2 := hide (hb1.trans hb2)
  clear hb1 hb2
  go_wp2_with fail
  refine (h2.out _).mono ?_
  rintro e w3 ⟨rfl, hb3⟩
  obtain ⟨hc3, hf3⟩ := grown_cell hb3
  have hs3 : w2.heap.size < w3.heap.size := by have := hb3.size; simp at this; omega
  have hG3 := hide (fin_ hb3 (Grow.alloc (show Grow w w2 from hG2.out) _))
  clear hb3
  go_wp2_with fail
  refine (h3.out _).mono ?_
  rintro e w4 ⟨rfl, hb4⟩
  obtain ⟨hc4, hf4⟩ := grown_cell hb4
  have hs4 : w3.heap.size < w4.heap.size := by have := hb4.size; simp at this; omega
  have hG4 := hide (fin_ hb4 (Grow.alloc (show Grow w w3 from hG3.out) _))
  clear hb4
  go_wp2_with fail
  refine (works11_any _).mono ?_
  rintro e w5 ⟨rfl, hb5⟩
  go_wp2
  go_ret
  exact ⟨rfl, Grow.step (show Grow w w4 from hG4.out) hb5⟩
end Go.Proofs.Ytldgnallbkpchaa
