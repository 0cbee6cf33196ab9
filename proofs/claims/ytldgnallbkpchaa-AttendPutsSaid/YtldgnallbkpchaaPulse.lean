/- The walks of package pulse and of its document, without bytes. -/
import Derived.Test.YtldgnallbkpchaaPktB
namespace Go.Proofs.Ytldgnallbkpchaa
open Go.RowKit
theorem fin_ {a b c : World} (k : Below b.heap.size b c) (h : Grow a b) : Below a.heap.size a c := Grow.step h k
/-- a number of a round -/
def numB (k : Int) : Bool := decide (0 ≤ k) && decide (k ≤ 1152921504606846976)
set_option maxHeartbeats 400000 in
theorem number_any (k : Int) (w : World) : Calls Try.prog 158 #[.int .i64 k] w fun e w' => e = .returned (.bool (numB k)) ∧ w = w' := by
  go_enter Try.func158, Try.ntmps158
  go_wp2
  all_goals
    go_ret
    exact ⟨ret_bool (by simp_all [numB] <;> (intros; omega)), rfl⟩
/-- a packet with nothing but its head -/
def base (p : Pkt) : Pkt := { kind := p.kind, t := p.t, frm := p.frm, seq := p.seq, hops := p.hops, no := 0, to := 0, index := 0, total := 0, stamp := 0, value := 0 }
/-- whether a packet may be a pulse -/
def pulseB (p : Pkt) (l : List UInt8) : Bool :=
  if headB p = false then false
  else if p.kind = 2 then sameB { p with value := 0, stamp := 0 } (base p) && l.isEmpty
  else if p.kind = 1 then sameB { p with stamp := 0 } (base p) && l.isEmpty
  else if p.kind = 3 then numB p.no && (sameB { p with no := 0 } (base p) && l.isEmpty)
  else false
set_option maxRecDepth 100000 in
set_option maxHeartbeats 2000000 in
theorem pulsegood_any (p : Pkt) (A : Option Addr) (l : List UInt8) (c : Nat) (w : World) (hl : Bytes w A l) :
    Calls Try.prog 84 #[pv p A l.length c] w fun e w' => e = .returned (.bool (pulseB p l)) ∧ Below w.heap.size w w' := by
  by_cases hh : headB p = true
  · have hg := fun W => headgood_any p A l.length c W
    simp only [hh] at hg
    have HG := hide hg
    clear hg
    have hb0 := (Grow.refl w).alloc (.cells (pcells p A l.length c) 65)
    by_cases h2 : p.kind = 2
    · have HP := hide (show pulseB p l = (sameB { p with value := 0, stamp := 0 } (base p) && l.isEmpty) by unfold pulseB; rw [if_neg (by simp [hh]), if_pos h2])
      have k2 : (p.kind == 2) = true := by simpa using h2
      clear h2 hh
      go_enter Try.func84, Try.ntmps84
      go_wp2_with fail
      refine (HG.out _).mono ?_
      rintro e w1 ⟨rfl, hb1⟩
      obtain ⟨hc1, hf1⟩ := grown_cell hb1
      have hs1 : w.heap.size < w1.heap.size := by have := hb1.size; simp at this; omega
      have hl1 := (hl.grow hb0).grow hb1
      go_wp2_with fail
      refine (same_any { p with value := 0, stamp := 0 } (base p) A none l [] c 0 _ (hl1.alloc _) (Bytes.nil _ _)).mono ?_
      rintro e w2 ⟨rfl, hb2⟩
      go_wp2
      go_ret
      exact ⟨by rw [HP.out]; rfl, fin_ hb2 (Grow.alloc (Grow.step hb0 hb1) _)⟩
    · have k2 : (p.kind == 2) = false := by simpa using h2
      by_cases h1 : p.kind = 1
      · have HP := hide (show pulseB p l = (sameB { p with stamp := 0 } (base p) && l.isEmpty) by unfold pulseB; rw [if_neg (by simp [hh]), if_neg h2, if_pos h1])
        have k1 : (p.kind == 1) = true := by simpa using h1
        clear h2 hh h1
        go_enter Try.func84, Try.ntmps84
        go_wp2_with fail
        refine (HG.out _).mono ?_
        rintro e w1 ⟨rfl, hb1⟩
        obtain ⟨hc1, hf1⟩ := grown_cell hb1
        have hs1 : w.heap.size < w1.heap.size := by have := hb1.size; simp at this; omega
        have hl1 := (hl.grow hb0).grow hb1
        go_wp2_with fail
        refine (same_any { p with stamp := 0 } (base p) A none l [] c 0 _ (hl1.alloc _) (Bytes.nil _ _)).mono ?_
        rintro e w2 ⟨rfl, hb2⟩
        go_wp2
        go_ret
        exact ⟨by rw [HP.out]; rfl, fin_ hb2 (Grow.alloc (Grow.step hb0 hb1) _)⟩
      · have k1 : (p.kind == 1) = false := by simpa using h1
        by_cases h3 : p.kind = 3
        · have k3 : (p.kind == 3) = true := by simpa using h3
          by_cases hn : numB p.no = true
          · have HP := hide (show pulseB p l = (sameB { p with no := 0 } (base p) && l.isEmpty) by unfold pulseB; rw [if_neg (by simp [hh]), if_neg h2, if_neg h1, if_pos h3, hn, Bool.true_and])
            clear h2 hh h1 h3
            go_enter Try.func84, Try.ntmps84
            go_wp2_with fail
            refine (HG.out _).mono ?_
            rintro e w1 ⟨rfl, hb1⟩
            obtain ⟨hc1, hf1⟩ := grown_cell hb1
            have hs1 : w.heap.size < w1.heap.size := by have := hb1.size; simp at this; omega
            have hl1 := (hl.grow hb0).grow hb1
            go_wp2_with fail
            refine (number_any _ _).mono ?_
            rintro e w' ⟨rfl, rfl⟩
            go_wp2_with fail
            refine (same_any { p with no := 0 } (base p) A none l [] c 0 _ (hl1.alloc _) (Bytes.nil _ _)).mono ?_
            rintro e w2 ⟨rfl, hb2⟩
            go_wp2
            go_ret
            exact ⟨by rw [HP.out]; rfl, fin_ hb2 (Grow.alloc (Grow.step hb0 hb1) _)⟩
          · have hn : numB p.no = false := by simpa using hn
            have HP := hide (show pulseB p l = false by unfold pulseB; rw [if_neg (by simp [hh]), if_neg h2, if_neg h1, if_pos h3, hn, Bool.false_and])
            clear h2 hh h1 h3
            go_enter Try.func84, Try.ntmps84
            go_wp2_with fail
            refine (HG.out _).mono ?_
            rintro e w1 ⟨rfl, hb1⟩
            obtain ⟨hc1, hf1⟩ := grown_cell hb1
            have hs1 : w.heap.size < w1.heap.size := by have := hb1.size; simp at this; omega
            go_wp2_with fail
            refine (number_any _ _).mono ?_
            rintro e w' ⟨rfl, rfl⟩
            go_wp2
            refine bodyPost_ret (results_tmp rfl _ _ _) rfl ?_
            exact ⟨by rw [HP.out]; rfl, (Grow.step hb0 hb1).alloc _⟩
        · have k3 : (p.kind == 3) = false := by simpa using h3
          have HP := hide (show pulseB p l = false by unfold pulseB; rw [if_neg (by simp [hh]), if_neg h2, if_neg h1, if_neg h3])
          clear h2 hh h1 h3
          go_enter Try.func84, Try.ntmps84
          go_wp2_with fail
          refine (HG.out _).mono ?_
          rintro e w1 ⟨rfl, hb1⟩
          obtain ⟨hc1, hf1⟩ := grown_cell hb1
          have hs1 : w.heap.size < w1.heap.size := by have := hb1.size; simp at this; omega
          go_wp2
          refine bodyPost_ret (results_tmp rfl _ _ _) rfl ?_
          exact ⟨by rw [HP.out]; rfl, (Grow.step hb0 hb1).alloc _⟩
  · have HP := hide (show pulseB p l = false by unfold pulseB; rw [if_pos (by simpa using hh)])
    have hg := fun W => headgood_any p A l.length c W
    simp only [show headB p = false by simpa using hh] at hg
    have HG := hide hg
    clear hg hh
    go_enter Try.func84, Try.ntmps84
    go_wp2_with fail
    refine (HG.out _).mono ?_
    rintro e w1 ⟨rfl, hb1⟩
    go_wp2
    refine bodyPost_ret (results_tmp rfl _ _ _) rfl ?_
    exact ⟨by rw [HP.out]; rfl, ((Grow.refl w).alloc _).step hb1⟩
end Go.Proofs.Ytldgnallbkpchaa
