/- Walks and plain lemmas that several statements share. -/
import Derived.Test.YtpobjcdcimcdnaaFewS
namespace Go.Proofs.Ytpobjcdcimcdnaa
open Go.RowKit
theorem fin_ {a b c : World} (k : Below b.heap.size b c) (h : Grow a b) : Below a.heap.size a c := Grow.step h k
set_option maxHeartbeats 400000 in
theorem number_any (k : Int) (w : World) : Calls Try.prog 145 #[.int .i64 k] w fun e w' => e = .returned (.bool (numB k)) ∧ w = w' := by
  go_enter Try.func145, Try.ntmps145
  go_wp2
  all_goals
    go_ret
    exact ⟨ret_bool (by simp_all [numB] <;> (intros; omega)), rfl⟩
/-- whether a packet may be a pulse -/
def pulseB (p : Pkt) (l : List UInt8) : Bool :=
  if headB p = false then false
  else if p.kind = 2 then sameB { p with value := 0, stamp := 0 } (base p) && l.isEmpty
  else if p.kind = 1 then sameB { p with stamp := 0 } (base p) && l.isEmpty
  else if p.kind = 3 then numB p.no && (sameB { p with no := 0 } (base p) && l.isEmpty)
  else false
set_option maxRecDepth 100000 in
set_option maxHeartbeats 2000000 in
theorem pulsegood_any (p : Pkt) (A : Option Addr) (l : List UInt8) (c : Nat) (w : World) (hl : Bytes w A l) :
    Calls Try.prog 124 #[pv p A l.length c] w fun e w' => e = .returned (.bool (pulseB p l)) ∧ Below w.heap.size w w' := by
  by_cases hh : headB p = true
  · have hg := fun W => headgood_any p A l.length c W
    simp only [hh] at hg
    have HG := hide hg
    clear hg
    have hb0 := (Grow.refl w).alloc (.cells (pcells p A l.length c) 65)
    by_cases h2 : p.kind = 2
    · have HP := hide (show pulseB p l = (sameB { p with value := 0, stamp := 0 } (base p) && l.isEmpty) by unfold pulseB; rw [if_neg (by simp [hh]), if_pos h2])
      have k2 : (p.kind == 2) = true := by simpa using h2
      clear h2 hh
      go_enter Try.func124, Try.ntmps124
      go_wp2_with fail
      refine (HG.out _).mono ?_
      rintro e w1 ⟨rfl, hb1⟩
      obtain ⟨hc1, hf1⟩ := grown_cell hb1
      have hs1 : w.heap.size < w1.heap.size := by have := hb1.size; simp at this; omega
      have hl1 := (hl.grow hb0).grow hb1
      go_wp2_with fail
      refine (same_any { p with value := 0, stamp := 0 } (base p) A none l [] c 0 _ (hl1.alloc _) (Bytes.nil _ _)).mono ?_
      rintro e w2 ⟨rfl, hb2⟩
      go_wp2
      go_ret
      exact ⟨by rw [HP.out]; rfl, fin_ hb2 (Grow.alloc (Grow.step hb0 hb1) _)⟩
    · have k2 : (p.kind == 2) = false := by simpa using h2
      by_cases h1 : p.kind = 1
      · have HP := hide (show pulseB p l = (sameB { p with stamp := 0 } (base p) && l.isEmpty) by unfold pulseB; rw [if_neg (by simp [hh]), if_neg h2, if_pos h1])
        have k1 : (p.kind == 1) = true := by simpa using h1
        clear h2 hh h1
        go_enter Try.func124, Try.ntmps124
        go_wp2_with fail
        refine (HG.out _).mono ?_
        rintro e w1 ⟨rfl, hb1⟩
        obtain ⟨hc1, hf1⟩ := grown_cell hb1
        have hs1 : w.heap.size < w1.heap.size := by have := hb1.size; simp at this; omega
        have hl1 := (hl.grow hb0).grow hb1
        go_wp2_with fail
        refine (same_any { p with stamp := 0 } (base p) A none l [] c 0 _ (hl1.alloc _) (Bytes.nil _ _)).mono ?_
        rintro e w2 ⟨rfl, hb2⟩
        go_wp2
        go_ret
        exact ⟨by rw [HP.out]; rfl, fin_ hb2 (Grow.alloc (Grow.step hb0 hb1) _)⟩
      · have k1 : (p.kind == 1) = false := by simpa using h1
        by_cases h3 : p.kind = 3
        · have k3 : (p.kind == 3) = true := by simpa using h3
          by_cases hn : numB p.no = true
          · have HP := hide (show pulseB p l = (sameB { p with no := 0 } (base p) && l.isEmpty) by unfold pulseB; rw [if_neg (by simp [hh]), if_neg h2, if_neg h1, if_pos h3, hn, Bool.true_and])
            clear h2 hh h1 h3
            go_enter Try.func124, Try.ntmps124
            go_wp2_with fail
            refine (HG.out _).mono ?_
            rintro e w1 ⟨rfl, hb1⟩
            obtain ⟨hc1, hf1⟩ := grown_cell hb1
            have hs1 : w.heap.size < w1.heap.size := by have := hb1.size; simp at this; omega
            have hl1 := (hl.grow hb0).grow hb1
            go_wp2_with fail
            refine (number_any _ _).mono ?_
            rintro e w' ⟨rfl, rfl⟩
            go_wp2_with fail
            refine (same_any { p with no := 0 } (base p) A none l [] c 0 _ (hl1.alloc _) (Bytes.nil _ _)).mono ?_
            rintro e w2 ⟨rfl, hb2⟩
            go_wp2
            go_ret
            exact ⟨by rw [HP.out]; rfl, fin_ hb2 (Grow.alloc (Grow.step hb0 hb1) _)⟩
          · have hn : numB p.no = false := by simpa using hn
            have HP := hide (show pulseB p l = false by unfold pulseB; rw [if_neg (by simp [hh]), if_neg h2, if_neg h1, if_pos h3, hn, Bool.false_and])
            clear h2 hh h1 h3
            go_enter Try.func124, Try.ntmps124
            go_wp2_with fail
            refine (HG.out _).mono ?_
            rintro e w1 ⟨rfl, hb1⟩
            obtain ⟨hc1, hf1⟩ := grown_cell hb1
            have hs1 : w.heap.size < w1.heap.size := by have := hb1.size; simp at this; omega
            go_wp2_with fail
            refine (number_any _ _).mono ?_
            rintro e w' ⟨rfl, rfl⟩
            go_wp2
            refine bodyPost_ret (results_tmp rfl _ _ _) rfl ?_
            exact ⟨by rw [HP.out]; rfl, (Grow.step hb0 hb1).alloc _⟩
        · have k3 : (p.kind == 3) = false := by simpa using h3
          have HP := hide (show pulseB p l = false by unfold pulseB; rw [if_neg (by simp [hh]), if_neg h2, if_neg h1, if_neg h3])
          clear h2 hh h1 h3
          go_enter Try.func124, Try.ntmps124
          go_wp2_with fail
          refine (HG.out _).mono ?_
          rintro e w1 ⟨rfl, hb1⟩
          obtain ⟨hc1, hf1⟩ := grown_cell hb1
          have hs1 : w.heap.size < w1.heap.size := by have := hb1.size; simp at this; omega
          go_wp2
          refine bodyPost_ret (results_tmp rfl _ _ _) rfl ?_
          exact ⟨by rw [HP.out]; rfl, (Grow.step hb0 hb1).alloc _⟩
  · have HP := hide (show pulseB p l = false by unfold pulseB; rw [if_pos (by simpa using hh)])
    have hg := fun W => headgood_any p A l.length c W
    simp only [show headB p = false by simpa using hh] at hg
    have HG := hide hg
    clear hg hh
    go_enter Try.func124, Try.ntmps124
    go_wp2_with fail
    refine (HG.out _).mono ?_
    rintro e w1 ⟨rfl, hb1⟩
    go_wp2
    refine bodyPost_ret (results_tmp rfl _ _ _) rfl ?_
    exact ⟨by rw [HP.out]; rfl, ((Grow.refl w).alloc _).step hb1⟩
end Go.Proofs.Ytpobjcdcimcdnaa
namespace Go.Proofs.Ytpobjcdcimcdnaa
open Go.RowKit
abbrev probeP (s : Int) : Pkt := { kind := 1, t := 0, frm := 0, seq := 0, hops := 0, no := 0, to := 0, index := 0, total := 0, stamp := s, value := 0 }
abbrev echoP (s v : Int) : Pkt := { kind := 2, t := 0, frm := 0, seq := 0, hops := 0, no := 0, to := 0, index := 0, total := 0, stamp := s, value := v }
abbrev beaconP (t f q no : Int) : Pkt := { kind := 3, t := t, frm := f, seq := q, hops := 1, no := no, to := 0, index := 0, total := 0, stamp := 0, value := 0 }
set_option maxHeartbeats 400000 in
theorem refprobe_any (s : Int) (w : World) : Calls Try.prog 146 #[.int .i64 s] w fun e w' => e = .returned (pv (probeP s) none 0 0) ∧ Grow w w' := by
  go_enter Try.func146, Try.ntmps146
  go_wp2
  exact bodyPost_ret (v := pv (probeP s) none 0 0) (by simp [results, Try.results146, go_sem]) rfl ⟨rfl, (Grow.refl w).alloc _⟩
set_option maxHeartbeats 400000 in
theorem refecho_any (p : Pkt) (A : Option Addr) (n c : Nat) (v : Int) (w : World) : Calls Try.prog 147 #[pv p A n c, .int .i64 v] w fun e w' => e = .returned (pv (echoP p.stamp v) none 0 0) ∧ Grow w w' := by
  go_enter Try.func147, Try.ntmps147
  go_wp2
  exact bodyPost_ret (v := pv (echoP p.stamp v) none 0 0) (by simp [results, Try.results147, go_sem]) rfl ⟨rfl, ((Grow.refl w).alloc _).alloc _⟩
set_option maxHeartbeats 400000 in
theorem refbeacon_any (t f q no : Int) (w : World) : Calls Try.prog 148 #[kv t f q, .int .i64 no] w fun e w' => e = .returned (pv (beaconP t f q no) none 0 0) ∧ Grow w w' := by
  go_enter Try.func148, Try.ntmps148
  go_wp2
  exact bodyPost_ret (v := pv (beaconP t f q no) none 0 0) (by simp [results, Try.results148, go_sem]) rfl ⟨rfl, ((Grow.refl w).alloc _).alloc _⟩
theorem pulse_one (p : Pkt) (l : List UInt8) (hh : headB p = true) (h1 : p.kind = 1) : pulseB p l = (sameB p (probeP p.stamp) && l.isEmpty) := by
  unfold pulseB
  rw [if_neg (by simp [hh]), if_neg (by omega), if_pos h1]
  unfold headB at hh
  rw [if_neg (by simp [floodB, h1])] at hh
  simp only [Bool.and_eq_true, beq_iff_eq, noKey] at hh
  obtain ⟨⟨_, h2⟩, ⟨h3, h4⟩, h5⟩ := hh
  simp [sameB, restB, keyEq, base, h1, h2, h3, h4, h5]
theorem pulse_two (p : Pkt) (l : List UInt8) (hh : headB p = true) (h1 : p.kind = 2) : pulseB p l = (sameB p (echoP p.stamp p.value) && l.isEmpty) := by
  unfold pulseB
  rw [if_neg (by simp [hh]), if_pos h1]
  unfold headB at hh
  rw [if_neg (by simp [floodB, h1])] at hh
  simp only [Bool.and_eq_true, beq_iff_eq, noKey] at hh
  obtain ⟨⟨_, h2⟩, ⟨h3, h4⟩, h5⟩ := hh
  simp [sameB, restB, keyEq, base, h1, h2, h3, h4, h5]
theorem pulse_three (p : Pkt) (l : List UInt8) (hh : headB p = true) (h1 : p.kind = 3) : pulseB p l = (sameB p { beaconP p.t p.frm p.seq p.no with hops := p.hops } && l.isEmpty && decide (0 ≤ p.no) && decide (p.no ≤ 1152921504606846976)) := by
  unfold pulseB
  rw [if_neg (by simp [hh]), if_neg (by omega), if_neg (by omega), if_pos h1]
  rw [Bool.eq_iff_iff]
  simp [sameB, restB, keyEq, base, h1, numB]
  constructor
  · rintro ⟨⟨a, b⟩, c, d⟩; exact ⟨⟨⟨c, d⟩, a⟩, b⟩
  · rintro ⟨⟨⟨c, d⟩, a⟩, b⟩; exact ⟨⟨a, b⟩, c, d⟩
theorem pulse_other (p : Pkt) (l : List UInt8) (h1 : p.kind ≠ 1) (h2 : p.kind ≠ 2) (h3 : p.kind ≠ 3) : pulseB p l = false := by
  unfold pulseB
  rw [if_neg h2, if_neg h1, if_neg h3]
  simp
set_option maxRecDepth 100000 in
set_option maxHeartbeats 4000000 in
theorem refpulsegood_any (p : Pkt) (A : Option Addr) (l : List UInt8) (c : Nat) (w : World) (hl : Bytes w A l) :
    Calls Try.prog 125 #[pv p A l.length c] w fun e w' => e = .returned (.bool (pulseB p l)) ∧ Below w.heap.size w w' := by
  obtain ⟨hp0, hb0⟩ := one_box w (pcells p A l.length c) 65
  by_cases hh : headB p = true
  · have hg := fun W => refheadgood_any p A l.length c W
    simp only [hh] at hg
    have HG := hide hg
    clear hg
    by_cases h1 : p.kind = 1
    · have HP := hide (pulse_one p l hh h1)
      have k1 : (p.kind == 1) = true := by simpa using h1
      clear h1 hh
      go_enter Try.func125, Try.ntmps125
      go_wp2_with fail
      refine (HG.out _).mono ?_
      rintro e w1 ⟨rfl, hb1⟩
      have hG1 : Grow w w1 := hb0.trans hb1
      have hp1 := hp0.grow (by simp) hb1
      have hl1 := hl.grow hG1
      clear hp0 hb1 hb0 hl
      have hpc := fun (W : World) (h : Grow w1.drew W) => hp1.grow (by simp) (Grow.of_drew h)
      have hpx := hp1
      unfold Holds at hpc hpx
      go_wp2_with fail
      refine wpG_region (by kernel_rfl) ?_
      refine wpG_take 0 rfl (by kernel_rfl) (fun _ _ _ h => h) rfl (v := ?_) ?_ ?_
      rotate_left
      · (intro w' hG; go_simp; try with_reducible rfl)
      try simp only [Act.put, List.setIfInBounds_toArray, List.set_cons_zero, List.set_cons_succ]
      refine wpG_take 1 rfl (by kernel_rfl) (fun _ _ _ h => h) rfl (v := ?_) ?_ ?_
      rotate_left
      · (intro w' hG; go_simp; try with_reducible rfl)
      try simp only [Act.put, List.setIfInBounds_toArray, List.set_cons_zero, List.set_cons_succ]
      refine wpG_take 2 rfl (by kernel_rfl) (fun _ _ _ h => h) rfl (v := ?_) ?_ ?_
      rotate_left
      · (intro w' hG; go_simp; try with_reducible rfl)
      try simp only [Act.put, List.setIfInBounds_toArray, List.set_cons_zero, List.set_cons_succ]
      refine wpG_call 3 rfl (by kernel_rfl) rfl fun K hK => ?_
      go_simp
      refine (refprobe_any _ _).mono ?_
      rintro e w2 ⟨rfl, hb2⟩
      refine hK.out _ _ (hb2) ?_
      clear hK
      try simp only [Act.put, List.setIfInBounds_toArray, List.set_cons_zero, List.set_cons_succ]
      refine wpG_call 4 rfl (by kernel_rfl) rfl fun K hK => ?_
      go_simp
      refine (refsame_any p (probeP p.stamp) A none l [] c 0 _ (hl1.drew.grow hb2) (Bytes.nil _ _)).mono ?_
      rintro e w3 ⟨rfl, hb3⟩
      refine hK.out _ _ (hb3) ?_
      clear hK
      try simp only [Act.put, List.setIfInBounds_toArray, List.set_cons_zero, List.set_cons_succ]
      refine wpG_take 5 rfl (by kernel_rfl) (fun _ _ _ h => h) rfl (v := ?_) ?_ ?_
      rotate_left
      · (intro w' hG; go_simp; try with_reducible rfl)
      try simp only [Act.put, List.setIfInBounds_toArray, List.set_cons_zero, List.set_cons_succ]
      refine wpG_done (by kernel_rfl) ?_ _
      go_wp2
      refine bodyPost_ret (results_tmp rfl _ _ _) rfl ?_
      exact ⟨by rw [HP.out]; rfl, fin_ hb3 (hG1.trans (Grow.of_drew hb2))⟩
    · by_cases h2 : p.kind = 2
      · have HP := hide (pulse_two p l hh h2)
        have k1 : (p.kind == 1) = false := by simpa using h1
        have k2 : (p.kind == 2) = true := by simpa using h2
        clear h1 h2 hh
        go_enter Try.func125, Try.ntmps125
        go_wp2_with fail
        refine (HG.out _).mono ?_
        rintro e w1 ⟨rfl, hb1⟩
        have hG1 : Grow w w1 := hb0.trans hb1
        have hp1 := hp0.grow (by simp) hb1
        have hl1 := hl.grow hG1
        have hlt := hp1.lt (by simp)
        clear hp0 hb1 hb0 hl
        have hpc := fun (W : World) (h : Grow w1.drew W) => hp1.grow (by simp) (Grow.of_drew h)
        have hpx := hp1
        unfold Holds at hpc hpx
        go_wp2_with fail
        refine wpG_region (by kernel_rfl) ?_
        refine wpG_take 0 rfl (by kernel_rfl) (fun _ _ _ h => h) rfl (v := ?_) ?_ ?_
        rotate_left
        · (intro w' hG; go_simp; try with_reducible rfl)
        try simp only [Act.put, List.setIfInBounds_toArray, List.set_cons_zero, List.set_cons_succ]
        refine wpG_take 1 rfl (by kernel_rfl) (fun _ _ _ h => h) rfl (v := ?_) ?_ ?_
        rotate_left
        · (intro w' hG; go_simp; try with_reducible rfl)
        try simp only [Act.put, List.setIfInBounds_toArray, List.set_cons_zero, List.set_cons_succ]
        refine wpG_take 2 rfl (by kernel_rfl) (fun _ _ _ h => h) rfl (v := ?_) ?_ ?_
        rotate_left
        · (intro w' hG; go_simp; try with_reducible rfl)
        try simp only [Act.put, List.setIfInBounds_toArray, List.set_cons_zero, List.set_cons_succ]
        refine wpG_take 3 rfl (by kernel_rfl) (fun _ _ _ h => h) rfl (v := ?_) ?_ ?_
        rotate_left
        · (intro w' hG; go_simp; try with_reducible rfl)
        try simp only [Act.put, List.setIfInBounds_toArray, List.set_cons_zero, List.set_cons_succ]
        refine wpG_call 4 rfl (by kernel_rfl) rfl fun K hK => ?_
        go_simp
        refine (refecho_any p A l.length c p.value _).mono ?_
        rintro e w2 ⟨rfl, hb2⟩
        refine hK.out _ _ (hb2) ?_
        clear hK
        try simp only [Act.put, List.setIfInBounds_toArray, List.set_cons_zero, List.set_cons_succ]
        refine wpG_call 5 rfl (by kernel_rfl) rfl fun K hK => ?_
        go_simp
        refine (refsame_any p (echoP p.stamp p.value) A none l [] c 0 _ (hl1.drew.grow hb2) (Bytes.nil _ _)).mono ?_
        rintro e w3 ⟨rfl, hb3⟩
        refine hK.out _ _ (hb3) ?_
        clear hK
        try simp only [Act.put, List.setIfInBounds_toArray, List.set_cons_zero, List.set_cons_succ]
        refine wpG_take 6 rfl (by kernel_rfl) (fun _ _ _ h => h) rfl (v := ?_) ?_ ?_
        rotate_left
        · (intro w' hG; go_simp; try with_reducible rfl)
        try simp only [Act.put, List.setIfInBounds_toArray, List.set_cons_zero, List.set_cons_succ]
        refine wpG_done (by kernel_rfl) ?_ _
        go_wp2
        refine bodyPost_ret (results_tmp rfl _ _ _) rfl ?_
        exact ⟨by rw [HP.out]; rfl, fin_ hb3 (hG1.trans (Grow.of_drew hb2))⟩
      · have k1 : (p.kind == 1) = false := by simpa using h1
        have k2 : (p.kind == 2) = false := by simpa using h2
        by_cases h3 : p.kind = 3
        · have HP := hide (pulse_three p l hh h3)
          have k3 : (p.kind == 3) = true := by simpa using h3
          clear h1 h2 h3 hh
          go_enter Try.func125, Try.ntmps125
          go_wp2_with fail
          refine (HG.out _).mono ?_
          rintro e w1 ⟨rfl, hb1⟩
          have hG1 : Grow w w1 := hb0.trans hb1
          have hp1 := hp0.grow (by simp) hb1
          have hl1 := hl.grow hG1
          have hlt := hp1.lt (by simp)
          clear hp0 hb1 hb0 hl
          have hpx := hp1
          unfold Holds at hpx
          go_wp2_with fail
          refine (refbeacon_any _ _ _ _ _).mono ?_
          rintro e w2 ⟨rfl, hb2⟩
          have hpy := hp1.grow (by simp) hb2
          have hlt2 : w.heap.size < w2.heap.size := Nat.lt_of_lt_of_le hlt hb2.size
          have hl2 := hl1.grow hb2
          unfold Holds at hpy
          clear hpx
          go_wp2_with fail
          refine (refsame_any p { beaconP p.t p.frm p.seq p.no with hops := p.hops } A none l [] c 0 _ (hl2.alloc _) (Bytes.nil _ _)).mono ?_
          rintro e w3 ⟨rfl, hb3⟩
          obtain ⟨hc3, hf3⟩ := grown_cell hb3
          have HB := hide (fin_ hb3 ((hG1.trans hb2).alloc _))
          have hlt3 : w.heap.size < w3.heap.size := by have := hb3.size; simp at this; omega
          clear hb3
          go_wp2
          all_goals
            go_ret
            refine ⟨ret_bool ?_, HB.out⟩
            have hq := HP.out
            clear HP hc3 hf3 hpy HG HB
            first
              | (rw [hq]; simp_all; done)
              | (simp_all; omega)
              | (simp_all; done)
        · have HP := hide (pulse_other p l h1 h2 h3)
          have k3 : (p.kind == 3) = false := by simpa using h3
          clear h1 h2 h3 hh
          go_enter Try.func125, Try.ntmps125
          go_wp2_with fail
          refine (HG.out _).mono ?_
          rintro e w1 ⟨rfl, hb1⟩
          have hG1 : Grow w w1 := hb0.trans hb1
          have hp1 := hp0.grow (by simp) hb1
          have hl1 := hl.grow hG1
          have hlt := hp1.lt (by simp)
          clear hp0 hb1 hb0 hl
          have hpx := hp1
          unfold Holds at hpx
          go_wp2_with fail
          refine (refbeacon_any _ _ _ _ _).mono ?_
          rintro e w2 ⟨rfl, hb2⟩
          have hpy := hp1.grow (by simp) hb2
          have hlt2 : w.heap.size < w2.heap.size := Nat.lt_of_lt_of_le hlt hb2.size
          unfold Holds at hpy
          clear hpx
          go_wp2
          go_ret
          exact ⟨by rw [HP.out]; rfl, (hG1.trans hb2).alloc _⟩
  · have HP := hide (show pulseB p l = false by unfold pulseB; rw [if_pos (by simpa using hh)])
    have hg := fun W => refheadgood_any p A l.length c W
    simp only [show headB p = false by simpa using hh] at hg
    have HG := hide hg
    clear hg hh
    go_enter Try.func125, Try.ntmps125
    go_wp2_with fail
    refine (HG.out _).mono ?_
    rintro e w1 ⟨rfl, hb1⟩
    go_wp2
    refine bodyPost_ret (results_tmp rfl _ _ _) rfl ?_
    exact ⟨by rw [HP.out]; rfl, hb0.trans hb1⟩
end Go.Proofs.Ytpobjcdcimcdnaa
namespace Go.Proofs.Ytpobjcdcimcdnaa
open Go.RowKit
end Go.Proofs.Ytpobjcdcimcdnaa
namespace Go.Proofs.Ytpobjcdcimcdnaa
open Go.RowKit
end Go.Proofs.Ytpobjcdcimcdnaa
namespace Go.Proofs.Ytpobjcdcimcdnaa
open Go.RowKit
end Go.Proofs.Ytpobjcdcimcdnaa
namespace Go.Proofs.Ytpobjcdcimcdnaa
open Go.RowKit
end Go.Proofs.Ytpobjcdcimcdnaa
