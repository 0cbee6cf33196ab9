/- The walks of chunk.Good, chunk.New and of their document. -/
import Derived.Test.YtpobjcdcimcdnaaFew
namespace Go.Proofs.Ytpobjcdcimcdnaa
open Go.RowKit
abbrev chunkP (t f q no to ix tot : Int) : Pkt := { kind := 6, t := t, frm := f, seq := q, hops := 1, no := no, to := to, index := ix, total := tot, stamp := 0, value := 0 }
def countsB (i n : Int) : Bool := decide (0 ≤ i) && decide (i < n) && decide (n ≤ 255)
/-- whether a packet may be a chunk: the numbers -/
def chunkN (p : Pkt) (n : Nat) : Bool := p.stamp == 0 && p.value == 0 && decide (n ≤ 64) && numB p.no && nodeB p.to && countsB p.index p.total
def chunkB (p : Pkt) (n : Nat) : Bool := p.kind == 6 && headB p && chunkN p n
set_option maxHeartbeats 400000 in
theorem counts_any (i n : Int) (w : World) : Calls Try.prog 120 #[.int .i64 i, .int .i64 n] w fun e w' => e = .returned (.bool (countsB i n)) ∧ w = w' := by
  go_enter Try.func120, Try.ntmps120
  go_wp2
  all_goals
    go_ret
    exact ⟨ret_bool (by simp_all [countsB] <;> (intros; omega)), rfl⟩
set_option maxRecDepth 100000 in
set_option maxHeartbeats 2000000 in
theorem chunkgood_any (p : Pkt) (A : Option Addr) (n c : Nat) (w : World) (hn : n ≤ 1000000000000) :
    Calls Try.prog 67 #[pv p A n c] w fun e w' => e = .returned (.bool (chunkB p n)) ∧ Below w.heap.size w w' := by
  have HG := hide (fun W => headgood_any p A n c W)
  have HN := hide (show chunkN p n = (p.stamp == 0 && p.value == 0 && decide (n ≤ 64) && numB p.no && nodeB p.to && countsB p.index p.total) from rfl)
  by_cases hk : p.kind = 6
  · have k6 : (p.kind != 6) = false := by simpa using hk
    have HD := hide (show chunkB p n = (headB p && chunkN p n) by simp [chunkB, hk])
    clear hk
    generalize headB p = b1 at *
    generalize chunkB p n = bb at *
    go_enter Try.func67, Try.ntmps67
    go_wp2_with fail
    refine (HG.out _).mono ?_
    rintro r w1 ⟨rfl, hb1⟩
    obtain ⟨p0, hg1⟩ := peel1 hb1
    have p0_ := hide p0
    clear p0
    have p0 := p0_
    clear p0_
    have HG1 := hide (show Grow w w1 from hg1)
    have hsz1 : w.heap.size ≤ w1.heap.size := HG1.out.size
    have hq1 : w.heap.size ≤ w1.heap.size := hg1.size
    have HS1 := hide hg1
    clear hb1 hg1
    obtain ⟨cp0, fp0, lp0⟩ := (show Box w1 _ _ from p0.out).rules
    cases b1 with
    | false =>
      go_wp2
      go_ret
      exact ⟨by rw [HD.out]; rfl, HG1.out⟩
    | true =>
      rw [Bool.true_and] at HD
      go_wp2_with (go_at_call 120; refine (counts_any _ _ _).mono ?_; rintro r w' ⟨rfl, rfl⟩)
      all_goals
        go_ret
        refine ⟨ret_bool ?_, HG1.out⟩
        rw [HD.out, HN.out]
        clear HD HN HG1 p0 cp0 fp0 lp0 HG
        rw [Bool.eq_iff_iff]
        simp_all [numB, nodeB, countsB] <;> omega
  · have k6 : (p.kind != 6) = true := by simpa using hk
    have HD := hide (show chunkB p n = false by simp [chunkB, hk])
    clear hk
    go_enter Try.func67, Try.ntmps67
    go_wp2
    go_ret
    exact ⟨by rw [HD.out]; rfl, (Grow.refl w).alloc _⟩
set_option maxRecDepth 100000 in
set_option maxHeartbeats 2000000 in
theorem refchunkgood_any (p : Pkt) (A : Option Addr) (n c : Nat) (w : World) (hn : n ≤ 1000000000000) :
    Calls Try.prog 68 #[pv p A n c] w fun e w' => e = .returned (.bool (chunkB p n)) ∧ Below w.heap.size w w' := by
  have HG := hide (fun W => refheadgood_any p A n c W)
  have HN := hide (show chunkN p n = (p.stamp == 0 && p.value == 0 && decide (n ≤ 64) && numB p.no && nodeB p.to && countsB p.index p.total) from rfl)
  by_cases hk : p.kind = 6
  · have k6 : (p.kind != 6) = false := by simpa using hk
    have HD := hide (show chunkB p n = (headB p && chunkN p n) by simp [chunkB, hk])
    clear hk
    generalize headB p = b1 at *
    generalize chunkB p n = bb at *
    go_enter Try.func68, Try.ntmps68
    go_wp2_with fail
    refine (HG.out _).mono ?_
    rintro r w1 ⟨rfl, hb1⟩
    obtain ⟨p0, hg1⟩ := peel1 hb1
    have p0_ := hide p0
    clear p0
    have p0 := p0_
    clear p0_
    have HG1 := hide (show Grow w w1 from hg1)
    have hsz1 : w.heap.size ≤ w1.heap.size := HG1.out.size
    have hq1 : w.heap.size ≤ w1.heap.size := hg1.size
    have HS1 := hide hg1
    clear hb1 hg1
    obtain ⟨cp0, fp0, lp0⟩ := (show Box w1 _ _ from p0.out).rules
    cases b1 with
    | false =>
      go_wp2
      go_ret
      exact ⟨by rw [HD.out]; rfl, HG1.out⟩
    | true =>
      rw [Bool.true_and] at HD
      go_wp2
      all_goals
        go_ret
        refine ⟨ret_bool ?_, HG1.out⟩
        rw [HD.out, HN.out]
        clear HD HN HG1 p0 cp0 fp0 lp0 HG
        rw [Bool.eq_iff_iff]
        simp_all [numB, nodeB, countsB] <;> omega
  · have k6 : (p.kind != 6) = true := by simpa using hk
    have HD := hide (show chunkB p n = false by simp [chunkB, hk])
    clear hk
    go_enter Try.func68, Try.ntmps68
    go_wp2
    go_ret
    exact ⟨by rw [HD.out]; rfl, (Grow.refl w).alloc _⟩
set_option maxRecDepth 100000 in
set_option maxHeartbeats 2000000 in
theorem refchunknew_any (t f q no to ix tot : Int) (A : Option Addr) (n c : Nat) (w : World) :
    Calls Try.prog 66 #[kv t f q, .int .i64 no, .int .i64 to, .int .i64 ix, .int .i64 tot, .slice A n c] w fun e w' => e = .returned (pv (chunkP t f q no to ix tot) A n c) ∧ Grow w w' := by
  go_enter Try.func66, Try.ntmps66
  go_wp2
  refine bodyPost_ret (v := pv (chunkP t f q no to ix tot) A n c) (by simp [results, Try.results66, go_sem]) rfl ⟨rfl, ?_⟩
  show Below w.heap.size w _
  repeat (with_reducible refine Below.setCell ?_ (by simp) _)
  exact ((Grow.refl w).alloc _).alloc _
set_option maxRecDepth 100000 in
set_option maxHeartbeats 2000000 in
theorem chunknew_any (t f q no to ix tot : Int) (A : Option Addr) (l : List UInt8) (c : Nat) (w : World) (hl : Bytes w A l) (hn : l.length ≤ 1000000000000) :
    Calls Try.prog 65 #[kv t f q, .int .i64 no, .int .i64 to, .int .i64 ix, .int .i64 tot, .slice A l.length c] w fun r w' => ∃ A' c', r = .returned (pv (chunkP t f q no to ix tot) A' l.length c') ∧ Own w' w.heap.size A' c' l ∧ Grow w w' := by
  have hO := hide (fun W h => clone_any A l c W h hn)
  go_enter Try.func65, Try.ntmps65
  go_wp2_with fail
  generalize hW1 : World.alloc (World.alloc w _) _ = w1
  have hb1 := Grow.of_eq hW1
  clear hW1
  obtain ⟨k0, q0, hg1⟩ := peel2 hb1
  have k0_ := hide k0
  clear k0
  have k0 := k0_
  clear k0_
  have q0_ := hide q0
  clear q0
  have q0 := q0_
  clear q0_
  have hl := hl.grow hg1
  have HG1 := hide (show Grow w w1 from hg1)
  have hsz1 : w.heap.size ≤ w1.heap.size := HG1.out.size
  have hq1 : w.heap.size ≤ w1.heap.size := hg1.size
  have HS1 := hide hg1
  clear hb1 hg1
  obtain ⟨ck0, fk0, lk0⟩ := (show Box w1 _ _ from k0.out).rules
  obtain ⟨cq0, fq0, lq0⟩ := (show Box w1 _ _ from q0.out).rules
  have hlow := lq0
  have Rk0 := fun (W : World) (h : Grow w1.drew W) => ((show Box w1 _ _ from k0.out).grow (Grow.of_drew h)).cell
  have Fk0 := fun (W : World) (h : Grow w1.drew W) => ((show Box w1 _ _ from k0.out).grow (Grow.of_drew h)).fz
  have Rq0 := fun (W : World) (h : Grow w1.drew W) => ((show Box w1 _ _ from q0.out).grow (Grow.of_drew h)).cell
  have Fq0 := fun (W : World) (h : Grow w1.drew W) => ((show Box w1 _ _ from q0.out).grow (Grow.of_drew h)).fz
  refine wpR_region (Grow) [8] (by kernel_rfl) ?_
  refine wpR_take grow_rf grow_tr 0 rfl (by kernel_rfl) (fun _ _ _ h => h) rfl (v := ?_) ?_ ?_
  rotate_left
  · (intro w' hG; go_simp; try with_reducible rfl)
  try simp only [Act.put, List.setIfInBounds_toArray, List.set_cons_zero, List.set_cons_succ]
  refine wpR_take grow_rf grow_tr 1 rfl (by kernel_rfl) (fun _ _ _ h => h) rfl (v := ?_) ?_ ?_
  rotate_left
  · (intro w' hG; go_simp; try with_reducible rfl)
  try simp only [Act.put, List.setIfInBounds_toArray, List.set_cons_zero, List.set_cons_succ]
  refine wpR_take grow_rf grow_tr 2 rfl (by kernel_rfl) (fun _ _ _ h => h) rfl (v := ?_) ?_ ?_
  rotate_left
  · (intro w' hG; go_simp; try with_reducible rfl)
  try simp only [Act.put, List.setIfInBounds_toArray, List.set_cons_zero, List.set_cons_succ]
  refine wpR_take grow_rf grow_tr 3 rfl (by kernel_rfl) (fun _ _ _ h => h) rfl (v := ?_) ?_ ?_
  rotate_left
  · (intro w' hG; go_simp; try with_reducible rfl)
  try simp only [Act.put, List.setIfInBounds_toArray, List.set_cons_zero, List.set_cons_succ]
  refine wpR_take grow_rf grow_tr 4 rfl (by kernel_rfl) (fun _ _ _ h => h) rfl (v := ?_) ?_ ?_
  rotate_left
  · (intro w' hG; go_simp; try with_reducible rfl)
  try simp only [Act.put, List.setIfInBounds_toArray, List.set_cons_zero, List.set_cons_succ]
  refine wpR_take grow_rf grow_tr 5 rfl (by kernel_rfl) (fun _ _ _ h => h) rfl (v := ?_) ?_ ?_
  rotate_left
  · (intro w' hG; go_simp; try with_reducible rfl)
  try simp only [Act.put, List.setIfInBounds_toArray, List.set_cons_zero, List.set_cons_succ]
  refine wpR_call 6 rfl (by kernel_rfl) rfl fun K hK => ?_
  go_simp
  refine (hO.out _ hl.drew).mono ?_
  rintro r w2 ⟨A1, c1, rfl, hown, hb2⟩
  have hlt := fun q h => hown.lt (q := q) h
  have hge := fun q h => hown.base (q := q) h
  refine hK.out _ _ (.inr (hb2)) ?_
  clear hK
  try simp only [Act.put, List.setIfInBounds_toArray, List.set_cons_zero, List.set_cons_succ]
  clear Rk0 Fk0 Rq0 Fq0
  have hb2 := Grow.of_drew hb2
  clear ck0 fk0 lk0 cq0 fq0 lq0
  have hg2 := hb2
  have k0_ := hide ((show Box w1 _ _ from k0.out).grow hg2)
  clear k0
  have k0 := k0_
  clear k0_
  have q0_ := hide ((show Box w1 _ _ from q0.out).grow hg2)
  clear q0
  have q0 := q0_
  clear q0_
  have hl := hl.grow hg2
  have HG2 := hide (Grow.trans (show Grow w w1 from HG1.out) hg2)
  clear HG1
  have hsz2 : w.heap.size ≤ w2.heap.size := HG2.out.size
  have hq2 : w1.heap.size ≤ w2.heap.size := hg2.size
  have HS2 := hide hg2
  clear hb2 hg2
  obtain ⟨ck0, fk0, lk0⟩ := (show Box w2 _ _ from k0.out).rules
  obtain ⟨cq0, fq0, lq0⟩ := (show Box w2 _ _ from q0.out).rules
  have Rk0 := fun (W : World) (h : Grow w2 W) => ((show Box w2 _ _ from k0.out).grow h).cell
  have Fk0 := fun (W : World) (h : Grow w2 W) => ((show Box w2 _ _ from k0.out).grow h).fz
  have Rq0 := fun (W : World) (h : Grow w2 W) => ((show Box w2 _ _ from q0.out).grow h).cell
  have Fq0 := fun (W : World) (h : Grow w2 W) => ((show Box w2 _ _ from q0.out).grow h).fz
  refine wpR_take grow_rf grow_tr 7 rfl (by kernel_rfl) (fun _ _ _ h => h) rfl (v := ?_) ?_ ?_
  rotate_left
  · (intro w' hG; go_simp; try with_reducible rfl)
  try simp only [Act.put, List.setIfInBounds_toArray, List.set_cons_zero, List.set_cons_succ]
  refine wpR_call 8 rfl (by kernel_rfl) rfl fun K hK => ?_
  go_simp
  skip
  refine hK.out _ _ (.inl (by simp)) ?_
  clear hK
  try simp only [Act.put, List.setIfInBounds_toArray, List.set_cons_zero, List.set_cons_succ]
  refine wpR_done (by kernel_rfl) ?_ _
  clear Rk0 Fk0 Rq0 Fq0
  go_wp2
  refine bodyPost_ret (v := pv (chunkP t f q no to ix tot) A1 l.length c1) (by simp [results, Try.results65, go_sem, cq0]) rfl ?_
  refine ⟨A1, c1, rfl, ?_, ?_⟩
  · repeat ((with_reducible refine Own.setAt ?_ ?_ _); rotate_left; · (intro q h; have h1 := hge q h; have h2 : w.heap.size + 1 < q := Nat.lt_of_lt_of_le hlow h1; simp; omega))
    exact hown.mono (Nat.le_trans (Nat.le_succ _) (Nat.le_of_lt hlow))
  · show Below w.heap.size w _
    repeat (with_reducible refine Below.setCell ?_ (by simp) _)
    exact HG2.out
end Go.Proofs.Ytpobjcdcimcdnaa
