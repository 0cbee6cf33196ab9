/- The walks of data.New, data.Put, data.Entry, and of the example. -/
import Derived.Test.YtldgnallbkpchaaDataD
namespace Go.Proofs.Ytldgnallbkpchaa
open Go.RowKit
set_option maxRecDepth 100000 in
set_option maxHeartbeats 2000000 in
theorem datanew_any (t f q : Int) (A : Option Addr) (l : List UInt8) (c : Nat) (w : World) (hl : Bytes w A l) (hn : l.length ≤ 1000000000000) (hc : l.length ≤ c) :
    Calls Try.prog 74 #[kv t f q, .slice A l.length c] w fun r w' => ∃ A' c', r = .returned (pv (dataP t f q 1) A' l.length c') ∧ Own w' w.heap.size A' c' l ∧ Grow w w' := by
  have hO := hide (fun W h => own_any A l c W h hn hc)
  go_enter Try.func74, Try.ntmps74
  go_wp2_with fail
  generalize hW1 : World.alloc (World.alloc w _) _ = w1
  have hb1 := Grow.of_eq hW1
  clear hW1
  obtain ⟨k0, q0, hg1⟩ := peel2 hb1
  have k0_ := hide k0
  clear k0
  have k0 := k0_
  clear k0_
  have q0_ := hide q0
  clear q0
  have q0 := q0_
  clear q0_
  have hl := hl.grow hg1
  have HG1 := hide (show Grow w w1 from hg1)
  clear hb1 hg1
  obtain ⟨ck0, fk0, lk0⟩ := (show Box w1 _ _ from k0.out).rules
  obtain ⟨cq0, fq0, lq0⟩ := (show Box w1 _ _ from q0.out).rules
  have hlow := lq0
  have Rk0 := fun (W : World) (h : Grow w1.drew W) => ((show Box w1 _ _ from k0.out).grow (Grow.of_drew h)).cell
  have Fk0 := fun (W : World) (h : Grow w1.drew W) => ((show Box w1 _ _ from k0.out).grow (Grow.of_drew h)).fz
  have Rq0 := fun (W : World) (h : Grow w1.drew W) => ((show Box w1 _ _ from q0.out).grow (Grow.of_drew h)).cell
  have Fq0 := fun (W : World) (h : Grow w1.drew W) => ((show Box w1 _ _ from q0.out).grow (Grow.of_drew h)).fz
  refine wpR_region (Grow) [4] (by kernel_rfl) ?_
  refine wpR_take grow_rf grow_tr 0 rfl (by kernel_rfl) (fun _ _ _ h => h) rfl (v := ?_) ?_ ?_
  rotate_left
  · (intro w' hG; go_simp; try with_reducible rfl)
  try simp only [Act.put, List.setIfInBounds_toArray, List.set_cons_zero, List.set_cons_succ]
  refine wpR_take grow_rf grow_tr 1 rfl (by kernel_rfl) (fun _ _ _ h => h) rfl (v := ?_) ?_ ?_
  rotate_left
  · (intro w' hG; go_simp; try with_reducible rfl)
  try simp only [Act.put, List.setIfInBounds_toArray, List.set_cons_zero, List.set_cons_succ]
  refine wpR_call 2 rfl (by kernel_rfl) rfl fun K hK => ?_
  go_simp
  refine (hO.out _ hl.drew).mono ?_
  rintro r w2 ⟨A1, c1, rfl, hown, hb2⟩
  have hlt := fun q h => hown.lt (q := q) h
  have hge := fun q h => hown.base (q := q) h
  refine hK.out _ _ (.inr (hb2)) ?_
  clear hK
  try simp only [Act.put, List.setIfInBounds_toArray, List.set_cons_zero, List.set_cons_succ]
  clear Rk0 Fk0 Rq0 Fq0
  have hb2 := Grow.of_drew hb2
  clear ck0 fk0 lk0 cq0 fq0 lq0
  have hg2 := hb2
  have k0_ := hide ((show Box w1 _ _ from k0.out).grow hg2)
  clear k0
  have k0 := k0_
  clear k0_
  have q0_ := hide ((show Box w1 _ _ from q0.out).grow hg2)
  clear q0
  have q0 := q0_
  clear q0_
  have hl := hl.grow hg2
  have HG2 := hide (Grow.trans (show Grow w w1 from HG1.out) hg2)
  clear HG1
  clear hb2 hg2
  obtain ⟨ck0, fk0, lk0⟩ := (show Box w2 _ _ from k0.out).rules
  obtain ⟨cq0, fq0, lq0⟩ := (show Box w2 _ _ from q0.out).rules
  have Rk0 := fun (W : World) (h : Grow w2 W) => ((show Box w2 _ _ from k0.out).grow h).cell
  have Fk0 := fun (W : World) (h : Grow w2 W) => ((show Box w2 _ _ from k0.out).grow h).fz
  have Rq0 := fun (W : World) (h : Grow w2 W) => ((show Box w2 _ _ from q0.out).grow h).cell
  have Fq0 := fun (W : World) (h : Grow w2 W) => ((show Box w2 _ _ from q0.out).grow h).fz
  refine wpR_take grow_rf grow_tr 3 rfl (by kernel_rfl) (fun _ _ _ h => h) rfl (v := ?_) ?_ ?_
  rotate_left
  · (intro w' hG; go_simp; try with_reducible rfl)
  try simp only [Act.put, List.setIfInBounds_toArray, List.set_cons_zero, List.set_cons_succ]
  refine wpR_call 4 rfl (by kernel_rfl) rfl fun K hK => ?_
  go_simp
  skip
  refine hK.out _ _ (.inl (by simp)) ?_
  clear hK
  try simp only [Act.put, List.setIfInBounds_toArray, List.set_cons_zero, List.set_cons_succ]
  refine wpR_done (by kernel_rfl) ?_ _
  clear Rk0 Fk0 Rq0 Fq0
  go_wp2
  refine bodyPost_ret (v := pv (dataP t f q 1) A1 l.length c1) (by simp [results, Try.results74, go_sem, cq0]) rfl ?_
  refine ⟨A1, c1, rfl, ?_, ?_⟩
  · repeat ((with_reducible refine Own.setAt ?_ ?_ _); rotate_left; · (intro q h; have h1 := hge q h; have h2 : w.heap.size + 1 < q := Nat.lt_of_lt_of_le hlow h1; simp; omega))
    exact hown.mono (Nat.le_trans (Nat.le_succ _) (Nat.le_of_lt hlow))
  · show Below w.heap.size w _
    repeat (with_reducible refine Below.setCell ?_ (by simp) _)
    exact HG2.out
set_option maxRecDepth 100000 in
set_option maxHeartbeats 2000000 in
theorem dataput_any (B p : Nat) (A : Option Addr) (c : Nat) (e : Int) (b : List UInt8) (most : Int) (q : Pkt) (A2 : Option Addr) (l : List UInt8) (c2 : Nat) (w : World) (h : Wr w B p A c e b most) (hl : Bytes w A2 l)
    (hb : b.length ≤ 1000000000000) (hll : l.length ≤ 1000000000000) (hB : B ≤ w.heap.size) (hd : ∀ q, blk A2 = some q → blk A ≠ some q) :
    Calls Try.prog 80 #[.pointer (some ⟨p, 0, none⟩), pv q A2 l.length c2] w fun r w' => r = .returned (.tuple #[]) ∧ Wrote w w' B p A (Buf.wput most (e, b) (Buf.sevens l.length ++ l)) most := by
  have hg0 := (Grow.refl w).alloc (.cells (pcells q A2 l.length c2) 65)
  have hW := hide (wbytes_any B p A c e b most A2 l c2 _ (h.grow hg0) (hl.grow hg0) hb hll (by simp; omega) hd)
  go_enter Try.func80, Try.ntmps80
  go_wp2_with fail
  refine hW.out.mono ?_
  rintro r w1 ⟨rfl, hw1⟩
  go_wp2
  go_end0
  exact ⟨rfl, hw1.grown hg0⟩
/-- an entry -/
abbrev ev (a t f q : Int) (A : Option Addr) (n c : Nat) : Value := .agg #[.int .i64 a, .int .i64 t, .int .i64 f, .int .u32 q, .slice A n c]
set_option maxRecDepth 100000 in
set_option maxHeartbeats 2000000 in
theorem entry_bad (p : Pkt) (A : Option Addr) (l : List UInt8) (c : Nat) (d : Int) (w : World) (hn : l.length ≤ 1000000000000) (h : dataB p l.length = false ∨ d < 0) :
    Calls Try.prog 79 #[pv p A l.length c, .int .i64 d] w fun r w' => r = .returned (.tuple #[ev 0 0 0 0 none 0 0, .int .i64 1]) ∧ Grow w w' := by
  have HG := hide (fun W => datagood_any p A l.length c W hn)
  cases hb : dataB p l.length with
  | false =>
    rw [hb] at HG
    clear h hb
    go_enter Try.func79, Try.ntmps79
    go_wp2_with fail
    refine (HG.out _).mono ?_
    rintro r w1 ⟨rfl, hb1⟩
    obtain ⟨p0, q0, hg1⟩ := peel2 hb1
    have p0_ := hide p0
    clear p0
    have p0 := p0_
    clear p0_
    have q0_ := hide q0
    clear q0
    have q0 := q0_
    clear q0_
    have HG1 := hide (show Grow w w1 from hg1)
    clear hb1 hg1
    obtain ⟨cp0, fp0, lp0⟩ := (show Box w1 _ _ from p0.out).rules
    obtain ⟨cq0, fq0, lq0⟩ := (show Box w1 _ _ from q0.out).rules
    go_wp2
    refine bodyPost_ret (v := .tuple #[ev 0 0 0 0 none 0 0, .int .i64 1]) (by simp [results, Try.results79, go_sem, cq0]) rfl ?_
    refine ⟨rfl, ?_⟩
    show Below w.heap.size w _
    repeat (with_reducible refine Below.setCell ?_ (by simp) _)
    exact HG1.out
  | true =>
    have hd : d < 0 := by rcases h with h | h <;> simp_all
    rw [hb] at HG
    clear h hb
    go_enter Try.func79, Try.ntmps79
    go_wp2_with fail
    refine (HG.out _).mono ?_
    rintro r w1 ⟨rfl, hb1⟩
    obtain ⟨p0, q0, hg1⟩ := peel2 hb1
    have p0_ := hide p0
    clear p0
    have p0 := p0_
    clear p0_
    have q0_ := hide q0
    clear q0
    have q0 := q0_
    clear q0_
    have HG1 := hide (show Grow w w1 from hg1)
    clear hb1 hg1
    obtain ⟨cp0, fp0, lp0⟩ := (show Box w1 _ _ from p0.out).rules
    obtain ⟨cq0, fq0, lq0⟩ := (show Box w1 _ _ from q0.out).rules
    go_wp2
    refine bodyPost_ret (v := .tuple #[ev 0 0 0 0 none 0 0, .int .i64 1]) (by simp [results, Try.results79, go_sem, cq0]) rfl ?_
    refine ⟨rfl, ?_⟩
    show Below w.heap.size w _
    repeat (with_reducible refine Below.setCell ?_ (by simp) _)
    exact HG1.out
set_option maxRecDepth 100000 in
set_option maxHeartbeats 2000000 in
theorem entry_over (p : Pkt) (A : Option Addr) (l : List UInt8) (c : Nat) (d : Int) (w : World) (hn : l.length ≤ 1000000000000) (h : dataB p l.length = true) (h0 : 0 ≤ d) (h1 : 1152921504606846976 - p.t < d) :
    Calls Try.prog 79 #[pv p A l.length c, .int .i64 d] w fun r w' => r = .returned (.tuple #[ev 0 0 0 0 none 0 0, .int .i64 18]) ∧ Grow w w' := by
  have ht0 : 0 ≤ p.t ∧ p.t ≤ 1152921504606846976 := by
    simp only [dataB, Bool.and_eq_true, beq_iff_eq] at h
    obtain ⟨⟨⟨h1, h2⟩, _⟩, _⟩ := h
    unfold headB at h2
    rw [if_pos (by simp [floodB, h1])] at h2
    simp [keyB] at h2
    omega
  obtain ⟨ht1, ht2⟩ := ht0
  have HG := hide (fun W => datagood_any p A l.length c W hn)
  rw [h] at HG
  clear h
  go_enter Try.func79, Try.ntmps79
  go_wp2_with fail
  refine (HG.out _).mono ?_
  rintro r w1 ⟨rfl, hb1⟩
  obtain ⟨p0, q0, hg1⟩ := peel2 hb1
  have p0_ := hide p0
  clear p0
  have p0 := p0_
  clear p0_
  have q0_ := hide q0
  clear q0
  have q0 := q0_
  clear q0_
  have HG1 := hide (show Grow w w1 from hg1)
  clear hb1 hg1
  obtain ⟨cp0, fp0, lp0⟩ := (show Box w1 _ _ from p0.out).rules
  obtain ⟨cq0, fq0, lq0⟩ := (show Box w1 _ _ from q0.out).rules
  go_wp2
  refine bodyPost_ret (v := .tuple #[ev 0 0 0 0 none 0 0, .int .i64 18]) (by simp [results, Try.results79, go_sem, cq0]) rfl ?_
  refine ⟨rfl, ?_⟩
  show Below w.heap.size w _
  repeat (with_reducible refine Below.setCell ?_ (by simp) _)
  exact HG1.out
set_option maxRecDepth 100000 in
set_option maxHeartbeats 2000000 in
theorem entry_ok (p : Pkt) (A : Option Addr) (l : List UInt8) (c : Nat) (d : Int) (w : World) (hl : Bytes w A l) (hn : l.length ≤ 1000000000000) (h : dataB p l.length = true) (h0 : 0 ≤ d) (h1 : d ≤ 1152921504606846976 - p.t) (hc : l.length ≤ c) :
    Calls Try.prog 79 #[pv p A l.length c, .int .i64 d] w fun r w' => (∃ A1 c1, r = .returned (.tuple #[ev (p.t + d) p.t p.frm p.seq A1 l.length c1, .int .i64 0]) ∧ Own w' w.heap.size A1 c1 l) ∧ Grow w w' := by
  have ht0 : 0 ≤ p.t ∧ p.t ≤ 1152921504606846976 := by
    simp only [dataB, Bool.and_eq_true, beq_iff_eq] at h
    obtain ⟨⟨⟨h1, h2⟩, _⟩, _⟩ := h
    unfold headB at h2
    rw [if_pos (by simp [floodB, h1])] at h2
    simp [keyB] at h2
    omega
  obtain ⟨ht1, ht2⟩ := ht0
  have HG := hide (fun W => datagood_any p A l.length c W hn)
  rw [h] at HG
  clear h
  have hO := hide (fun W h => own_any A l c W h hn hc)
  go_enter Try.func79, Try.ntmps79
  go_wp2_with fail
  refine (HG.out _).mono ?_
  rintro r w1 ⟨rfl, hb1⟩
  obtain ⟨p0, q0, hg1⟩ := peel2 hb1
  have p0_ := hide p0
  clear p0
  have p0 := p0_
  clear p0_
  have q0_ := hide q0
  clear q0
  have q0 := q0_
  clear q0_
  have hl := hl.grow hg1
  have HG1 := hide (show Grow w w1 from hg1)
  clear hb1 hg1
  obtain ⟨cp0, fp0, lp0⟩ := (show Box w1 _ _ from p0.out).rules
  obtain ⟨cq0, fq0, lq0⟩ := (show Box w1 _ _ from q0.out).rules
  have hlow := lq0
  have hw : IntKind.i64.wrap (p.t + d) = p.t + d := IntWalk.i64_in _ (by omega)
  go_wp2_with fail
  have Rp0 := fun (W : World) (h : Grow w1.drew W) => ((show Box w1 _ _ from p0.out).grow (Grow.of_drew h)).cell
  have Fp0 := fun (W : World) (h : Grow w1.drew W) => ((show Box w1 _ _ from p0.out).grow (Grow.of_drew h)).fz
  have Rq0 := fun (W : World) (h : Grow w1.drew W) => ((show Box w1 _ _ from q0.out).grow (Grow.of_drew h)).cell
  have Fq0 := fun (W : World) (h : Grow w1.drew W) => ((show Box w1 _ _ from q0.out).grow (Grow.of_drew h)).fz
  refine wpR_region (Grow) [11] (by kernel_rfl) ?_
  refine wpR_take grow_rf grow_tr 0 rfl (by kernel_rfl) (fun _ _ _ h => h) rfl (v := ?_) ?_ ?_
  rotate_left
  · (intro w' hG; go_simp; try with_reducible rfl)
  try simp only [Act.put, List.setIfInBounds_toArray, List.set_cons_zero, List.set_cons_succ]
  refine wpR_take grow_rf grow_tr 1 rfl (by kernel_rfl) (fun _ _ _ h => h) rfl (v := ?_) ?_ ?_
  rotate_left
  · (intro w' hG; go_simp; try with_reducible rfl)
  try simp only [Act.put, List.setIfInBounds_toArray, List.set_cons_zero, List.set_cons_succ]
  refine wpR_take grow_rf grow_tr 2 rfl (by kernel_rfl) (fun _ _ _ h => h) rfl (v := ?_) ?_ ?_
  rotate_left
  · (intro w' hG; go_simp; try with_reducible rfl)
  try simp only [Act.put, List.setIfInBounds_toArray, List.set_cons_zero, List.set_cons_succ]
  refine wpR_take grow_rf grow_tr 3 rfl (by kernel_rfl) (fun _ _ _ h => h) rfl (v := ?_) ?_ ?_
  rotate_left
  · (intro w' hG; go_simp; try with_reducible rfl)
  try simp only [Act.put, List.setIfInBounds_toArray, List.set_cons_zero, List.set_cons_succ]
  refine wpR_take grow_rf grow_tr 4 rfl (by kernel_rfl) (fun _ _ _ h => h) rfl (v := ?_) ?_ ?_
  rotate_left
  · (intro w' hG; go_simp; try with_reducible rfl)
  try simp only [Act.put, List.setIfInBounds_toArray, List.set_cons_zero, List.set_cons_succ]
  refine wpR_take grow_rf grow_tr 5 rfl (by kernel_rfl) (fun _ _ _ h => h) rfl (v := ?_) ?_ ?_
  rotate_left
  · (intro w' hG; go_simp; try with_reducible rfl)
  try simp only [Act.put, List.setIfInBounds_toArray, List.set_cons_zero, List.set_cons_succ]
  refine wpR_take grow_rf grow_tr 6 rfl (by kernel_rfl) (fun _ _ _ h => h) rfl (v := ?_) ?_ ?_
  rotate_left
  · (intro w' hG; go_simp; try with_reducible rfl)
  try simp only [Act.put, List.setIfInBounds_toArray, List.set_cons_zero, List.set_cons_succ]
  refine wpR_take grow_rf grow_tr 7 rfl (by kernel_rfl) (fun _ _ _ h => h) rfl (v := ?_) ?_ ?_
  rotate_left
  · (intro w' hG; go_simp; try with_reducible rfl)
  try simp only [Act.put, List.setIfInBounds_toArray, List.set_cons_zero, List.set_cons_succ]
  refine wpR_take grow_rf grow_tr 8 rfl (by kernel_rfl) (fun _ _ _ h => h) rfl (v := ?_) ?_ ?_
  rotate_left
  · (intro w' hG; go_simp; try with_reducible rfl)
  try simp only [Act.put, List.setIfInBounds_toArray, List.set_cons_zero, List.set_cons_succ]
  refine wpR_call 9 rfl (by kernel_rfl) rfl fun K hK => ?_
  go_simp
  refine (hO.out _ hl.drew).mono ?_
  rintro r w2 ⟨A1, c1, rfl, hown, hb2⟩
  have hlt := fun q h => hown.lt (q := q) h
  have hge := fun q h => hown.base (q := q) h
  refine hK.out _ _ (.inr (hb2)) ?_
  clear hK
  try simp only [Act.put, List.setIfInBounds_toArray, List.set_cons_zero, List.set_cons_succ]
  clear Rp0 Fp0 Rq0 Fq0
  have hb2 := Grow.of_drew hb2
  clear cp0 fp0 lp0 cq0 fq0 lq0
  have hg2 := hb2
  have p0_ := hide ((show Box w1 _ _ from p0.out).grow hg2)
  clear p0
  have p0 := p0_
  clear p0_
  have q0_ := hide ((show Box w1 _ _ from q0.out).grow hg2)
  clear q0
  have q0 := q0_
  clear q0_
  have hl := hl.grow hg2
  have HG2 := hide (Grow.trans (show Grow w w1 from HG1.out) hg2)
  clear HG1
  clear hb2 hg2
  obtain ⟨cp0, fp0, lp0⟩ := (show Box w2 _ _ from p0.out).rules
  obtain ⟨cq0, fq0, lq0⟩ := (show Box w2 _ _ from q0.out).rules
  have Rp0 := fun (W : World) (h : Grow w2 W) => ((show Box w2 _ _ from p0.out).grow h).cell
  have Fp0 := fun (W : World) (h : Grow w2 W) => ((show Box w2 _ _ from p0.out).grow h).fz
  have Rq0 := fun (W : World) (h : Grow w2 W) => ((show Box w2 _ _ from q0.out).grow h).cell
  have Fq0 := fun (W : World) (h : Grow w2 W) => ((show Box w2 _ _ from q0.out).grow h).fz
  refine wpR_take grow_rf grow_tr 10 rfl (by kernel_rfl) (fun _ _ _ h => h) rfl (v := ?_) ?_ ?_
  rotate_left
  · (intro w' hG; go_simp; try with_reducible rfl)
  try simp only [Act.put, List.setIfInBounds_toArray, List.set_cons_zero, List.set_cons_succ]
  refine wpR_call 11 rfl (by kernel_rfl) rfl fun K hK => ?_
  go_simp
  skip
  refine hK.out _ _ (.inl (by simp)) ?_
  clear hK
  try simp only [Act.put, List.setIfInBounds_toArray, List.set_cons_zero, List.set_cons_succ]
  refine wpR_take grow_rf grow_tr 12 rfl (by kernel_rfl) (fun _ _ _ h => h) rfl (v := ?_) ?_ ?_
  rotate_left
  · (intro w' hG; go_simp; try with_reducible rfl)
  try simp only [Act.put, List.setIfInBounds_toArray, List.set_cons_zero, List.set_cons_succ]
  refine wpR_done (by kernel_rfl) ?_ _
  clear Rp0 Fp0 Rq0 Fq0
  go_wp2
  refine bodyPost_ret (v := (.tuple #[ev (p.t + d) p.t p.frm p.seq A1 l.length c1, .int .i64 0])) (by simp [results, Try.results79, go_sem, cq0]) rfl ?_
  refine ⟨⟨A1, c1, rfl, ?_⟩, ?_⟩
  · repeat ((with_reducible refine Own.setAt ?_ ?_ _); rotate_left; · (intro q h; have h1 := hge q h; have h2 : w.heap.size + 1 < q := Nat.lt_of_lt_of_le hlow h1; simp; omega))
    exact hown.mono (Nat.le_trans (Nat.le_succ _) (Nat.le_of_lt hlow))
  · show Below w.heap.size w _
    repeat (with_reducible refine Below.setCell ?_ (by simp) _)
    exact HG2.out
end Go.Proofs.Ytldgnallbkpchaa
