/- Piece.Note (chapter 42). -/
import Derived.Test.YtbccbfmgjeknhaaPc
namespace Go.Proofs.Ytbccbfmgjeknhaa
open Go.RowKit
theorem wp_storeI {P : Program} {op : Oper} {a : Act} {w : World} {K : Act → World → Prop} {Q : Exit → Act → World → Prop} {t kt e : TypeId} (mo x v : Operand) (ho : op.op = .mapUpdate t mo x v) {m : Nat} {E : List (Nat × Value)} (h : MapI w m E)
    (ht : P.underlying t = some (.map kt e)) (hk : P.underlying kt = some (.int .i64)) (k : Nat) (val : Value) (hm : a.eval mo = .map (some m)) (hx : a.eval x = .int .i64 (k : Int)) (hv : a.eval v = val) (hn : keyed E k = none)
    (hK : ∀ w', MapI w' m (E ++ [(k, val)]) → w.grownBy w' (some m) → K (a.put op.dst undef) w') : op.wp P a w K Q := by
  obtain ⟨w', hr, h1, h2⟩ := run_storeI (P := P) h ht hk k val hn
  unfold Oper.wp execOp
  simp only [ho, hm, hx, hv, Sem.run_bind, Sem.run_pure, Result.andThen_ok, hr]
  exact hK w' h1 h2
theorem pcheck_zero {sf no tot : Int} {L : List (Nat × List UInt8)} {q : Pkt} {n : Nat} (h : pcheck sf no tot L q n = 0) : chunkB q n = true ∧ (q.no = no → L.any (fun x => x.1 == q.index.toNat) = false) := by
  unfold pcheck at h
  split at h
  · cases h
  rename_i hb
  split at h
  · cases h
  split at h
  · rename_i h2
    refine ⟨by simpa using hb, fun e => ?_⟩
    rcases h2 with rfl | h2
    · rfl
    · omega
  split at h
  · cases h
  split at h
  · cases h
  split at h
  · cases h
  · rename_i h3
    exact ⟨by simpa using hb, fun _ => Bool.eq_false_iff.2 h3⟩
theorem Bytes.inn5 {w : World} {A : Option Addr} {l : List UInt8} (h : Bytes w A l) (hne : l ≠ []) (g : Nat) (hg : blk A = some g) : g < w.heap.size := by
  obtain ⟨b, o, rfl, hc⟩ := h hne
  have hb := World.block_lt_of_cell? w _ (hc 0 (List.length_pos_iff.2 hne))
  have e : b = g := by simpa [blk] using hg
  subst e
  exact hb
theorem Box.set1 {w w' : World} {g i : Nat} {cs : Array Value} {v : Value} (h : Box w g cs) (hW : World.setCell w ⟨g, i, none⟩ v = w') : Box w' g (cs.setIfInBounds i v) := hW ▸ h.set i v
theorem Box.setD {w w' : World} {g i : Nat} {cs : Array Value} {v : Value} (h : Box w g cs) (hW : (World.setCell w ⟨g, i, none⟩ v).drew = w') : Box w' g (cs.setIfInBounds i v) := hW ▸ (h.set i v).drew
theorem grownBy_kept {w w' : World} {g : Nat} (h : w.grownBy w' (some g)) (S : List Nat) (hg : g ∈ S) : Kept w.heap.size S w w' :=
  ⟨h.os, h.tape, h.output, h.size, fun k hk hs => h.block k hk (fun e => by injection e with e; subst e; exact hs hg)⟩
theorem Pc.setHead {w w' : World} {N p m : Nat} {sf no tot no' tot' : Int} {X : List PE} (h : Pc w N p m sf no tot X) (hb : Box w' p (pcc sf no' tot' m)) (hk : Kept w.heap.size [p] w w') : Pc w' N p m sf no' tot' X := by
  obtain ⟨l1, l2, l3⟩ := h.low
  refine ⟨hb, h.map.keep (hk.block m h.map.lt (by simp; omega)), h.low, fun x hx => ?_⟩
  obtain ⟨h1, h2⟩ := h.own x hx
  exact ⟨h1.keptS hk (fun _ q hq => by have := (h2 q hq).2.1; simp; omega), fun q hq => by obtain ⟨h1, h2, h3, h4⟩ := h2 q hq; exact ⟨h1, h2, h3, by have := hk.size; omega⟩⟩
theorem Pc.turn {w w' : World} {N p m : Nat} {sf no tot : Int} {X : List PE} (h : Pc w N p m sf no tot X) (X' : List PE) (hm : MapI w' m (X'.map ent)) (hg : w.grownBy w' (some m)) (hX : ∀ x, x ∈ X' → x ∈ X ∨ (Bytes w x.A x.l ∧ ∀ q, blk x.A = some q → N ≤ q ∧ q ≠ p ∧ q ≠ m ∧ q < w.heap.size)) : Pc w' N p m sf no tot X' := by
  have hk := grownBy_kept hg [m] (by simp)
  obtain ⟨l1, l2, l3⟩ := h.low
  refine ⟨h.box.kept hk (by simp; omega), hm, h.low, fun x hx => ?_⟩
  obtain ⟨h1, h2⟩ : Bytes w x.A x.l ∧ ∀ q, blk x.A = some q → N ≤ q ∧ q ≠ p ∧ q ≠ m ∧ q < w.heap.size := by
    rcases hX x hx with h' | h'
    · exact h.own x h'
    · exact h'
  exact ⟨h1.keptS hk (fun _ q hq => by have := (h2 q hq).2.2.1; simp; omega), fun q hq => by obtain ⟨h1, h2, h3, h4⟩ := h2 q hq; exact ⟨h1, h2, h3, by have := hk.size; omega⟩⟩
/-- what a Note leaves -/
def NoteP (w : World) (N p m : Nat) (sf no tot : Int) (X : List PE) (q : Pkt) (l : List UInt8) (e : Int) (r : Ending) (w' : World) : Prop :=
  r = .returned (.int .i64 e) ∧ (e ≠ 0 → Pc w' N p m sf no tot X) ∧ (e = 0 → ∃ X', Pc w' N p m sf q.no q.total X' ∧ X'.map kl = (if q.no = no then X.map kl else []) ++ [(q.index.toNat, l)] ∧ ∀ x, x ∈ X' → x ∈ X ∨ ∀ g, blk x.A = some g → w.heap.size ≤ g) ∧ Kept w.heap.size [p, m] w w'
set_option maxRecDepth 100000 in
set_option maxHeartbeats 2000000 in
theorem pnote_any {N p m : Nat} {sf no tot : Int} {X : List PE} (q : Pkt) (A : Option Addr) (l : List UInt8) (c : Nat) (w : World) (h : Pc w N p m sf no tot X) (hl : Bytes w A l) (hn : l.length ≤ 1000000) (hN : N ≤ w.heap.size) (hAin : l ≠ [] → ∀ q, blk A = some q → q ≠ p ∧ q ≠ m) :
    Calls Try.prog 25 #[.pointer (some ⟨p, 0, none⟩), pv q A l.length c] w fun r w' => NoteP w N p m sf no tot X q l (pcheck sf no tot (X.map kl) q l.length) r w' := by
  have HC := hide (fun W (g : Grow w W) => pcheck_any q A l.length c W (h.grow g) (by omega))
  have HZ := hide (fun hz => pcheck_zero (sf := sf) (no := no) (tot := tot) (L := X.map kl) (q := q) (n := l.length) hz)
  generalize pcheck sf no tot (X.map kl) q l.length = e at *
  go_enter Try.func25, Try.ntmps25
  go_wp2_with fail
  refine (HC.out _ ((Grow.refl w).alloc _)).mono ?_
  rintro r w1 ⟨rfl, hb1⟩
  obtain ⟨q0, hg1⟩ := peel1 hb1
  have h1 := h.grow hg1
  have hl1 := hl.grow hg1
  have hpl := h.box.lt
  have hml := h.map.lt
  have hPown := hide (fun x hx q hq => ((h.own x hx).2 q hq).2.2.2)
  clear hb1 HC hl h
  by_cases he : e = 0
  rotate_left
  · have hne := hide he
    have heb : (e != 0) = true := by simpa using he
    clear he
    go_wp2
    go_ret
    exact ⟨rfl, fun _ => h1, fun h => absurd h hne.out, Kept.of_below hg1 _⟩
  · obtain ⟨hcB, hany⟩ := HZ.out he
    obtain ⟨hi0, hi1, hi2⟩ := chunkB_index q _ hcB
    subst he
    clear HZ hcB hi1 hi2
    obtain ⟨i, hi⟩ := Int.eq_ofNat_of_zero_le hi0
    rw [hi] at hany
    have hiN := hide hi
    have hany : q.no = no → (X.map kl).any (fun x => x.1 == i) = false := hany
    have hany := hide hany
    have q0 : Box w1 w.heap.size #[.int .i64 q.kind, .int .i64 q.t, .int .i64 q.frm, .int .u32 q.seq, .int .i64 q.hops, .int .i64 q.no, .int .i64 q.to, .int .i64 (i : Int), .int .i64 q.total, .int .i64 q.stamp, .int .i64 q.value, .slice A l.length c] := by
      have := q0
      unfold pcells at this
      rw [hi] at this
      exact this
    clear hi hi0
    have hp1 := h1.box
    have c1 := q0.cell
    have c2 := hp1.cell
    have Rq := fun (W : World) (h : Grow w1.drew W) => (q0.grow (Grow.of_drew h)).cell
    have Rp := fun (W : World) (h : Grow w1.drew W) => (hp1.grow (Grow.of_drew h)).cell
    have h1 := hide h1
    go_wp2_with fail
    refine wpR_region (Grow) [] (by kernel_rfl) ?_
    refine wpR_take grow_rf grow_tr 0 rfl (by kernel_rfl) (fun _ _ _ h => h) rfl (v := ?_) ?_ ?_
    rotate_left
    · (intro w' hG; go_simp; try with_reducible rfl)
    try simp only [Act.put, List.setIfInBounds_toArray, List.set_cons_zero, List.set_cons_succ]
    refine wpR_take grow_rf grow_tr 1 rfl (by kernel_rfl) (fun _ _ _ h => h) rfl (v := ?_) ?_ ?_
    rotate_left
    · (intro w' hG; go_simp; try with_reducible rfl)
    try simp only [Act.put, List.setIfInBounds_toArray, List.set_cons_zero, List.set_cons_succ]
    refine wpR_take grow_rf grow_tr 2 rfl (by kernel_rfl) (fun _ _ _ h => h) rfl (v := ?_) ?_ ?_
    rotate_left
    · (intro w' hG; go_simp; try with_reducible rfl)
    try simp only [Act.put, List.setIfInBounds_toArray, List.set_cons_zero, List.set_cons_succ]
    refine wpR_take grow_rf grow_tr 3 rfl (by kernel_rfl) (fun _ _ _ h => h) rfl (v := ?_) ?_ ?_
    rotate_left
    · (intro w' hG; go_simp; try with_reducible rfl)
    try simp only [Act.put, List.setIfInBounds_toArray, List.set_cons_zero, List.set_cons_succ]
    refine wpR_take grow_rf grow_tr 4 rfl (by kernel_rfl) (fun _ _ _ h => h) rfl (v := ?_) ?_ ?_
    rotate_left
    · (intro w' hG; go_simp; try with_reducible rfl)
    try simp only [Act.put, List.setIfInBounds_toArray, List.set_cons_zero, List.set_cons_succ]
    refine wpR_take grow_rf grow_tr 5 rfl (by kernel_rfl) (fun _ _ _ h => h) rfl (v := ?_) ?_ ?_
    rotate_left
    · (intro w' hG; go_simp; try with_reducible rfl)
    try simp only [Act.put, List.setIfInBounds_toArray, List.set_cons_zero, List.set_cons_succ]
    refine wpR_take grow_rf grow_tr 6 rfl (by kernel_rfl) (fun _ _ _ h => h) rfl (v := ?_) ?_ ?_
    rotate_left
    · (intro w' hG; go_simp; try with_reducible rfl)
    try simp only [Act.put, List.setIfInBounds_toArray, List.set_cons_zero, List.set_cons_succ]
    refine wpR_done (by kernel_rfl) ?_ _
    have hg2 : Grow w w1.drew := hg1.drew
    have q2 := q0.drew
    have h2 := hide h1.out.drew
    have hl2 : Bytes w1.drew A l := hl1.drew
    clear Rq Rp c1 c2 q0 hp1 h1 hl1
    generalize w1.drew = w2 at *
    have hAp := hide (fun (hne : l ≠ []) q (hq : blk A = some q) => hAin hne q hq)
    cases hno : (q.no != no) with
    | true =>
      have HIF := hide (show (if q.no = no then X.map kl else []) = ([] : List PE).map kl from if_neg (by simpa using hno))
      have hkey := hide (show keyed (([] : List PE).map ent) i = none from rfl)
      clear hno hany
      obtain ⟨w3, hcl, hm3, hgb3⟩ := run_clearI (P := Try.prog) h2.out.map Try.underlying101
      obtain ⟨X0, hX0⟩ : ∃ X0 : List PE, Hid (X0 = []) := ⟨_, hide rfl⟩
      rw [← hX0.out] at HIF hkey
      have h3 := h2.out.turn X0 (by rw [hX0.out]; exact hm3) hgb3 (by rw [hX0.out]; simp)
      have h3 := hide h3
      have k3 := grownBy_kept hgb3 [p, m] (by simp)
      have q3 := q2.kept k3 (by simp; omega)
      have hl3 := hl2.keptS k3 (fun hne q hq => by have := hAp.out hne q hq; simp; omega)
      have c2 := h2.out.box.cell
      have hk3' : Kept w.heap.size [p, m] w w3 := (Kept.of_below hg2 [p, m]).trans (k3.mono hg2.size (fun _ _ h => h))
      clear hm3 hgb3 k3 q2 hl2 h2
      go_wp2_with fail
      clear hcl c2
      have hk3 := hk3'
      have hp3 := h3.out.box
      have q3d := q3.drew
      have p3d := hp3.drew
      have cp := p3d.cell
      have fp := p3d.fz
      have cq := q3d.cell
      have hqp : w.heap.size ≠ p := by omega
      have hrf : ∀ W, Kept w3.heap.size [p] W W := fun W => Kept.refl _ _ W
      have htr : ∀ a b c, Kept w3.heap.size [p] a b → Kept w3.heap.size [p] b c → Kept w3.heap.size [p] a c := fun _ _ _ h1 h2 => h1.trans h2
      have Rq := fun (W : World) (h : Kept w3.heap.size [p] w3.drew W) => (q3d.kept h (by simpa using hqp)).cell
      go_wp2_with fail
      refine wpR_region (Kept w3.heap.size [p]) [] (by kernel_rfl) ?_
      refine wpR_take hrf htr 0 rfl (by kernel_rfl) (fun _ _ _ h => h) rfl (v := ?_) ?_ ?_
      rotate_left
      · (intro w' hG; go_simp; try with_reducible rfl)
      try simp only [Act.put, List.setIfInBounds_toArray, List.set_cons_zero, List.set_cons_succ]
      refine wpR_take hrf htr 1 rfl (by kernel_rfl) (fun _ _ _ h => h) rfl (v := ?_) ?_ ?_
      rotate_left
      · (intro w' hG; go_simp; try with_reducible rfl)
      try simp only [Act.put, List.setIfInBounds_toArray, List.set_cons_zero, List.set_cons_succ]
      refine wpR_take hrf htr 2 rfl (by kernel_rfl) (fun _ _ _ h => h) rfl (v := ?_) ?_ ?_
      rotate_left
      · (intro w' hG; go_simp; try with_reducible rfl)
      try simp only [Act.put, List.setIfInBounds_toArray, List.set_cons_zero, List.set_cons_succ]
      refine wpR_take hrf htr 3 rfl (by kernel_rfl) (fun _ _ _ h => h) rfl (v := ?_) ?_ ?_
      rotate_left
      · (intro w' hG; go_simp; try with_reducible rfl)
      try simp only [Act.put, List.setIfInBounds_toArray, List.set_cons_zero, List.set_cons_succ]
      refine wpR_take hrf htr 4 rfl (by kernel_rfl) (fun _ _ _ h => h) rfl (v := ?_) ?_ ?_
      rotate_left
      · (intro w' hG; go_simp; try with_reducible rfl)
      try simp only [Act.put, List.setIfInBounds_toArray, List.set_cons_zero, List.set_cons_succ]
      refine wpR_take hrf htr 5 rfl (by kernel_rfl) (fun _ _ _ h => h) rfl (v := ?_) ?_ ?_
      rotate_left
      · (intro w' hG; go_simp; try with_reducible rfl)
      try simp only [Act.put, List.setIfInBounds_toArray, List.set_cons_zero, List.set_cons_succ]
      refine wpR_take hrf htr 6 rfl (by kernel_rfl) (fun _ _ _ h => h) rfl (v := ?_) ?_ ?_
      rotate_left
      · (intro w' hG; go_simp; try with_reducible rfl)
      try simp only [Act.put, List.setIfInBounds_toArray, List.set_cons_zero, List.set_cons_succ]
      refine wpR_take hrf htr 7 rfl (by kernel_rfl) (fun _ _ _ h => h) rfl (v := ?_) ?_ ?_
      rotate_left
      · (intro w' hG; go_simp; try with_reducible rfl)
      try simp only [Act.put, List.setIfInBounds_toArray, List.set_cons_zero, List.set_cons_succ]
      refine wpR_call 8 rfl (by kernel_rfl) rfl fun K hK => ?_
      go_simp
      generalize hW4 : World.drew (World.setCell w3 _ _) = w4
      refine hK.out _ _ (.inr (hW4 ▸ ((Kept.refl _ _ w3).setCell (p := ⟨p, 1, none⟩) (.inr (by simp)) _).drew2)) ?_
      clear hK
      try simp only [Act.put, List.setIfInBounds_toArray, List.set_cons_zero, List.set_cons_succ]
      have p4 := Box.setD hp3 hW4
      simp only [List.setIfInBounds_toArray, List.set_cons_zero, List.set_cons_succ] at p4
      have k4 : Kept w3.heap.size [p] w3.drew w4 := hW4 ▸ ((Kept.refl _ _ w3).setCell (p := ⟨p, 1, none⟩) (.inr (by simp)) _).drew2
      clear hW4 cp fp cq Rq
      have cp := p4.cell
      have fp := p4.fz
      refine wpR_take hrf htr 9 rfl (by kernel_rfl) (fun _ _ _ h => h) rfl (v := ?_) ?_ ?_
      rotate_left
      · (intro w' hG; go_simp; try with_reducible rfl)
      try simp only [Act.put, List.setIfInBounds_toArray, List.set_cons_zero, List.set_cons_succ]
      refine wpR_take hrf htr 10 rfl (by kernel_rfl) (fun _ _ _ h => h) rfl (v := ?_) ?_ ?_
      rotate_left
      · (intro w' hG; go_simp; try with_reducible rfl)
      try simp only [Act.put, List.setIfInBounds_toArray, List.set_cons_zero, List.set_cons_succ]
      refine wpR_call 11 rfl (by kernel_rfl) rfl fun K hK => ?_
      go_simp
      generalize hW5 : World.setCell w4 _ _ = w5
      refine hK.out _ _ (.inr (hW5 ▸ (Kept.refl _ _ _).setCell (p := ⟨p, 2, none⟩) (.inr (by simp)) _)) ?_
      clear hK
      try simp only [Act.put, List.setIfInBounds_toArray, List.set_cons_zero, List.set_cons_succ]
      have p5 := Box.set1 p4 hW5
      simp only [List.setIfInBounds_toArray, List.set_cons_zero, List.set_cons_succ] at p5
      have k5 : Kept w3.heap.size [p] w3.drew w5 := k4.trans (hW5 ▸ (Kept.refl _ _ _).setCell (p := ⟨p, 2, none⟩) (.inr (by simp)) _)
      clear hW5 cp fp p4 k4
      refine wpR_done (by kernel_rfl) ?_ _
      have h5 := hide (h3.out.drew.setHead p5 k5)
      have q5 := q3d.kept k5 (by simpa using hqp)
      have hl5 : Bytes w5 A l := (show Bytes w3.drew A l from hl3).keptS k5 (fun hne q hq => by have := hAp.out hne q hq; simp; omega)
      have hk5 : Kept w.heap.size [p, m] w w5 := hk3.drew.trans ((k5.mono hk3.size (fun a h1 h2 => by rw [List.mem_singleton.1 h2]; simp) : Kept w.heap.size [p, m] w3.drew w5))
      have p5 := h5.out.box
      have hAp5 := hide (fun hne q hq => (Bytes.inn5 hl5 hne q hq))
      clear q3d p3d hp3 k5 h3 q3 hl3 hk3 hrf htr
      have Rq := fun (W : World) (h : Grow w5.drew W) => (q5.grow (Grow.of_drew h)).cell
      have Rp := fun (W : World) (h : Grow w5.drew W) => (p5.grow (Grow.of_drew h)).cell
      have c1 := q5.drew.cell
      have c2 := p5.drew.cell
      have HCl := hide (fun W h => clone_any A l c W h (by omega))
      go_wp2_with fail
      refine wpR_region (Grow) [9] (by kernel_rfl) ?_
      refine wpR_take grow_rf grow_tr 0 rfl (by kernel_rfl) (fun _ _ _ h => h) rfl (v := ?_) ?_ ?_
      rotate_left
      · (intro w' hG; go_simp; try with_reducible rfl)
      try simp only [Act.put, List.setIfInBounds_toArray, List.set_cons_zero, List.set_cons_succ]
      refine wpR_take grow_rf grow_tr 1 rfl (by kernel_rfl) (fun _ _ _ h => h) rfl (v := ?_) ?_ ?_
      rotate_left
      · (intro w' hG; go_simp; try with_reducible rfl)
      try simp only [Act.put, List.setIfInBounds_toArray, List.set_cons_zero, List.set_cons_succ]
      refine wpR_take grow_rf grow_tr 2 rfl (by kernel_rfl) (fun _ _ _ h => h) rfl (v := ?_) ?_ ?_
      rotate_left
      · (intro w' hG; go_simp; try with_reducible rfl)
      try simp only [Act.put, List.setIfInBounds_toArray, List.set_cons_zero, List.set_cons_succ]
      refine wpR_take grow_rf grow_tr 3 rfl (by kernel_rfl) (fun _ _ _ h => h) rfl (v := ?_) ?_ ?_
      rotate_left
      · (intro w' hG; go_simp; try with_reducible rfl)
      try simp only [Act.put, List.setIfInBounds_toArray, List.set_cons_zero, List.set_cons_succ]
      refine wpR_take grow_rf grow_tr 4 rfl (by kernel_rfl) (fun _ _ _ h => h) rfl (v := ?_) ?_ ?_
      rotate_left
      · (intro w' hG; go_simp; try with_reducible rfl)
      try simp only [Act.put, List.setIfInBounds_toArray, List.set_cons_zero, List.set_cons_succ]
      refine wpR_take grow_rf grow_tr 5 rfl (by kernel_rfl) (fun _ _ _ h => h) rfl (v := ?_) ?_ ?_
      rotate_left
      · (intro w' hG; go_simp; try with_reducible rfl)
      try simp only [Act.put, List.setIfInBounds_toArray, List.set_cons_zero, List.set_cons_succ]
      refine wpR_take grow_rf grow_tr 6 rfl (by kernel_rfl) (fun _ _ _ h => h) rfl (v := ?_) ?_ ?_
      rotate_left
      · (intro w' hG; go_simp; try with_reducible rfl)
      try simp only [Act.put, List.setIfInBounds_toArray, List.set_cons_zero, List.set_cons_succ]
      refine wpR_take grow_rf grow_tr 7 rfl (by kernel_rfl) (fun _ _ _ h => h) rfl (v := ?_) ?_ ?_
      rotate_left
      · (intro w' hG; go_simp; try with_reducible rfl)
      try simp only [Act.put, List.setIfInBounds_toArray, List.set_cons_zero, List.set_cons_succ]
      refine wpR_call 8 rfl (by kernel_rfl) rfl fun K hK => ?_
      go_simp
      refine (HCl.out _ (show Bytes w5.drew A l from hl5)).mono ?_
      rintro r w6 ⟨A6, c6, rfl, hown6, hg6⟩
      refine hK.out _ _ (.inr (hg6)) ?_
      clear hK
      try simp only [Act.put, List.setIfInBounds_toArray, List.set_cons_zero, List.set_cons_succ]
      have hg6 : Grow w5 w6 := Grow.of_drew hg6
      have hown6 : Own w6 w5.heap.size A6 c6 l := hown6
      have hown6 := hide hown6
      have h6 := hide (h5.out.grow hg6)
      refine wpR_call 9 rfl (by kernel_rfl) rfl fun K hK => ?_
      refine wp_storeI (.tmp 36) (.tmp 38) (.tmp 41) rfl h6.out.map Try.underlying101 Try.underlying3 i (.slice A6 l.length c6) rfl rfl rfl hkey.out ?_
      intro w7 hm7 hgb7
      refine hK.out _ _ (.inl (by simp)) ?_
      clear hK
      try simp only [Act.put, List.setIfInBounds_toArray, List.set_cons_zero, List.set_cons_succ]
      refine wpR_done (by kernel_rfl) ?_ _
      have h7 := h6.out.turn (X0 ++ [⟨i, A6, l, c6⟩]) (by rw [List.map_append]; exact hm7) hgb7 (fun x hx => by
        rcases List.mem_append.1 hx with h | h
        · exact .inl h
        · rw [List.mem_singleton.1 h]
          refine .inr ⟨hown6.out.bytes, fun q hq => ?_⟩
          have := hown6.out.base hq
          have := hown6.out.lt hq
          have := h5.out.box.lt
          have := h5.out.map.lt
          have := hk5.size
          exact ⟨by omega, by omega, by omega, by omega⟩)
      have hk7 : Kept w.heap.size [p, m] w w7 := (hk5.trans ((Kept.of_below hg6 [p, m]).mono hk5.size (fun _ _ h => h))).trans ((grownBy_kept hgb7 [p, m] (by simp)).mono (by have := hk5.size; have := hg6.size; omega) (fun _ _ h => h))
      have hnew : Hid (∀ x, x ∈ X0 ++ [⟨i, A6, l, c6⟩] → x ∈ X ∨ ∀ g, blk x.A = some g → w.heap.size ≤ g) := hide (fun x hx => by
        rcases List.mem_append.1 hx with h | h
        · (rw [hX0.out] at h; cases h)
        · rw [List.mem_singleton.1 h]
          exact .inr (fun g hg => by have := hown6.out.base hg; have := hk5.size; omega))
      have h7 := hide h7
      clear Rq Rp c1 c2 h6 h5 hown6 hm7 hgb7 q5 p5
      go_wp2
      go_ret
      exact ⟨rfl, fun h => absurd rfl h, fun _ => ⟨_, h7.out, by rw [HIF.out, hiN.out, List.map_append]; rfl, hnew.out⟩, hk7⟩
    | false =>
      have HIF := hide (show (if q.no = no then X.map kl else []) = X.map kl from if_pos (by simpa using hno))
      have hkey := hide (show keyed (X.map ent) i = none from by
        have h1 := keyed_any X i
        rw [hany.out (by simpa using hno)] at h1
        cases hh : keyed (X.map ent) i <;> simp_all)
      clear hno hany
      obtain ⟨w3, hw3⟩ : ∃ w3, w3 = w2 := ⟨_, rfl⟩
      obtain ⟨X0, hX0⟩ : ∃ X0, X0 = X := ⟨_, rfl⟩
      subst hw3 hX0
      have h3 := h2
      have q3 := q2
      have hl3 := hl2
      have hk3' : Kept w.heap.size [p, m] w w3 := Kept.of_below hg2 [p, m]
      clear h2 q2 hl2
      have hk3 := hk3'
      have hp3 := h3.out.box
      have q3d := q3.drew
      have p3d := hp3.drew
      have cp := p3d.cell
      have fp := p3d.fz
      have cq := q3d.cell
      have hqp : w.heap.size ≠ p := by omega
      have hrf : ∀ W, Kept w3.heap.size [p] W W := fun W => Kept.refl _ _ W
      have htr : ∀ a b c, Kept w3.heap.size [p] a b → Kept w3.heap.size [p] b c → Kept w3.heap.size [p] a c := fun _ _ _ h1 h2 => h1.trans h2
      have Rq := fun (W : World) (h : Kept w3.heap.size [p] w3.drew W) => (q3d.kept h (by simpa using hqp)).cell
      go_wp2_with fail
      refine wpR_region (Kept w3.heap.size [p]) [] (by kernel_rfl) ?_
      refine wpR_take hrf htr 0 rfl (by kernel_rfl) (fun _ _ _ h => h) rfl (v := ?_) ?_ ?_
      rotate_left
      · (intro w' hG; go_simp; try with_reducible rfl)
      try simp only [Act.put, List.setIfInBounds_toArray, List.set_cons_zero, List.set_cons_succ]
      refine wpR_take hrf htr 1 rfl (by kernel_rfl) (fun _ _ _ h => h) rfl (v := ?_) ?_ ?_
      rotate_left
      · (intro w' hG; go_simp; try with_reducible rfl)
      try simp only [Act.put, List.setIfInBounds_toArray, List.set_cons_zero, List.set_cons_succ]
      refine wpR_take hrf htr 2 rfl (by kernel_rfl) (fun _ _ _ h => h) rfl (v := ?_) ?_ ?_
      rotate_left
      · (intro w' hG; go_simp; try with_reducible rfl)
      try simp only [Act.put, List.setIfInBounds_toArray, List.set_cons_zero, List.set_cons_succ]
      refine wpR_take hrf htr 3 rfl (by kernel_rfl) (fun _ _ _ h => h) rfl (v := ?_) ?_ ?_
      rotate_left
      · (intro w' hG; go_simp; try with_reducible rfl)
      try simp only [Act.put, List.setIfInBounds_toArray, List.set_cons_zero, List.set_cons_succ]
      refine wpR_take hrf htr 4 rfl (by kernel_rfl) (fun _ _ _ h => h) rfl (v := ?_) ?_ ?_
      rotate_left
      · (intro w' hG; go_simp; try with_reducible rfl)
      try simp only [Act.put, List.setIfInBounds_toArray, List.set_cons_zero, List.set_cons_succ]
      refine wpR_take hrf htr 5 rfl (by kernel_rfl) (fun _ _ _ h => h) rfl (v := ?_) ?_ ?_
      rotate_left
      · (intro w' hG; go_simp; try with_reducible rfl)
      try simp only [Act.put, List.setIfInBounds_toArray, List.set_cons_zero, List.set_cons_succ]
      refine wpR_take hrf htr 6 rfl (by kernel_rfl) (fun _ _ _ h => h) rfl (v := ?_) ?_ ?_
      rotate_left
      · (intro w' hG; go_simp; try with_reducible rfl)
      try simp only [Act.put, List.setIfInBounds_toArray, List.set_cons_zero, List.set_cons_succ]
      refine wpR_take hrf htr 7 rfl (by kernel_rfl) (fun _ _ _ h => h) rfl (v := ?_) ?_ ?_
      rotate_left
      · (intro w' hG; go_simp; try with_reducible rfl)
      try simp only [Act.put, List.setIfInBounds_toArray, List.set_cons_zero, List.set_cons_succ]
      refine wpR_call 8 rfl (by kernel_rfl) rfl fun K hK => ?_
      go_simp
      generalize hW4 : World.drew (World.setCell w3 _ _) = w4
      refine hK.out _ _ (.inr (hW4 ▸ ((Kept.refl _ _ w3).setCell (p := ⟨p, 1, none⟩) (.inr (by simp)) _).drew2)) ?_
      clear hK
      try simp only [Act.put, List.setIfInBounds_toArray, List.set_cons_zero, List.set_cons_succ]
      have p4 := Box.setD hp3 hW4
      simp only [List.setIfInBounds_toArray, List.set_cons_zero, List.set_cons_succ] at p4
      have k4 : Kept w3.heap.size [p] w3.drew w4 := hW4 ▸ ((Kept.refl _ _ w3).setCell (p := ⟨p, 1, none⟩) (.inr (by simp)) _).drew2
      clear hW4 cp fp cq Rq
      have cp := p4.cell
      have fp := p4.fz
      refine wpR_take hrf htr 9 rfl (by kernel_rfl) (fun _ _ _ h => h) rfl (v := ?_) ?_ ?_
      rotate_left
      · (intro w' hG; go_simp; try with_reducible rfl)
      try simp only [Act.put, List.setIfInBounds_toArray, List.set_cons_zero, List.set_cons_succ]
      refine wpR_take hrf htr 10 rfl (by kernel_rfl) (fun _ _ _ h => h) rfl (v := ?_) ?_ ?_
      rotate_left
      · (intro w' hG; go_simp; try with_reducible rfl)
      try simp only [Act.put, List.setIfInBounds_toArray, List.set_cons_zero, List.set_cons_succ]
      refine wpR_call 11 rfl (by kernel_rfl) rfl fun K hK => ?_
      go_simp
      generalize hW5 : World.setCell w4 _ _ = w5
      refine hK.out _ _ (.inr (hW5 ▸ (Kept.refl _ _ _).setCell (p := ⟨p, 2, none⟩) (.inr (by simp)) _)) ?_
      clear hK
      try simp only [Act.put, List.setIfInBounds_toArray, List.set_cons_zero, List.set_cons_succ]
      have p5 := Box.set1 p4 hW5
      simp only [List.setIfInBounds_toArray, List.set_cons_zero, List.set_cons_succ] at p5
      have k5 : Kept w3.heap.size [p] w3.drew w5 := k4.trans (hW5 ▸ (Kept.refl _ _ _).setCell (p := ⟨p, 2, none⟩) (.inr (by simp)) _)
      clear hW5 cp fp p4 k4
      refine wpR_done (by kernel_rfl) ?_ _
      have h5 := hide (h3.out.drew.setHead p5 k5)
      have q5 := q3d.kept k5 (by simpa using hqp)
      have hl5 : Bytes w5 A l := (show Bytes w3.drew A l from hl3).keptS k5 (fun hne q hq => by have := hAp.out hne q hq; simp; omega)
      have hk5 : Kept w.heap.size [p, m] w w5 := hk3.drew.trans ((k5.mono hk3.size (fun a h1 h2 => by rw [List.mem_singleton.1 h2]; simp) : Kept w.heap.size [p, m] w3.drew w5))
      have p5 := h5.out.box
      have hAp5 := hide (fun hne q hq => (Bytes.inn5 hl5 hne q hq))
      clear q3d p3d hp3 k5 h3 q3 hl3 hk3 hrf htr
      have Rq := fun (W : World) (h : Grow w5.drew W) => (q5.grow (Grow.of_drew h)).cell
      have Rp := fun (W : World) (h : Grow w5.drew W) => (p5.grow (Grow.of_drew h)).cell
      have c1 := q5.drew.cell
      have c2 := p5.drew.cell
      have HCl := hide (fun W h => clone_any A l c W h (by omega))
      go_wp2_with fail
      refine wpR_region (Grow) [9] (by kernel_rfl) ?_
      refine wpR_take grow_rf grow_tr 0 rfl (by kernel_rfl) (fun _ _ _ h => h) rfl (v := ?_) ?_ ?_
      rotate_left
      · (intro w' hG; go_simp; try with_reducible rfl)
      try simp only [Act.put, List.setIfInBounds_toArray, List.set_cons_zero, List.set_cons_succ]
      refine wpR_take grow_rf grow_tr 1 rfl (by kernel_rfl) (fun _ _ _ h => h) rfl (v := ?_) ?_ ?_
      rotate_left
      · (intro w' hG; go_simp; try with_reducible rfl)
      try simp only [Act.put, List.setIfInBounds_toArray, List.set_cons_zero, List.set_cons_succ]
      refine wpR_take grow_rf grow_tr 2 rfl (by kernel_rfl) (fun _ _ _ h => h) rfl (v := ?_) ?_ ?_
      rotate_left
      · (intro w' hG; go_simp; try with_reducible rfl)
      try simp only [Act.put, List.setIfInBounds_toArray, List.set_cons_zero, List.set_cons_succ]
      refine wpR_take grow_rf grow_tr 3 rfl (by kernel_rfl) (fun _ _ _ h => h) rfl (v := ?_) ?_ ?_
      rotate_left
      · (intro w' hG; go_simp; try with_reducible rfl)
      try simp only [Act.put, List.setIfInBounds_toArray, List.set_cons_zero, List.set_cons_succ]
      refine wpR_take grow_rf grow_tr 4 rfl (by kernel_rfl) (fun _ _ _ h => h) rfl (v := ?_) ?_ ?_
      rotate_left
      · (intro w' hG; go_simp; try with_reducible rfl)
      try simp only [Act.put, List.setIfInBounds_toArray, List.set_cons_zero, List.set_cons_succ]
      refine wpR_take grow_rf grow_tr 5 rfl (by kernel_rfl) (fun _ _ _ h => h) rfl (v := ?_) ?_ ?_
      rotate_left
      · (intro w' hG; go_simp; try with_reducible rfl)
      try simp only [Act.put, List.setIfInBounds_toArray, List.set_cons_zero, List.set_cons_succ]
      refine wpR_take grow_rf grow_tr 6 rfl (by kernel_rfl) (fun _ _ _ h => h) rfl (v := ?_) ?_ ?_
      rotate_left
      · (intro w' hG; go_simp; try with_reducible rfl)
      try simp only [Act.put, List.setIfInBounds_toArray, List.set_cons_zero, List.set_cons_succ]
      refine wpR_take grow_rf grow_tr 7 rfl (by kernel_rfl) (fun _ _ _ h => h) rfl (v := ?_) ?_ ?_
      rotate_left
      · (intro w' hG; go_simp; try with_reducible rfl)
      try simp only [Act.put, List.setIfInBounds_toArray, List.set_cons_zero, List.set_cons_succ]
      refine wpR_call 8 rfl (by kernel_rfl) rfl fun K hK => ?_
      go_simp
      refine (HCl.out _ (show Bytes w5.drew A l from hl5)).mono ?_
      rintro r w6 ⟨A6, c6, rfl, hown6, hg6⟩
      refine hK.out _ _ (.inr (hg6)) ?_
      clear hK
      try simp only [Act.put, List.setIfInBounds_toArray, List.set_cons_zero, List.set_cons_succ]
      have hg6 : Grow w5 w6 := Grow.of_drew hg6
      have hown6 : Own w6 w5.heap.size A6 c6 l := hown6
      have hown6 := hide hown6
      have h6 := hide (h5.out.grow hg6)
      refine wpR_call 9 rfl (by kernel_rfl) rfl fun K hK => ?_
      refine wp_storeI (.tmp 36) (.tmp 38) (.tmp 41) rfl h6.out.map Try.underlying101 Try.underlying3 i (.slice A6 l.length c6) rfl rfl rfl hkey.out ?_
      intro w7 hm7 hgb7
      refine hK.out _ _ (.inl (by simp)) ?_
      clear hK
      try simp only [Act.put, List.setIfInBounds_toArray, List.set_cons_zero, List.set_cons_succ]
      refine wpR_done (by kernel_rfl) ?_ _
      have h7 := h6.out.turn (X0 ++ [⟨i, A6, l, c6⟩]) (by rw [List.map_append]; exact hm7) hgb7 (fun x hx => by
        rcases List.mem_append.1 hx with h | h
        · exact .inl h
        · rw [List.mem_singleton.1 h]
          refine .inr ⟨hown6.out.bytes, fun q hq => ?_⟩
          have := hown6.out.base hq
          have := hown6.out.lt hq
          have := h5.out.box.lt
          have := h5.out.map.lt
          have := hk5.size
          exact ⟨by omega, by omega, by omega, by omega⟩)
      have hk7 : Kept w.heap.size [p, m] w w7 := (hk5.trans ((Kept.of_below hg6 [p, m]).mono hk5.size (fun _ _ h => h))).trans ((grownBy_kept hgb7 [p, m] (by simp)).mono (by have := hk5.size; have := hg6.size; omega) (fun _ _ h => h))
      have hnew : Hid (∀ x, x ∈ X0 ++ [⟨i, A6, l, c6⟩] → x ∈ X0 ∨ ∀ g, blk x.A = some g → w.heap.size ≤ g) := hide (fun x hx => by
        rcases List.mem_append.1 hx with h | h
        · exact .inl h
        · rw [List.mem_singleton.1 h]
          exact .inr (fun g hg => by have := hown6.out.base hg; have := hk5.size; omega))
      have h7 := hide h7
      clear Rq Rp c1 c2 h6 h5 hown6 hm7 hgb7 q5 p5
      go_wp2
      go_ret
      exact ⟨rfl, fun h => absurd rfl h, fun _ => ⟨_, h7.out, by rw [HIF.out, hiN.out, List.map_append]; rfl, hnew.out⟩, hk7⟩
end Go.Proofs.Ytbccbfmgjeknhaa
