/- The document of chapter 42: Note; whether two lists of ints are the same. -/
import Derived.Test.YtbccbfmgjeknhaaPg
namespace Go.Proofs.Ytbccbfmgjeknhaa
open Go.RowKit
set_option maxRecDepth 100000 in
set_option maxHeartbeats 2000000 in
theorem same03_any (A B : Option Addr) (L : List Nat) (c d : Nat) (w : World) (hA : IntsAt w A L) (hB : IntsAt w B L) (hl : L.length ≤ 1000000) :
    Calls Try.prog 33 #[.slice A L.length c, .slice B L.length d] w fun r w' => r = .returned (.bool true) ∧ Grow w w' := by
  have hg0 := Grow.refl w
  go_enter Try.func33, Try.ntmps33
  go_wp2
  go_loopw [13] (fun i wr => ∃ k : Nat, k ≤ L.length ∧ i = .int .i64 k ∧ Grow w wr) (fun i _ => L.length - (intOf i).toNat)
  case atStart => exact ⟨0, by omega, rfl, hg0⟩
  case round =>
    clear hg0
    obtain ⟨k, hk, rfl, hgr⟩ := hrel
    by_cases hlt : k < L.length
    · have hlti : (k : Int) < (L.length : Int) := by omega
      obtain ⟨b1, o1, hA1, h1⟩ := (hA.grow hgr) (by rintro rfl; simp at hlt)
      obtain ⟨b2, o2, hB1, h2⟩ := (hB.grow hgr) (by rintro rfl; simp at hlt)
      subst hA1 hB1
      have R1 := fun (W : World) (h : Grow wr.drew W) => Grow.cell' (Grow.of_drew h) (h1 k hlt)
      have R2 := fun (W : World) (h : Grow wr.drew W) => Grow.cell' (Grow.of_drew h) (h2 k hlt)
      generalize L[k] = x at *
      clear h1 h2
      go_wp2_with fail
      refine wpR_region (Grow) [] (by kernel_rfl) ?_
      refine wpR_take grow_rf grow_tr 0 rfl (by kernel_rfl) (fun _ _ _ h => h) rfl (v := ?_) ?_ ?_
      rotate_left
      · (intro w' hG; go_simp; try with_reducible rfl)
      try simp only [Act.put, List.setIfInBounds_toArray, List.set_cons_zero, List.set_cons_succ]
      refine wpR_take grow_rf grow_tr 1 rfl (by kernel_rfl) (fun _ _ _ h => h) rfl (v := ?_) ?_ ?_
      rotate_left
      · (intro w' hG; go_simp; try with_reducible rfl)
      try simp only [Act.put, List.setIfInBounds_toArray, List.set_cons_zero, List.set_cons_succ]
      refine wpR_take grow_rf grow_tr 2 rfl (by kernel_rfl) (fun _ _ _ h => h) rfl (v := ?_) ?_ ?_
      rotate_left
      · (intro w' hG; go_simp; try with_reducible rfl)
      try simp only [Act.put, List.setIfInBounds_toArray, List.set_cons_zero, List.set_cons_succ]
      refine wpR_take grow_rf grow_tr 3 rfl (by kernel_rfl) (fun _ _ _ h => h) rfl (v := ?_) ?_ ?_
      rotate_left
      · (intro w' hG; go_simp; try with_reducible rfl)
      try simp only [Act.put, List.setIfInBounds_toArray, List.set_cons_zero, List.set_cons_succ]
      refine wpR_take grow_rf grow_tr 4 rfl (by kernel_rfl) (fun _ _ _ h => h) rfl (v := ?_) ?_ ?_
      rotate_left
      · (intro w' hG; go_simp; try with_reducible rfl)
      try simp only [Act.put, List.setIfInBounds_toArray, List.set_cons_zero, List.set_cons_succ]
      refine wpR_take grow_rf grow_tr 5 rfl (by kernel_rfl) (fun _ _ _ h => h) rfl (v := ?_) ?_ ?_
      rotate_left
      · (intro w' hG; go_simp; try with_reducible rfl)
      try simp only [Act.put, List.setIfInBounds_toArray, List.set_cons_zero, List.set_cons_succ]
      refine wpR_take grow_rf grow_tr 6 rfl (by kernel_rfl) (fun _ _ _ h => h) rfl (v := ?_) ?_ ?_
      rotate_left
      · (intro w' hG; go_simp; try with_reducible rfl)
      try simp only [Act.put, List.setIfInBounds_toArray, List.set_cons_zero, List.set_cons_succ]
      refine wpR_take grow_rf grow_tr 7 rfl (by kernel_rfl) (fun _ _ _ h => h) rfl (v := ?_) ?_ ?_
      rotate_left
      · (intro w' hG; go_simp; try with_reducible rfl)
      try simp only [Act.put, List.setIfInBounds_toArray, List.set_cons_zero, List.set_cons_succ]
      refine wpR_take grow_rf grow_tr 8 rfl (by kernel_rfl) (fun _ _ _ h => h) rfl (v := ?_) ?_ ?_
      rotate_left
      · (intro w' hG; go_simp; try with_reducible rfl)
      try simp only [Act.put, List.setIfInBounds_toArray, List.set_cons_zero, List.set_cons_succ]
      refine wpR_done (by kernel_rfl) ?_ _
      have hg2 : Grow w wr.drew := hgr.drew
      clear R1 R2
      go_wp2
      go_roundw
      case rel => exact ⟨k + 1, by omega, by go_num, hg2⟩
      case measure => simp [intOf]; omega
    · obtain rfl : k = L.length := by omega
      go_wp2
      go_ret
      exact ⟨rfl, hgr⟩
/-- the first packet of a list -/
def hdP (L : List PB) : Pkt := match L with | [] => noP | x :: _ => x.p
/-- the document's Note -/
def rnote (sf : Int) (L : List PB) (q : PB) : List PB × Int :=
  if chunkB q.p q.l.length = false then (L, 1) else if q.p.to ≠ sf then (L, 8)
  else if L ≠ [] ∧ q.p.no < (hdP L).no then (L, 11) else if L ≠ [] ∧ q.p.no = (hdP L).no ∧ q.p.total ≠ (hdP L).total then (L, 5)
  else if L ≠ [] ∧ (hdP L).no < q.p.no then ([q], 0) else if (L.any fun x => x.p.index == q.p.index) = true then (L, 12) else (L ++ [q], 0)
theorem Pks.one' {w : World} {g : Nat} {q : PB} (h : Box w g (pbc q)) (hb : Bytes w q.A q.l) : Pks w (some ⟨g, 0, none⟩) [q] := by
  intro _
  refine ⟨g, 0, rfl, fun k hk => ?_⟩
  obtain rfl : k = 0 := by simpa using hk
  exact ⟨fun i _ => by simpa using h.cell i, hb⟩
theorem made_pk {W wa : World} {N g : Nat} (hW : W.alloc (.cells #[] 58) = wa) (hg : W.heap.size = g) (hN : N ≤ W.heap.size) : OwnP wa N (.slice (some ⟨g, 0, none⟩) 0 0) [] ∧ Grow W wa := by
  subst hW hg
  exact ⟨World.ownsRow_made W #[] 0 hN (by decide) rfl, (Grow.refl W).alloc _⟩
theorem box_pk {W wa : World} {g : Nat} {cs : Array Value} (hW : W.alloc (.cells cs 58) = wa) (hg : W.heap.size = g) : Box wa g cs ∧ Grow W wa := by
  subst hW
  exact ⟨Box.new W cs _ hg, (Grow.refl W).alloc _⟩
theorem pks_cells {w : World} {A : Option Addr} {L : List PB} (h : Pks w A L) : ∀ ad, A = some ad → ∀ j u, (pkcells L)[j]? = some u → w.cell? (ad.add j) = some u := by
  intro ad hA j u hu
  have hj : j < L.length * 12 := by rw [← pkcells_len]; exact (List.getElem?_eq_some_iff.1 hu).1
  obtain ⟨b, o, hA', hc⟩ := h (by rintro rfl; simp at hj)
  rw [hA] at hA'
  injection hA' with hA'
  subst hA'
  have hk : j / 12 < L.length := by omega
  have h1 := pkcells_at L (j / 12) hk (j % 12) (by omega)
  rw [show j / 12 * 12 + j % 12 = j by omega] at h1
  rw [Addr.add_mid, show o + j = o + j / 12 * 12 + j % 12 by omega, (hc (j / 12) hk).1 (j % 12) (by omega), ← hu, h1]
set_option maxRecDepth 100000 in
/-- an append of packets onto an empty one without room -/
theorem wp_append_pk {op : Oper} {a : Act} {W : World} {K : Act → World → Prop} {Q : Exit → Act → World → Prop} (s x : Operand) (ho : op.op = .call { callee := .builtin .append, args := #[s, x], argTypes := #[64, 64] })
    {N g c : Nat} {A : Option Addr} {L : List PB} (hs : a.eval s = .slice (some ⟨g, 0, none⟩) 0 0) (hx : a.eval x = .slice A L.length c) (hown : OwnP W N (.slice (some ⟨g, 0, none⟩) 0 0) []) (hN : N ≤ W.heap.size) (hL : Pks W A L) (hm : L.length ≤ 1000)
    (h : ∀ g' c' w', OwnP w' N (.slice (some ⟨g', 0, none⟩) L.length c') L → Grow W w' → K (a.put op.dst (.slice (some ⟨g', 0, none⟩) L.length c')) w') : op.wp Try.prog a W K Q := by
  obtain ⟨i0, hi0, hz0, hs0, hb0⟩ := info_parts pktInfo
  have hr : ∃ g' c' w', (Builtin.append_ #[64, 64] op.type #[.slice (some ⟨g, 0, none⟩) 0 0, .slice A L.length c]).run Try.prog W = .ok (.slice (some ⟨g', 0, none⟩) L.length c') w' ∧ OwnP w' N (.slice (some ⟨g', 0, none⟩) L.length c') L ∧ Grow W w' := by
    by_cases hL0 : L = []
    · subst hL0
      refine ⟨g, 0, W, ?_, hown, Grow.refl W⟩
      cases A with
      | none => simp [Builtin.append_, run_underlying Try.underlying64, sizeOf, typeInfo, hi0, Builtin.lenOf, Builtin.firstCells, storeCells]
      | some ad =>
        have h := run_loadCells_list (P := Try.prog) W ad [] (by simp)
        simp at h
        simp [Builtin.append_, run_underlying Try.underlying64, sizeOf, typeInfo, hi0, Builtin.lenOf, Builtin.firstCells, storeCells, h]
    · obtain ⟨b, o, rfl, _⟩ := hL hL0
      have hpos : 0 < L.length := List.length_pos_iff.2 hL0
      obtain ⟨v', w', h1, h2, h3⟩ := run_append_arg_grows (P := Try.prog) W 64 op.type 58 i0 _ 12 112 Try.underlying64 hi0 hz0 hs0 hb0 rfl (by omega) ⟨g, 0, none⟩ 0 0 [] (by simp) (by simp) ⟨b, o, none⟩ L.length c (pkcells L) (pkcells_len L) (pks_cells hL _ rfl) (by omega) (by unfold maxLen; omega) (by omega)
      rw [List.nil_append, Nat.zero_add] at h2
      have hg : Grow W w' := ⟨h3.os, h3.tape, h3.output, h3.size, fun k hk => h3.block k hk (by simp)⟩
      rcases h2.2 with ⟨_, h0⟩ | ⟨g', cap, cur, rfl, hbb, r⟩
      · omega
      · exact ⟨g', cap, w', h1, ⟨h2.1, .inr ⟨g', cap, cur, rfl, by omega, r⟩⟩, hg⟩
  obtain ⟨g', c', w', hr, h1, h2⟩ := hr
  unfold Oper.wp execOp
  simp only [ho, resolve, invoke, builtin, Sem.run_bind, Sem.run_pure, Result.andThen_ok, List.map_toArray, List.map_cons, List.map_nil, hs, hx, hr]
  exact h g' c' w' h1 h2
set_option maxRecDepth 100000 in
/-- an append of one packet -/
theorem wp_append_pk1 {op : Oper} {a : Act} {W : World} {K : Act → World → Prop} {Q : Exit → Act → World → Prop} (s x : Operand) (ho : op.op = .call { callee := .builtin .append, args := #[s, x], argTypes := #[64, 64] })
    {N g n c gx : Nat} {L : List PB} {q : PB} (hs : a.eval s = .slice (some ⟨g, 0, none⟩) n c) (hx : a.eval x = .slice (some ⟨gx, 0, none⟩) 1 1) (hown : OwnP W N (.slice (some ⟨g, 0, none⟩) n c) L) (hN : N ≤ W.heap.size) (hb : Box W gx (pbc q)) (hm : L.length ≤ 1000)
    (h : ∀ g' c' w', OwnP w' N (.slice (some ⟨g', 0, none⟩) (L ++ [q]).length c') (L ++ [q]) → Below N W w' → K (a.put op.dst (.slice (some ⟨g', 0, none⟩) (L ++ [q]).length c')) w') : op.wp Try.prog a W K Q := by
  obtain ⟨i0, hi0, hz0, hs0, hb0⟩ := info_parts pktInfo
  obtain rfl := hown.len
  obtain ⟨g', c', w', hr, h1, _, h3⟩ := run_append_keep (P := Try.prog) W N 64 op.type 58 i0 _ 12 112 Try.underlying64 hi0 hz0 hs0 hb0 rfl (by omega) g L.length c (pkcells L) hown (some ⟨gx, 0, none⟩) 1 1 (pbc q).toList rfl (by simp) (fun ad e j u hu => by
    injection e with e
    subst e
    rw [Addr.add_mid, Nat.zero_add, hb.cell j, ← hu]
    simp) (pbc_one q) (by unfold maxLen; omega) (by omega) hN
  unfold Oper.wp execOp
  simp only [ho, resolve, invoke, builtin, Sem.run_bind, Sem.run_pure, Result.andThen_ok, List.map_toArray, List.map_cons, List.map_nil, hs, hx, hr]
  have e : (L ++ [q]).length = L.length + 1 := by simp
  have h4 := h g' c' w' (by
    unfold OwnP
    rw [pkcells_app, e]
    simpa using h1) ⟨h3.os, h3.tape, h3.output, h3.size, fun k hk => h3.block k (by omega) (fun e => by injection e with e; have := hown.blk; omega)⟩
  rw [e] at h4
  exact h4
end Go.Proofs.Ytbccbfmgjeknhaa
