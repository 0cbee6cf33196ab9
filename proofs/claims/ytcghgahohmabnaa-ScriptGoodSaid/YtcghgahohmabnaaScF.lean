/- Acts (chapter 46): the statements' Cut. -/
import Derived.Test.YtcghgahohmabnaaScB
import Derived.Test.YtcghgahohmabnaaFtW
namespace Go.Proofs.Ytcghgahohmabnaa
open Go.RowKit
def cutx (x : XA) : XA := (x.1, x.2.take 1030)
/-- acts, few and short -/
def cutL (L : List XA) : List XA := (L.take 60).map cutx
/-- an act that came in -/
structure AB.In (w : World) (x : AB) : Prop where
  n1 : -9223372036854775808 ≤ x.p.n
  n2 : x.p.n < 9223372036854775808
  bytes : Bytes w x.A x.l
  cap : x.l.length ≤ x.c
  pos : 0 ≤ x.p.f.pos ∧ x.p.f.pos < 4294967296
  bits : 0 ≤ x.p.f.bits ∧ x.p.f.bits < 4294967296
abbrev ActsIn (w : World) (A : Option Addr) (L : List AB) : Prop := RowsAt (fun x => (abc x).toList) AB.In 9 w A L
theorem ActsIn.grow {w w' : World} {A : Option Addr} {L : List AB} (h : ActsIn w A L) (hg : Grow w w') : ActsIn w' A L :=
  RowsAt.kept h (by omega) (fun _ => rfl) (Kept.of_below hg []) (by simp) (fun _ _ ok => ⟨ok.n1, ok.n2, ok.bytes.grow hg, ok.cap, ok.pos, ok.bits⟩)
theorem ActsIn.at_ {w : World} {A : Option Addr} {L : List AB} (h : ActsIn w A L) (k : Nat) (hk : k < L.length) : ∃ b o, A = some ⟨b, o, none⟩ ∧ (∀ i, i < 9 → w.cell? ⟨b, o + k * 9 + i, none⟩ = (abc L[k])[i]?) ∧ L[k].In w := by
  obtain ⟨b, o, rfl, hc⟩ := h (by rintro rfl; simp at hk)
  exact ⟨b, o, rfl, fun i hi => by rw [(hc k hk).1 i hi]; simp, (hc k hk).2⟩
theorem ActsIn.fates {w : World} {A : Option Addr} {L : List AB} (h : ActsIn w A L) : ∀ x, x ∈ L → (0 ≤ x.p.f.pos ∧ x.p.f.pos < 4294967296) ∧ 0 ≤ x.p.f.bits ∧ x.p.f.bits < 4294967296 := by
  intro x hx
  obtain ⟨k, hk, rfl⟩ := List.getElem_of_mem hx
  obtain ⟨_, _, _, _, ok⟩ := h.at_ k hk
  exact ⟨ok.pos, ok.bits⟩
theorem cut_fates {L M : List AB} (h : M.map xa = cutL (L.map xa)) (hL : ∀ x, x ∈ L → (0 ≤ x.p.f.pos ∧ x.p.f.pos < 4294967296) ∧ 0 ≤ x.p.f.bits ∧ x.p.f.bits < 4294967296) :
    ∀ y, y ∈ M → (0 ≤ y.p.f.pos ∧ y.p.f.pos < 4294967296) ∧ 0 ≤ y.p.f.bits ∧ y.p.f.bits < 4294967296 := by
  intro y hy
  have h1 : xa y ∈ cutL (L.map xa) := h ▸ List.mem_map.2 ⟨y, hy, rfl⟩
  unfold cutL at h1
  obtain ⟨z, hz, he⟩ := List.mem_map.1 h1
  obtain ⟨x, hx, rfl⟩ := List.mem_map.1 (List.mem_of_mem_take hz)
  have e : x.p = y.p := congrArg Prod.fst he
  rw [← e]
  exact hL x hx
theorem OwnL.set {w : World} {base q i : Nat} {v : Value} {L : List AB} {u : Value} (h : OwnL w base v L) (hq : v.ownBlock ≠ some q) : OwnL (w.setCell ⟨q, i, none⟩ u) base v L :=
  OwnL.keep h (fun k hk => Below.heap_setCell _ _ _ _ (fun e => hq (by rw [hk]; exact congrArg some e)))
theorem BodyOk.set {w : World} {N q i : Nat} {v u : Value} {x : AB} (h : BodyOk w N v x) (hq : x.l ≠ [] → blk x.A ≠ some q) : BodyOk (w.setCell ⟨q, i, none⟩ u) N v x :=
  ⟨⟨h.ok.n1, h.ok.n2, h.ok.bytes.keptN (Kept.setCell (p := ⟨q, i, none⟩) (Kept.refl w.heap.size [q] w) (.inr (by simp)) u) (fun hne k hk => by
    have := hq hne
    simp
    rintro rfl
    exact this hk), h.ok.len, h.ok.cap⟩, h.at_⟩
set_option maxRecDepth 100000 in
set_option maxHeartbeats 4000000 in
theorem cut46_any (A : Option Addr) (L : List AB) (c : Nat) (w : World) (hi : ActsIn w A L) (hL : L.length ≤ 9223372036854775807) :
    Calls Try.prog 66 #[.slice A L.length c] w fun r w' => (∃ (M : List AB) (A' : Option Addr) (c' : Nat), r = .returned (.slice A' M.length c') ∧ M.length ≤ 60 ∧ Acts w' A' M ∧ M.map xa = cutL (L.map xa)) ∧ Grow w w' := by
  obtain ⟨i0, hi0, hz0, hs0, hb0⟩ := info_parts actInfo
  have HI := hide (And.intro hi0 (And.intro hz0 (And.intro hs0 hb0)))
  clear hi0 hz0 hs0 hb0
  have hg0 := Grow.refl w
  go_enter Try.func66, Try.ntmps66
  go_wp2
  go_loopw [3, 8] (fun v i wr => ∃ (k : Nat) (M : List AB) (Al : Option Addr) (cl : Nat), k ≤ L.length ∧ i = .int .i64 k ∧ v = .slice Al M.length cl ∧ Hid (OwnL wr w.heap.size (.slice Al M.length cl) M) ∧ Hid (M.map xa = cutL ((L.take k).map xa)) ∧ M.length ≤ 60 ∧ Hid (∀ x, x ∈ M → BodyOk wr w.heap.size (.slice Al M.length cl) x) ∧ Grow w wr) (fun _ i _ => L.length - (intOf i).toNat)
  case atStart => exact ⟨0, [], none, 0, by omega, rfl, rfl, hide (OwnL.nil _ _), hide rfl, by simp, hide (by simp), hg0⟩
  case round =>
    clear hg0
    obtain ⟨k, M, Al, cl, hk, rfl, rfl, hown, hM, hM60, hbody, hgr⟩ := hrel
    have hgs := hgr.size
    by_cases hlt : k < L.length
    · have hlti : (k : Int) < (L.length : Int) := by omega
      obtain ⟨x, hx⟩ : ∃ x, Hid (x = L[k]) := ⟨_, hide rfl⟩
      obtain ⟨b3, o, rfl, hcs, hok⟩ := (hi.grow hgr).at_ k hlt
      rw [← hx.out] at hcs hok
      have d0 := hcs 0 (by omega)
      have d1 := hcs 1 (by omega)
      have d2 := hcs 2 (by omega)
      have d3 := hcs 3 (by omega)
      have d4 := hcs 4 (by omega)
      have d5 := hcs 5 (by omega)
      have d6 := hcs 6 (by omega)
      have d7 := hcs 7 (by omega)
      have d8 := hcs 8 (by omega)
      simp at d0 d1 d2 d3 d4 d5 d6 d7 d8
      clear hcs
      have hsnoc : Hid ((L.take (k + 1)).map xa = (L.take k).map xa ++ [xa x]) := hide (by
        rw [List.take_succ_eq_append_getElem hlt, List.map_append, ← hx.out]
        rfl)
      have hq0 := Box.new wr (abc x) 108 rfl
      have hgq := (Grow.refl wr).alloc (.cells (abc x) 108)
      by_cases h60 : k < 60
      · have h60i : (k : Int) < 60 := by omega
        have hlenM : Hid (M.length = k) := hide (by
          have h1 := congrArg List.length hM.out
          unfold cutL at h1
          simp only [List.length_map, List.length_take] at h1
          omega)
        obtain ⟨p, Ax, l, cx⟩ := x
        obtain ⟨m, hm⟩ : ∃ m, Hid (m = l.take 1030) := ⟨_, hide rfl⟩
        have hmm : m.length = min 1030 l.length := by rw [hm.out, List.length_take]
        have hlc := hok.cap
        dsimp only at hlc
        have hmin : (if 1030 < (l.length : Int) then (1030 : Int) else (l.length : Int)) = ((m.length : Nat) : Int) := by split <;> omega
        have hmc : m.length ≤ cx := by omega
        have hbm : Bytes wr Ax m := by rw [hm.out]; exact hok.bytes.take 1030
        have hn12 := hide (And.intro hok.n1 hok.n2)
        clear hok hmm
        obtain ⟨cq0, fq0, lq0⟩ := hq0.rules
        go_wp2_with (at_builtin; refine wpList_append_fresh byteT rfl (.tmp 15) (.tmp 22) rfl (Own.made' _ (wr.heap.size + 1) (wr.heap.size + 1) (by simp) (by omega)) (by simp <;> omega) ((hbm.alloc _).alloc _) rfl rfl (by omega) ?_)
        intro A1 c1 w5 hown5 hb5
        have hg5 : Grow wr w5 := Grow.trans (hgq.alloc _) hb5
        have hq5 := (hq0.alloc _).grow hb5
        have hs5 : wr.heap.size + 2 ≤ w5.heap.size := by have := hb5.size; simp at this; omega
        clear cq0 fq0 lq0 d0 d1 d2 d3 d4 d5 d6 d7 d8 hb5 hq0 hgq
        have hbt5 := hown5.bytes
        have hle5 := hown5.le
        have hbase5 : ∀ q, blk A1 = some q → wr.heap.size + 1 ≤ q := fun q h => hown5.base h
        clear hown5
        obtain ⟨_, _, _, _, _, hobr, _⟩ := OwnL.form hown.out
        have hbin : ∀ y, y ∈ M → y.l ≠ [] → ∀ g, blk y.A = some g → g < wr.heap.size := fun y hy hne g hg => (hbody.out y hy).ok.bytes.inn hne g hg
        obtain ⟨cq0, fq0, lq0⟩ := hq5.rules
        go_wp2_with (at_builtin; refine Hid.out (?_ : Hid _))
        refine hide ?_
        generalize hW6 : World.setCell w5 _ _ = w6
        have hq6 := Box.store1 hq5 hW6
        simp only [List.setIfInBounds_toArray, List.set_cons_zero, List.set_cons_succ] at hq6
        have hg6 : Grow wr w6 := by rw [← hW6]; exact Below.setCell hg5 (by simp) _
        have hown6 : OwnL w6 w.heap.size (.slice Al M.length cl) M := by
          rw [← hW6]
          exact (hown.out.grow hg5).set (fun h => by have := (hobr _ h).2; omega)
        have hbody6 : ∀ y, y ∈ M → BodyOk w6 w.heap.size (.slice Al M.length cl) y := fun y hy => by
          rw [← hW6]
          exact ((hbody.out y hy).grow hg5).set (fun hne h => by have := hbin y hy hne _ h; omega)
        have hx6 : BodyOk w6 w.heap.size (.slice Al M.length cl) ⟨p, A1, m, c1⟩ := by
          rw [← hW6]
          exact BodyOk.set ⟨⟨hn12.out.1, hn12.out.2, hbt5, by show m.length ≤ _; rw [hm.out, List.length_take]; omega, hle5.1⟩, fun _ g hg => ⟨by have := hbase5 g hg; omega, fun h => by have := (hobr _ h).2; have := hbase5 g hg; omega⟩⟩ (fun _ h => by have := hbase5 _ h; omega)
        have hs6 : w6.heap.size = w5.heap.size := by rw [← hW6]; simp [World.setCell]
        clear hW6 hq5 hbt5 cq0 fq0 lq0 hg5 hbody hown
        refine (wpList_append_own_at _ rfl (.tmp 25) (.tmp 27) _ rfl w.heap.size _ i0 _ 9 80 Try.underlying105 HI.out.1 HI.out.2.1 HI.out.2.2.1 HI.out.2.2.2 rfl (by omega) (.slice Al M.length cl) M.length (lcells M) rfl (hown6.grow ((Grow.refl w6).alloc _)) ⟨w5.heap.size, 0, none⟩ 1 1 (abc ⟨p, A1, m, c1⟩).toList rfl rfl (box_news (Box.new w6 (abc ⟨p, A1, m, c1⟩) 108 hs6)) (abc_one ⟨p, A1, m, c1⟩) (by have := hlenM.out; unfold maxLen; omega) (by have := hlenM.out; omega) (by simp; omega) ?_)
        intro v' w7 hown7 hgb7 _ hat7
        have hgw := (Grow.refl w6).alloc (.cells (abc ⟨p, A1, m, c1⟩) 108)
        obtain ⟨_, _, _, _, _, hob6, _⟩ := OwnL.form hown6
        have hg7 : Grow w w7 := grown_after (Grow.trans (Grow.trans hgr hg6) hgw) hgb7 (fun q' h => (hob6 q' h).1)
        have hown7' : OwnL w7 w.heap.size v' (M ++ [⟨p, A1, m, c1⟩]) := by
          unfold OwnL
          rw [lcells_snoc, List.length_append]
          exact hown7
        obtain ⟨A8, c8, rfl, _, _, _, _⟩ := OwnL.form hown7'
        have hown8 := hide hown7'
        have hbody8 : Hid (∀ y, y ∈ M ++ [(⟨p, A1, m, c1⟩ : AB)] → BodyOk w7 w.heap.size (.slice A8 (M ++ [(⟨p, A1, m, c1⟩ : AB)]).length c8) y) := hide (fun y hy => by
          rcases List.mem_append.1 hy with h | h
          · exact ((hbody6 y h).grow hgw).grown hgb7 hat7
          · rw [List.mem_singleton.1 h]; exact (hx6.grow hgw).grown hgb7 hat7)
        have hM8 : Hid ((M ++ [(⟨p, A1, m, c1⟩ : AB)]).map xa = cutL ((L.take (k + 1)).map xa)) := hide (by
          rw [hsnoc.out, List.map_append, hM.out]
          unfold cutL
          have hl1 : ((L.take k).map xa ++ [xa ⟨p, Ax, l, cx⟩]).length ≤ 60 := by simp; omega
          have hl2 : ((L.take k).map xa).length ≤ 60 := by simp; omega
          rw [List.take_of_length_le hl1, List.take_of_length_le hl2, List.map_append]
          simp [cutx, hm.out])
        have hl8 : (M ++ [(⟨p, A1, m, c1⟩ : AB)]).length ≤ 60 := by have := hlenM.out; simp; omega
        generalize M ++ [(⟨p, A1, m, c1⟩ : AB)] = M8 at *
        clear hx6 hown7' hown7 hgb7 hat7 hown6 hbody6 hob6 hq6
        go_wp2
        go_roundw
        case rel => exact ⟨k + 1, M8, A8, c8, by omega, by go_num, rfl, hown8, hM8, hl8, hbody8, hg7⟩
        case measure => simp [intOf]; omega
      · have h60i : ¬ ((k : Int) < 60) := by omega
        have hown2 := hide (hown.out.grow hgq)
        have hbody2 := hide (fun y hy => (hbody.out y hy).grow hgq)
        have hM2 : Hid (M.map xa = cutL ((L.take (k + 1)).map xa)) := hide (by
          rw [hsnoc.out, hM.out]
          unfold cutL
          rw [List.take_append_of_le_length (by simp; omega)])
        have hg2 := Grow.trans hgr hgq
        clear hown hbody hM
        go_wp2
        go_roundw
        case rel => exact ⟨k + 1, M, Al, cl, by omega, by go_num, rfl, hown2, hM2, hM60, hbody2, hg2⟩
        case measure => simp [intOf]; omega
    · obtain rfl : k = L.length := by omega
      clear hlt
      have hMM := hM.out
      rw [List.take_length] at hMM
      have hMM := hide hMM
      go_wp2
      go_ret
      obtain ⟨A', c', he', hlc, hcm', _, _⟩ := OwnL.form hown.out
      exact ⟨⟨M, Al, cl, rfl, hM60, OwnL.acts hown.out (fun x hx => (hbody.out x hx).ok), hMM.out⟩, hgr⟩
end Go.Proofs.Ytcghgahohmabnaa
