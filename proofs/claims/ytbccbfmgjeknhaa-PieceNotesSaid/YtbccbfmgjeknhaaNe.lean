/- The walk of PieceNotes (chapter 42). -/
import Derived.Test.YtbccbfmgjeknhaaNd
namespace Go.Proofs.Ytbccbfmgjeknhaa
open Go.RowKit
abbrev PksCut (w : World) (A : Option Addr) (L : List PB) : Prop := RowsAt (fun x => (pbc x).toList) (fun w (x : PB) => Bytes w x.A x.l ∧ x.l.length ≤ x.c ∧ x.c ≤ 9223372036854775807) 12 w A L
theorem PksCut.at_ {w : World} {A : Option Addr} {L : List PB} (h : PksCut w A L) (k : Nat) (hk : k < L.length) : ∃ b o, A = some ⟨b, o, none⟩ ∧ (∀ i, i < 12 → w.cell? ⟨b, o + k * 12 + i, none⟩ = (pbc L[k])[i]?) ∧ Bytes w L[k].A L[k].l ∧ L[k].l.length ≤ L[k].c ∧ L[k].c ≤ 9223372036854775807 := by
  obtain ⟨b, o, rfl, hc⟩ := h (by rintro rfl; simp at hk)
  exact ⟨b, o, rfl, fun i hi => by rw [(hc k hk).1 i hi]; simp, (hc k hk).2⟩
theorem PksCut.grow {w w' : World} {A : Option Addr} {L : List PB} (h : PksCut w A L) (hg : Grow w w') : PksCut w' A L :=
  RowsAt.kept h (by omega) (fun _ => rfl) (Kept.of_below hg []) (by simp) (fun _ _ ok => ⟨ok.1.grow hg, ok.2.1, ok.2.2⟩)
theorem refnote_all (sf : Int) (A : Option Addr) (c : Nat) (L : List PB) (q : PB) (w : World) (hl0 : Pks w A L) (hlen : L.length ≤ 1000) (hqb : Bytes w q.A q.l) (hqn : q.l.length ≤ 1000000) :
    Calls Try.prog 30 #[.slice A L.length c, .int .i64 sf, pv q.p q.A q.l.length q.c] w fun r w' => RNP w (rnote sf L q) r w' := by
  by_cases h : L = []
  · subst h
    exact refnote_nil sf A c q w hqb hqn
  · exact refnote_any sf A c L q w h hl0 hlen hqb hqn
theorem rnote_mem (sf : Int) (L : List PB) (q : PB) : ∀ x, x ∈ (rnote sf L q).1 → x ∈ L ∨ x = q := by
  intro x
  unfold rnote
  split
  · exact .inl
  split
  · exact .inl
  split
  · exact .inl
  split
  · exact .inl
  split
  · intro h; exact .inr (List.mem_singleton.1 h)
  split
  · exact .inl
  · intro h
    rcases List.mem_append.1 h with h | h
    · exact .inl h
    · exact .inr (List.mem_singleton.1 h)
theorem hd_total (L : List PB) (h : GoodL L) (hne : L ≠ []) : ∃ T : Nat, (hdP L).total = (T : Int) ∧ T ≤ 255 := by
  cases L with
  | nil => exact absurd rfl hne
  | cons x L =>
    have h1 := chunkB_index x.p _ (h.each x (by simp)).1
    exact ⟨x.p.total.toNat, by show x.p.total = _; omega, by omega⟩
theorem Lk_len (L : List PB) (h : ∀ x, x ∈ L → x.l.length ≤ 80) : ∀ y, y ∈ Lk L → y.2.length ≤ 1000 := by
  intro y hy
  obtain ⟨x, hx, rfl⟩ := List.mem_map.1 hy
  have := h x hx
  show x.l.length ≤ 1000
  omega
/-- the piece behind a Note, and the document's list -/
def After (w : World) (N p m : Nat) (sf : Int) (R : List PB) (k : Nat) (X : List PE) (no tot : Int) : Prop :=
  Pc w N p m sf no tot X ∧ X.map kl = Lk R ∧ GoodL R ∧ (R ≠ [] → no = (hdP R).no ∧ tot = (hdP R).total) ∧ (R = [] → no = 0 ∧ tot = 0) ∧ R.length ≤ k ∧ (∀ x, x ∈ R → x.l.length ≤ 80)
theorem after_note {w w' : World} {N p m k : Nat} {sf no tot : Int} {X : List PE} {R : List PB} {q : PB} {r : Ending} (h : NoteP w N p m sf no tot X q.p q.l (rnote sf R q).2 r w') (hX : X.map kl = Lk R) (hG : GoodL R) (hst : R ≠ [] → no = (hdP R).no ∧ tot = (hdP R).total) (hst0 : R = [] → no = 0 ∧ tot = 0) (hk : R.length ≤ k) (hl : ∀ x, x ∈ R → x.l.length ≤ 80) (hq : q.l.length ≤ 80) :
    ∃ X' no' tot', After w' N p m sf (rnote sf R q).1 (k + 1) X' no' tot' := by
  obtain ⟨_, h1, h2, _⟩ := h
  obtain ⟨_, e2, e3⟩ := note_law sf no tot R q hG hst
  have hl' : ∀ x, x ∈ (rnote sf R q).1 → x.l.length ≤ 80 := fun x hx => by
    rcases rnote_mem sf R q x hx with h | h
    · exact hl x h
    · rw [h]; exact hq
  by_cases h0 : (rnote sf R q).2 = 0
  · obtain ⟨X', hp, hX', _⟩ := h2 h0
    obtain ⟨a1, a2, a3, a4, a5, a6⟩ := e3 h0
    exact ⟨X', _, _, hp, by rw [hX', a3, hX], a1, fun _ => ⟨a4.symm, a5.symm⟩, fun h => absurd h a2, by omega, hl'⟩
  · have hp := h1 h0
    have e := e2 h0
    rw [e] at hl' ⊢
    exact ⟨X, no, tot, hp, hX, hG, hst, hst0, by omega, hl'⟩
set_option maxRecDepth 100000 in
set_option maxHeartbeats 8000000 in
theorem pieceNotes_any (sf : Int) (A : Option Addr) (L : List PB) (c : Nat) (w : World) (hL : L.length ≤ 9223372036854775807) (hi : PksCut w A L) :
    Calls Try.prog 10 #[.int .i64 sf, .slice A L.length c] w fun e w' => e = .returned (.bool true) ∧ Grow w w' := by
  go_enter Try.func10, Try.ntmps10
  go_wp2_with fail
  refine (pnew_any sf w).mono ?_
  rintro r0 w0 ⟨P0, M0, rfl, h0, hg0⟩
  obtain ⟨l1, l2, l3⟩ := h0.low
  have h0 := hide h0
  have hp0 : Hid (Pks w0 none []) := hide (fun h => absurd rfl h)
  go_wp2
  go_loopw [6, 7] (fun v i wr => ∃ (k : Nat) (R : List PB) (Ar : Option Addr) (cr : Nat) (X : List PE) (no tot : Int), k ≤ L.length ∧ k ≤ 40 ∧ i = .int .i64 k ∧ v = .slice Ar R.length cr ∧ Hid (Pks wr Ar R) ∧ Hid (Pc wr w.heap.size P0 M0 sf no tot X) ∧ Hid (X.map kl = Lk R) ∧ Hid (GoodL R) ∧
      Hid (R ≠ [] → no = (hdP R).no ∧ tot = (hdP R).total) ∧ Hid (R = [] → no = 0 ∧ tot = 0) ∧ R.length ≤ k ∧ Hid (∀ x, x ∈ R → x.l.length ≤ 80) ∧ Grow w wr) (fun _ i _ => 40 - (intOf i).toNat)
  case atStart => exact ⟨0, [], none, 0, [], 0, 0, by omega, by omega, rfl, rfl, hp0, h0, hide rfl, hide GoodL.nil, hide (fun h => absurd rfl h), hide (fun _ => ⟨rfl, rfl⟩), by simp, hide (by simp), hg0⟩
  case round =>
    clear h0 hp0 hg0
    obtain ⟨k, R, Ar, cr, X, no, tot, hk, hk40, rfl, rfl, hR, hP, hX, hG, hst, hst0, hRk, hRl, hgr⟩ := hrel
    by_cases hlt : k < L.length ∧ k < 40
    · obtain ⟨hlt1, hlt2⟩ := hlt
      have hki : (k : Int) < (L.length : Int) := by omega
      have hk4 : (k : Int) < 40 := by omega
      obtain ⟨b, o, hA, hcs, hby, hlc, hcc⟩ := (hi.grow hgr).at_ k hlt1
      subst hA
      generalize L[k] = x at *
      obtain ⟨p1, A1, lb, c1⟩ := x
      dsimp only at *
      have d0 := hcs 0 (by omega)
      have d1 := hcs 1 (by omega)
      have d2 := hcs 2 (by omega)
      have d3 := hcs 3 (by omega)
      have d4 := hcs 4 (by omega)
      have d5 := hcs 5 (by omega)
      have d6 := hcs 6 (by omega)
      have d7 := hcs 7 (by omega)
      have d8 := hcs 8 (by omega)
      have d9 := hcs 9 (by omega)
      have d10 := hcs 10 (by omega)
      have d11 := hcs 11 (by omega)
      clear hcs
      simp at d0 d1 d2 d3 d4 d5 d6 d7 d8 d9 d10 d11
      have HC := hide (cut13_any p1 A1 lb c1 wr hlc hcc hby)
      have hm80 : (lb.take 80).length ≤ 80 := by rw [List.length_take]; omega
      generalize lb.take 80 = m1 at *
      clear hby hlc hcc
      go_wp2_with fail
      refine HC.out.mono ?_
      rintro r0 w1 ⟨A2, c2, rfl, hown2, hg1⟩
      clear d0 d1 d2 d3 d4 d5 d6 d7 d8 d9 d10 d11 HC
      have hby2 := hown2.bytes
      have hc2 := hown2.le
      clear hown2
      go_wp2_with fail
      have hgA : Grow w1 (w1.alloc (.cells (pbc ⟨p1, A2, m1, c2⟩) 58)) := (Grow.refl w1).alloc _
      have qb := Box.new w1 (pbc ⟨p1, A2, m1, c2⟩) 58 rfl
      have hgr1 := Grow.trans hgr hg1
      have HN := hide (refnote_all sf Ar cr R ⟨p1, A2, m1, c2⟩ _ (hR.out.grow (Grow.trans hg1 hgA)) (by omega) (hby2.grow hgA) (by show m1.length ≤ _; omega))
      have hlaw := hide (note_law sf no tot R ⟨p1, A2, m1, c2⟩ hG.out hst.out)
      have haft := hide (fun (W W' : World) (r : Ending) (h : NoteP W w.heap.size P0 M0 sf no tot X p1 m1 (rnote sf R ⟨p1, A2, m1, c2⟩).2 r W') => after_note (q := ⟨p1, A2, m1, c2⟩) h hX.out hG.out hst.out hst0.out hRk hRl.out hm80)
      have hXo := hX.out
      have hchk : pcheck sf no tot (X.map kl) p1 m1.length = (rnote sf R ⟨p1, A2, m1, c2⟩).2 := by rw [hXo]; exact hlaw.out.1
      have hchk := hide hchk
      clear hlaw hG hst hst0 hRl hXo
      generalize rnote sf R ⟨p1, A2, m1, c2⟩ = RR at *
      obtain ⟨R', ev⟩ := RR
      dsimp only at *
      refine HN.out.mono ?_
      rintro r0 w2 ⟨⟨An, cn, rfl, hRn⟩, hg2⟩
      have hRn := hide hRn
      have qb2 := (qb.grow hg2)
      have c2cells := qb2.cell
      have hg12 := Grow.trans hgA hg2
      have hgr2 := Grow.trans hgr1 hg12
      have HC2 := hide (cut13_any p1 A2 m1 c2 w2 hc2.1 hc2.2 (hby2.grow hg12))
      rw [List.take_of_length_le hm80] at HC2
      have hP2 := hide (hP.out.grow (Grow.trans hg1 hg12))
      clear HN hP hR hgr hg1 hgA hg2 hg12 hgr1 hby2 qb
      go_wp2_with fail
      refine HC2.out.mono ?_
      rintro r0 w3 ⟨A3, c3, rfl, hown3, hg3⟩
      have hby3 := hown3.bytes
      have hP3 := hP2.out.grow hg3
      have hgr3 := Grow.trans hgr2 hg3
      have HNt := hide (pnote_any p1 A3 m1 c3 w3 hP3 hby3 (by omega) hgr3.size (fun hne g hg => hP3.apart_bytes hby3 hne g hg))
      rw [hchk.out] at HNt
      have hRn3 := hide (hRn.out.grow hg3)
      have hP3 := hide hP3
      clear HC2 hown3 hby3 c2cells qb2 hP2 hRn hgr2 hg3
      go_wp2_with fail
      refine HNt.out.mono ?_
      intro r0 w4 hnp
      obtain ⟨X', no', tot', haf⟩ := haft.out _ _ _ hnp
      obtain ⟨rfl, _, _, hk4⟩ := hnp
      have hP3s := hP3.out.box.lt
      have hgr4 : Grow w w4 := hgr3.keptS hk4 (by intro a ha; rcases List.mem_cons.1 ha with h | h; omega; rw [List.mem_singleton.1 h]; omega)
      have hRn4 := hide (hRn3.out.keptPc hP3.out hk4)
      obtain ⟨hP4, hX4, hG4, hst4, hst04, hRk4, hRl4⟩ := haf
      clear HNt haft hchk hRn3 hP3 hk4 hX hm80
      have hXe : X'.isEmpty = R'.isEmpty := by
        have := congrArg List.length hX4
        unfold Lk at this
        rw [List.length_map, List.length_map] at this
        cases X' <;> cases R' <;> simp_all
      by_cases hRe : R' = []
      · subst hRe
        obtain ⟨rfl, rfl⟩ := hst04 rfl
        have hX0 : X' = [] := by simpa using hXe
        subst hX0
        have HNo := hide (pno_any w4 hP4)
        have HWn := hide (refwhole_nil An cn w4)
        have HW := hide (fun W (g : Grow w4 W) => pwhole_any (T := 0) W (hP4.grow g) (by omega) (by simp))
        have HM := hide (fun W (g : Grow w4 W) => pmissing_any (T := 0) W (hP4.grow g) (by omega))
        have hP4 := hide hP4
        have hX4 := hide hX4
        have hG4 := hide hG4
        clear hst4 hst04 hRl4 hXe
        go_wp2_with fail
        refine HNo.out.mono ?_
        rintro r0 w5 ⟨rfl, rfl⟩
        clear HNo
        go_wp2_with fail
        refine HWn.out.mono ?_
        rintro r0 w5 ⟨B1, d1, B2, d2, rfl, hg45⟩
        go_wp2_with fail
        refine (HW.out _ hg45).mono ?_
        rintro r0 w6 ⟨⟨B3, d3, rfl, _⟩, hg56⟩
        have hg46 := Grow.trans hg45 hg56
        have hw0 : wholeR (([] : List PE).map kl) 0 = ([], false) := rfl
        rw [hw0]
        clear hw0 HW
        go_wp2_with fail
        refine (HM.out _ hg46).mono ?_
        rintro r0 w7 ⟨⟨B4, d4, rfl, _⟩, hg67⟩
        have hg47 := Grow.trans hg46 hg67
        have HS := hide (same03_any B4 B2 [] d4 d2 w7 (fun h => absurd rfl h) (fun h => absurd rfl h) (by simp))
        clear HM HWn
        go_wp2_with fail
        refine HS.out.mono ?_
        rintro r0 w8 ⟨rfl, hg78⟩
        have hg48 := Grow.trans hg47 hg78
        have hR8 : Hid (Pks w8 An []) := hide (fun h => absurd rfl h)
        have hP8 := hide (hP4.out.grow hg48)
        have hgr8 := Grow.trans hgr4 hg48
        clear HS hP4 hRn4 hgr4 hg45 hg56 hg46 hg67 hg47 hg78 hg48
        go_wp2
        go_roundw
        case rel => exact ⟨k + 1, [], An, cn, [], 0, 0, by omega, by omega, by go_num, rfl, hR8, hP8, hX4, hG4, hide (fun h => absurd rfl h), hide (fun _ => ⟨rfl, rfl⟩), by simp, hide (by simp), hgr8⟩
        case measure => simp [intOf]; omega
      · obtain ⟨rfl, rfl⟩ := hst4 hRe
        obtain ⟨T, hT, hT255⟩ := hd_total R' hG4 hRe
        have hXf : X'.isEmpty = false := by rw [hXe]; cases R' <;> simp_all
        have hst8 : Hid (R' ≠ [] → (hdP R').no = (hdP R').no ∧ (T : Int) = (hdP R').total) := hide (fun _ => ⟨rfl, hT.symm⟩)
        have hst08 : Hid (R' = [] → (hdP R').no = 0 ∧ (T : Int) = 0) := hide (fun h => absurd h hRe)
        rw [hT] at hP4
        have HNo := hide (pno_any w4 hP4)
        have HM := hide (fun W (g : Grow w4 W) => pmissing_any (T := T) W (hP4.grow g) (by omega))
        rw [hXf] at HNo HM
        simp only [Bool.false_eq_true, if_false, Bool.not_false] at HNo HM
        have HW := hide (fun W (g : Grow w4 W) => pwhole_any (T := T) W (hP4.grow g) hT255 (by rw [hX4]; exact Lk_len R' hRl4))
        rw [hX4, whole_law R' hG4 hRe T hT] at HW
        rw [hX4, miss_same R' (fun x hx => (hG4.each x hx).1) T] at HM
        obtain ⟨bh, oh, rfl, hcno, _⟩ := hd_cells hRn4.out hRe
        have HWn := hide (refwhole_any (some ⟨bh, oh, none⟩) cn T R' w4 hRe hRn4.out (by omega) (fun x hx => by have := hRl4 x hx; omega) hT hT255)
        have hMl : (missR R' T).length ≤ 1000000 := by have := missR_len R' T; omega
        have hRpos : (0 : Int) < (R'.length : Int) := by have : 0 < R'.length := List.length_pos_iff.2 hRe
                                                         omega
        have hP4 := hide hP4
        have hX4 := hide hX4
        have hG4 := hide hG4
        have hRl4 := hide hRl4
        clear hst4 hst04 hXe hXf hT
        generalize rwB R' T = bb at *
        generalize missR R' T = M at *
        go_wp2_with fail
        refine HNo.out.mono ?_
        rintro r0 w5 ⟨rfl, rfl⟩
        clear HNo
        go_wp2_with fail
        refine HWn.out.mono ?_
        rintro r0 w5 ⟨B1, d1, B2, d2, rfl, hb1, hm2, hg45⟩
        have hb1 := hide hb1
        have hm2 := hide hm2
        clear hcno HWn
        go_wp2_with fail
        refine (HW.out _ hg45).mono ?_
        rintro r0 w6 ⟨⟨B3, d3, rfl, hown3⟩, hg56⟩
        have hg46 := Grow.trans hg45 hg56
        by_cases hM0 : M = []
        · subst hM0
          rw [if_pos rfl] at hown3 ⊢
          have hown3 : Own w6 w5.heap.size B3 d3 bb := hown3
          have hb3 := hide hown3.bytes
          clear hown3 HW
          go_wp2_with fail
          refine (HM.out _ hg46).mono ?_
          rintro r0 w7 ⟨⟨B4, d4, rfl, _⟩, hg67⟩
          have hg47 := Grow.trans hg46 hg67
          have HS := hide (same03_any B4 B2 [] d4 d2 w7 (fun h => absurd rfl h) (fun h => absurd rfl h) (by simp))
          clear HM
          go_wp2_with fail
          refine HS.out.mono ?_
          rintro r0 w8 ⟨rfl, hg78⟩
          have hg48 := Grow.trans hg47 hg78
          have V3 : (convert 22 9 (.slice B3 bb.length d3)).run Try.prog w8 = .ok (.string ⟨bb.toArray⟩) w8 := conv_any d3 (hb3.out.grow (Grow.trans hg67 hg78))
          have V1 : (convert 22 9 (.slice B1 bb.length d1)).run Try.prog w8 = .ok (.string ⟨bb.toArray⟩) w8 := conv_any d1 (hb1.out.grow (Grow.trans hg56 (Grow.trans hg67 hg78)))
          have hR8 := hide (hRn4.out.grow hg48)
          have hP8 := hide (hP4.out.grow hg48)
          have hgr8 := Grow.trans hgr4 hg48
          clear HS hP4 hRn4 hgr4 hg45 hg56 hg46 hg67 hg47 hg78 hg48 hb1 hm2 hb3
          go_wp2
          go_roundw
          case rel => exact ⟨k + 1, R', _, cn, X', (hdP R').no, T, by omega, by omega, by go_num, rfl, hR8, hP8, hX4, hG4, hide (fun h => ⟨rfl, (hst8.out h).2⟩), hst08, hRk4, hRl4, hgr8⟩
          case measure => simp [intOf]; omega
        · rw [if_neg hM0] at hown3 ⊢
          have hMp : (((M.length : Nat) : Int) == 0) = false := by
            have : 0 < M.length := List.length_pos_iff.2 hM0
            simp
            exact hM0
          have hMp2 : ¬ (M = []) := hM0
          clear hown3 HW
          go_wp2_with fail
          refine (HM.out _ hg46).mono ?_
          rintro r0 w7 ⟨⟨B4, d4, rfl, hm4⟩, hg67⟩
          have hg47 := Grow.trans hg46 hg67
          have HS := hide (same03_any B4 B2 M d4 d2 w7 hm4 (hm2.out.grow (Grow.trans hg56 hg67)) hMl)
          clear HM hm4
          go_wp2_with fail
          refine HS.out.mono ?_
          rintro r0 w8 ⟨rfl, hg78⟩
          have hg48 := Grow.trans hg47 hg78
          have hR8 := hide (hRn4.out.grow hg48)
          have hP8 := hide (hP4.out.grow hg48)
          have hgr8 := Grow.trans hgr4 hg48
          clear HS hP4 hRn4 hgr4 hg45 hg56 hg46 hg67 hg47 hg78 hg48 hb1 hm2
          go_wp2
          go_roundw
          case rel => exact ⟨k + 1, R', _, cn, X', (hdP R').no, T, by omega, by omega, by go_num, rfl, hR8, hP8, hX4, hG4, hide (fun h => ⟨rfl, (hst8.out h).2⟩), hst08, hRk4, hRl4, hgr8⟩
          case measure => simp [intOf]; omega
    · have hk2 : ¬ ((k : Int) < (L.length : Int)) ∨ ((k : Int) < (L.length : Int) ∧ ¬ ((k : Int) < 40)) := by omega
      have HRs := hide (preset_any wr hP.out)
      have hPs := hP.out.box.lt
      clear hlt hR hX hG hst hst0 hRl
      rcases hk2 with h | ⟨h, h2⟩
      · go_wp2_with fail
        refine HRs.out.mono ?_
        rintro r0 w2 ⟨rfl, h2p, hk2⟩
        have hg2 : Grow w w2 := hgr.keptS hk2 (by intro a ha; rcases List.mem_cons.1 ha with h | h; omega; rw [List.mem_singleton.1 h]; omega)
        have HNo := hide (pno_any w2 h2p)
        clear HRs hk2 h2p
        go_wp2_with fail
        refine HNo.out.mono ?_
        rintro r0 w3 ⟨rfl, rfl⟩
        clear HNo
        go_wp2_with fail
        refine (works42_any _).mono ?_
        rintro r0 w4 ⟨rfl, hg4⟩
        have hg4 := Grow.trans hg2 hg4
        go_wp2
        go_ret
        exact ⟨rfl, hg4⟩
      · go_wp2_with fail
        refine HRs.out.mono ?_
        rintro r0 w2 ⟨rfl, h2p, hk2⟩
        have hg2 : Grow w w2 := hgr.keptS hk2 (by intro a ha; rcases List.mem_cons.1 ha with h | h; omega; rw [List.mem_singleton.1 h]; omega)
        have HNo := hide (pno_any w2 h2p)
        clear HRs hk2 h2p
        go_wp2_with fail
        refine HNo.out.mono ?_
        rintro r0 w3 ⟨rfl, rfl⟩
        clear HNo
        go_wp2_with fail
        refine (works42_any _).mono ?_
        rintro r0 w4 ⟨rfl, hg4⟩
        have hg4 := Grow.trans hg2 hg4
        go_wp2
        go_ret
        exact ⟨rfl, hg4⟩
theorem open_pkscut {H : Type} {enc : TypeId × Value → H} {W : World} {base : Nat} {spare : Nat → Bool} {held : Bool} {A : Option Addr} {len cap : Nat} {d : DataW H} {p : List MemPlace}
    (h : DataW.Trod enc Try.prog W base spare held 64 (.slice A len cap) d p) : ∃ L : List PB, len = L.length ∧ L.length ≤ cap ∧ cap ≤ 9223372036854775807 ∧ PksCut W A L :=
  open_rows (cellsY := fun x : PB => (pbc x).toList) (okY := fun w (x : PB) => Bytes w x.A x.l ∧ x.l.length ≤ x.c ∧ x.c ≤ 9223372036854775807) Try.underlying64 cellsPacket (by omega) (fun _ => rfl) (fun _ _ _ h => by
    obtain ⟨p, A, l, c, e, _, h1, h2, hb⟩ := trod_packet h
    exact ⟨⟨p, A, l, c⟩, e, hb, h1, h2⟩) h
end Go.Proofs.Ytbccbfmgjeknhaa
