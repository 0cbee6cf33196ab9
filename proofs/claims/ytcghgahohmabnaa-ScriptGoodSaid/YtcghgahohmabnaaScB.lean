/- The walk of script.Decode. -/
import Derived.Test.YtcghgahohmabnaaScP
import Derived.Test.YtcghgahohmabnaaScA
import Derived.Maps.AppendAt
import Derived.OwnWalk
namespace Go.Proofs.Ytcghgahohmabnaa
open Go.RowKit
section
variable {b r0 r : List UInt8} {nn : Nat} {e0 : Int} {D : List XA}
theorem decA_e (h : Buf.getNum b = (nn, r0, e0)) (he : e0 ≠ 0) : decA b = ([], e0) := by
  unfold decA
  rw [h, if_pos he]
theorem decA_long (h : Buf.getNum b = (nn, r0, 0)) (hn : 4096 < nn) : decA b = ([], 4) := by
  unfold decA
  rw [h, if_neg (by simp), if_pos hn]
theorem decA_bad (h : Buf.getNum b = (nn, r0, 0)) (hn : ¬ 4096 < nn) {e : Int} (hd : decL nn r0 = ([], [], e)) (he : e ≠ 0) : decA b = ([], e) := by
  unfold decA
  rw [h, if_neg (by simp), if_neg hn]
  dsimp only
  rw [hd, if_pos he]
theorem decA_form (h : Buf.getNum b = (nn, r0, 0)) (hn : ¬ 4096 < nn) (hd : decL nn r0 = (D, r, 0)) (hr : r ≠ []) : decA b = ([], 5) := by
  unfold decA
  rw [h, if_neg (by simp), if_neg hn]
  dsimp only
  rw [hd, if_neg (by simp), if_pos hr]
theorem decA_ok (h : Buf.getNum b = (nn, r0, 0)) (hn : ¬ 4096 < nn) (hd : decL nn r0 = (D, [], 0)) : decA b = (D, 0) := by
  unfold decA
  rw [h, if_neg (by simp), if_neg hn]
  dsimp only
  rw [hd, if_neg (by simp), if_neg (by simp)]
end
theorem actB_n (p : ActP) (l : List UInt8) (h : actB p l = true) : (-9223372036854775808 ≤ p.n ∧ p.n < 9223372036854775808) ∧ l.length ≤ 1000000 := by
  unfold actB at h
  split at h
  · simp only [Bool.and_eq_true, decide_eq_true_eq, beq_iff_eq] at h
    obtain ⟨⟨_, _⟩, ⟨_, _⟩, rfl⟩ := h
    exact ⟨by omega, by simp⟩
  split at h
  · simp only [Bool.and_eq_true, beq_iff_eq] at h
    obtain ⟨_, ⟨_, _⟩, rfl⟩ := h
    exact ⟨by omega, by simp⟩
  split at h
  · simp only [Bool.and_eq_true, decide_eq_true_eq, beq_iff_eq] at h
    obtain ⟨⟨_, _, _⟩, _, rfl⟩ := h
    exact ⟨by omega, by simp⟩
  split at h
  · simp only [Bool.and_eq_true, decide_eq_true_eq, beq_iff_eq] at h
    obtain ⟨⟨_, _⟩, _, _⟩ := h
    exact ⟨by omega, by omega⟩
  split at h
  · simp only [Bool.and_eq_true, beq_iff_eq] at h
    obtain ⟨_, ⟨_, _⟩, rfl⟩ := h
    exact ⟨by omega, by simp⟩
  · cases h
theorem box_news {w : World} {g : Nat} {cs : Array Value} (h : Box w g cs) : ∀ j u, cs.toList[j]? = some u → w.cell? ((⟨g, 0, none⟩ : Addr).add j) = some u := by
  intro j u hj
  have e : (⟨g, 0, none⟩ : Addr).add j = ⟨g, j, none⟩ := by unfold Addr.add; split <;> simp_all
  rw [e, h.cell j, ← hj]
  simp
theorem abc_one (x : AB) : ∀ u ∈ (abc x).toList, u.oneCell' = true := by
  intro u hu
  simp only [List.mem_cons, List.not_mem_nil, or_false] at hu
  rcases hu with rfl | rfl | rfl | rfl | rfl | rfl | rfl | rfl | rfl <;> rfl
theorem OwnL.grow {w w' : World} {base : Nat} {v : Value} {L : List AB} (h : OwnL w base v L) (hg : Grow w w') : OwnL w' base v L := by
  obtain ⟨_, _, _, _, _, h2, _⟩ := OwnL.form h
  exact OwnL.keep h (fun q hq => hg.block q (h2 q hq).2)
theorem OwnL.kept {w w' : World} {base pr : Nat} {v : Value} {L : List AB} (h : OwnL w base v L) (hk : Kept w.heap.size [pr] w w') (hb : pr < base) : OwnL w' base v L := by
  obtain ⟨_, _, _, _, _, h2, _⟩ := OwnL.form h
  exact OwnL.keep h (fun q hq => hk.block q (h2 q hq).2 (by have := (h2 q hq).1; simp; omega))
theorem grown_below {w w' : World} {row : Option Nat} {N : Nat} (h : w.grownBy w' row) (hN : N ≤ w.heap.size) (hr : ∀ q, row = some q → N ≤ q) : Below N w w' :=
  ⟨h.os, h.tape, h.output, h.size, fun k hk => h.block k (by omega) (fun e => by have := hr k e.symm; omega)⟩
theorem grown_after {w0 w w' : World} {row : Option Nat} (hg : Grow w0 w) (h : w.grownBy w' row) (hr : ∀ q, row = some q → w0.heap.size ≤ q) : Grow w0 w' :=
  Below.trans hg (grown_below h hg.size hr)
/-- a body that lies apart from a list of the call's own -/
structure BodyOk (w : World) (N : Nat) (v : Value) (x : AB) : Prop where
  ok : x.Ok w
  at_ : x.l ≠ [] → ∀ g, blk x.A = some g → N ≤ g ∧ v.ownBlock ≠ some g
theorem BodyOk.grow {w w' : World} {N : Nat} {v : Value} {x : AB} (h : BodyOk w N v x) (hg : Grow w w') : BodyOk w' N v x :=
  ⟨⟨h.ok.n1, h.ok.n2, h.ok.bytes.grow hg, h.ok.len, h.ok.cap⟩, h.at_⟩
theorem Bytes.keptN {w w' : World} {A : Option Addr} {l : List UInt8} {S : List Nat} (h : Bytes w A l) (hk : Kept w.heap.size S w w') (hA : l ≠ [] → ∀ q, blk A = some q → q ∉ S) : Bytes w' A l := by
  by_cases hl : l = []
  · subst hl; exact Bytes.nil _ _
  · exact Bytes.kept h hk (hA hl)
theorem BodyOk.kept {w w' : World} {N pr : Nat} {v : Value} {x : AB} (h : BodyOk w N v x) (hk : Kept w.heap.size [pr] w w') (hp : pr < N) : BodyOk w' N v x :=
  ⟨⟨h.ok.n1, h.ok.n2, h.ok.bytes.keptN hk (fun hne q hq => by have := (h.at_ hne q hq).1; simp; omega), h.ok.len, h.ok.cap⟩, h.at_⟩
theorem BodyOk.grown {w w' : World} {N : Nat} {v v' : Value} {x : AB} (h : BodyOk w N v x) (hg : w.grownBy w' v.ownBlock) (hat : v'.ownBlock = v.ownBlock ∨ v'.ownBlock = some w.heap.size) : BodyOk w' N v' x :=
  ⟨⟨h.ok.n1, h.ok.n2, h.ok.bytes.keptN (Kept.of_grown hg) (fun hne q hq hm => by
      have := (h.at_ hne q hq).2
      exact this (Option.mem_toList.1 hm)), h.ok.len, h.ok.cap⟩, fun hne q hq => by
    obtain ⟨h1, h2⟩ := h.at_ hne q hq
    refine ⟨h1, ?_⟩
    rcases hat with h3 | h3
    · rw [h3]; exact h2
    · rw [h3]
      intro he
      have := h.ok.bytes.inn hne q hq
      have : w.heap.size = q := by simpa using he
      omega⟩
def DecPost (w : World) (b : List UInt8) (r : Ending) (w' : World) : Prop :=
  (∃ (L : List AB) (A : Option Addr) (c : Nat), r = .returned (.tuple #[.slice A L.length c, .int .i64 (decA b).2]) ∧ L.length ≤ c ∧ c ≤ 9223372036854775807 ∧ Acts w' A L ∧ L.map xa = (decA b).1 ∧ L.length ≤ 4096) ∧ Grow w w'
theorem decPost_none {w w' : World} {b : List UInt8} {e : Int} (h : decA b = ([], e)) (hg : Grow w w') : DecPost w b (.returned (.tuple #[.slice none 0 0, .int .i64 e])) w' :=
  ⟨⟨[], none, 0, by rw [h]; rfl, Nat.le_refl _, by omega, fun h => absurd rfl h, by rw [h]; rfl, by simp⟩, hg⟩
set_option maxRecDepth 100000 in
set_option maxHeartbeats 4000000 in
theorem adec_any (B : Option Addr) (b : List UInt8) (cb : Nat) (w : World) (hb : Bytes w B b) (hn : b.length ≤ 1000000000000) :
    Calls Try.prog 77 #[.slice B b.length cb] w fun r w' => DecPost w b r w' := by
  obtain ⟨i0, hi0, hz0, hs0, hb0⟩ := info_parts actInfo
  have HI := hide (And.intro hi0 (And.intro hz0 (And.intro hs0 hb0)))
  clear hi0 hz0 hs0 hb0
  have hr0l := Buf.getNum_len b
  have hR := hide (fun N pr W h => rnum_any N pr (b, 0) W h)
  obtain ⟨⟨nn, r0, e0⟩, hT⟩ : ∃ T, Buf.getNum b = T := ⟨_, rfl⟩
  have hT' : rnum (b, 0) = (nn, r0, e0) := hT
  rw [hT] at hr0l
  rw [hT'] at hR
  have hE := hide (fun N pr W h => err_any N pr (r0, e0) W h)
  have hT := hide hT
  clear hT'
  dsimp only at *
  go_enter Try.func77, Try.ntmps77
  go_wp2_with fail
  refine (read_any B b cb _ hb hn).mono ?_
  rintro r w1 ⟨N, pr, rfl, hr1, hpr, hg1⟩
  have hpN := hr1.lt
  go_wp2_with fail
  refine (hR.out N pr _ hr1).mono ?_
  rintro r w2 ⟨rfl, hr2, hk2⟩
  have hg2 := Kept.fresh1 hk2 hg1 hpr
  clear hk2 hr1 hR
  go_wp2_with fail
  refine (hE.out N pr _ hr2).mono ?_
  rintro r w' ⟨rfl, rfl⟩
  by_cases he : e0 = 0
  rotate_left
  · have hD := hide (decA_e hT.out he)
    have he' : (e0 != 0) = true := by simpa using he
    clear he
    go_wp2
    go_ret2
    exact decPost_none hD.out hg2
  subst he
  by_cases hbig : 4096 < nn
  · have hD := hide (decA_long hT.out hbig)
    have hbi : (4096 : Int) < (nn : Int) := by omega
    go_wp2
    go_ret2
    exact decPost_none hD.out hg2
  have hbi : ¬ ((4096 : Int) < (nn : Int)) := by omega
  have hN2 := hr2.size
  have hgN : w.heap.size ≤ N := by omega
  go_wp2
  go_loopw [7, 23] (fun v i wr => ∃ (k : Nat) (L : List AB) (r : List UInt8) (Al : Option Addr) (cl : Nat), k ≤ nn ∧ i = .int .u64 k ∧ v = .slice Al L.length cl ∧ Hid (OwnL wr N (.slice Al L.length cl) L) ∧ Rd wr N pr (r, 0) ∧ r.length ≤ 1000000000000 ∧ Hid (L.length = k) ∧ Hid (decL nn r0 = decG (L.map xa) (decL (nn - k) r)) ∧ Hid (∀ x, x ∈ L → BodyOk wr N (.slice Al L.length cl) x) ∧ Grow w wr) (fun _ i _ => nn - (intOf i).toNat)
  case atStart => exact ⟨0, [], r0, none, 0, by omega, rfl, rfl, hide (OwnL.nil _ _), hr2, by omega, hide rfl, hide (by rw [List.map_nil, decG_nil]; rfl), hide (by simp), hg2⟩
  case round =>
    obtain ⟨k, L, r, Al, cl, hk, rfl, rfl, hown, hr, hrl, hlen, hdec, hbody, hgr⟩ := hrel
    clear hr2 hg2 hg1 hN2
    have hNr := hr.size
    by_cases hlt : k < nn
    · obtain ⟨⟨⟨p, l⟩, rest, e⟩, hag⟩ : ∃ T, ag r = T := ⟨_, rfl⟩
      have HA := hide (aget_any N pr r wr hr hrl)
      rw [hag] at HA
      have honce := hide (fun h => (ag_once r h).1)
      have hrest : rest.length ≤ 1000000000000 ∨ e ≠ 0 := by
        by_cases he : e = 0
        · refine .inl ?_
          have h1 := (ag_once r (by rw [hag]; exact he)).2
          have h2 := congrArg List.length h1
          rw [List.length_append, hag] at h2
          dsimp only at h2
          omega
        · exact .inr he
      have hstep := hide (decG_step (L.map xa) (nn - (k + 1)) r)
      have hbad := hide (decG_bad (L.map xa) (nn - (k + 1)) r)
      rw [show nn - (k + 1) + 1 = nn - k by omega] at hstep hbad
      rw [hag] at hstep hbad honce
      have hag := hide hag
      dsimp only at honce hstep hbad
      go_wp2_with fail
      refine HA.out.mono ?_
      rintro rr w3 ⟨⟨q, A, n, c, rfl, hok⟩, hk3⟩
      dsimp only at hok
      have hg3 := Kept.fresh1 hk3 hgr hpr
      have hown3 := hide (hown.out.kept hk3 hpN)
      have hbody3 := hide (fun x hx => (hbody.out x hx).kept hk3 hpN)
      have hN3 : N ≤ w3.heap.size := by have := hk3.size; omega
      obtain ⟨_, _, _, _, _, hobr, _⟩ := OwnL.form hown.out
      clear hr HA hown hbody
      by_cases he : e = 0
      rotate_left
      · have hD := hide (decA_bad hT.out hbig (hdec.out.trans (hbad.out he)) he)
        have he' : (e != 0) = true := by simpa using he
        clear he hok
        go_wp2
        go_ret2
        exact decPost_none hD.out ((hg3).alloc _)
      subst he
      obtain ⟨rfl, rfl, hnc, hby, hat, hr3⟩ := hok rfl
      have hdec4 := hide (hdec.out.trans (hstep.out rfl))
      have hgood := honce.out rfl
      have hrl3 : rest.length ≤ 1000000000000 := by
        rcases hrest with h | h
        · exact h
        · exact absurd rfl h
      obtain ⟨⟨hn1, hn2⟩, hll⟩ := actB_n q l hgood
      have hxok : Hid (AB.Ok w3 ⟨q, A, l, c⟩) := hide ⟨hn1, hn2, hby, hll, hnc⟩
      have hxb : Hid (l ≠ [] → ∃ g, A = some ⟨g, 0, none⟩ ∧ wr.heap.size ≤ g) := hide hat
      clear hby hat hn1 hn2 hll hnc hgood honce hbad hdec hrest hok
      have hq0 := Box.new w3 (abc ⟨q, A, l, c⟩) 108 rfl
      obtain ⟨cq0, fq0, lq0⟩ := hq0.rules
      go_wp2_with (at_builtin; refine Hid.out (?_ : Hid _))
      refine hide ?_
      refine (wpList_append_own_at _ rfl (.tmp 33) (.tmp 35) _ rfl N _ i0 _ 9 80 Try.underlying105 HI.out.1 HI.out.2.1 HI.out.2.2.1 HI.out.2.2.2 rfl (by omega) (.slice Al L.length cl) L.length (lcells L) rfl (hown3.out.grow (((Grow.refl w3).alloc _).alloc _)) ⟨w3.heap.size + 1, 0, none⟩ 1 1 (abc ⟨q, A, l, c⟩).toList rfl rfl (box_news (Box.new (w3.alloc (.cells (abc ⟨q, A, l, c⟩) 108)) (abc ⟨q, A, l, c⟩) 108 (by simp))) (abc_one ⟨q, A, l, c⟩) (by have := hlen.out; unfold maxLen; omega) (by have := hlen.out; omega) (by simp; omega) ?_)
      intro v' w5 hown5 hgb5 _ hat5
      have hgw : Grow w3 ((w3.alloc (.cells (abc ⟨q, A, l, c⟩) 108)).alloc (.cells (abc ⟨q, A, l, c⟩) 108)) := ((Grow.refl w3).alloc _).alloc _
      have hownq := (OwnL.form hown3.out)
      obtain ⟨_, _, _, _, _, hob, _⟩ := hownq
      have hrow : ∀ q', (Value.slice Al L.length cl).ownBlock = some q' → N ≤ q' := fun q' h => (hob q' h).1
      have hr5 : Rd w5 N pr (rest, 0) := (hr3.grow hgw).below (grown_below hgb5 (by simp; omega) hrow)
      have hg5 : Grow w w5 := grown_after (Grow.trans hg3 hgw) hgb5 (fun q' h => by have := hrow q' h; omega)
      have hown5' : OwnL w5 N v' (L ++ [⟨q, A, l, c⟩]) := by
        unfold OwnL
        rw [lcells_snoc, List.length_append]
        exact hown5
      obtain ⟨A5, c5, rfl, _, _, _, _⟩ := OwnL.form hown5'
      have hown6 := hide hown5'
      have hx3 : BodyOk w3 N (.slice Al L.length cl) ⟨q, A, l, c⟩ := ⟨hxok.out, fun hne g hg => by
        obtain ⟨g', rfl, h2⟩ := hxb.out hne
        have e : g' = g := by simpa [blk] using hg
        subst e
        refine ⟨by omega, fun h => ?_⟩
        have := (hobr _ h).2
        omega⟩
      have hbody5 : Hid (∀ x, x ∈ L ++ [(⟨q, A, l, c⟩ : AB)] → BodyOk w5 N (.slice A5 (L ++ [(⟨q, A, l, c⟩ : AB)]).length c5) x) := hide (fun x hx => by
        rcases List.mem_append.1 hx with h | h
        · exact ((hbody3.out x h).grow hgw).grown hgb5 hat5
        · rw [List.mem_singleton.1 h]; exact (hx3.grow hgw).grown hgb5 hat5)
      have hdec5 : Hid (decL nn r0 = decG ((L ++ [(⟨q, A, l, c⟩ : AB)]).map xa) (decL (nn - (k + 1)) rest)) := hide (by rw [List.map_append]; exact hdec4.out)
      have hlen5 : Hid ((L ++ [(⟨q, A, l, c⟩ : AB)]).length = k + 1) := hide (by rw [List.length_append, hlen.out]; rfl)
      generalize L ++ [(⟨q, A, l, c⟩ : AB)] = L5 at *
      clear hx3 hown5' hown5 hgb5 hat5 hown3 hbody3 hstep cq0 fq0 lq0 hq0 hob hrow
      go_wp2
      go_roundw
      case rel => exact ⟨k + 1, L5, rest, A5, c5, by omega, by go_num, rfl, hown6, hr5, hrl3, hlen5, hdec5, hbody5, hg5⟩
      case measure => simp [intOf]; omega
    · obtain rfl : k = nn := by omega
      have hend := hide (fun W h => end_any N pr (r, 0) W h)
      have hd : Hid (decL k r0 = (L.map xa, r, 0)) := hide (by rw [hdec.out, Nat.sub_self, decG_end])
      clear hlt hdec
      go_wp2_with fail
      refine (hend.out _ hr).mono ?_
      rintro rr w' ⟨rfl, rfl⟩
      by_cases hre : r = []
      · subst hre
        have hD := hide (decA_ok hT.out hbig hd.out)
        have hz : rend (([] : List UInt8), 0) = 0 := by decide
        rw [hz]
        go_wp2
        go_ret2
        obtain ⟨A', c', he', hlc, hcm, _, _⟩ := OwnL.form hown.out
        obtain ⟨rfl, _, rfl⟩ : Al = A' ∧ L.length = L.length ∧ cl = c' := by simpa using he'
        exact ⟨⟨L, Al, cl, by rw [hD.out]; rfl, hlc, hcm, OwnL.acts hown.out (fun x hx => (hbody.out x hx).ok), by rw [hD.out], by have := hlen.out; omega⟩, hgr⟩
      · have hD := hide (decA_form hT.out hbig hd.out hre)
        have hz : rend (r, 0) = 5 := by unfold rend; rw [if_pos ⟨rfl, hre⟩]
        rw [hz]
        clear hre
        go_wp2
        go_ret2
        exact decPost_none hD.out hgr
end Go.Proofs.Ytcghgahohmabnaa
