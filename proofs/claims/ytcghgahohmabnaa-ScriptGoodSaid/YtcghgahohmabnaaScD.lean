/- The walk of the document's Decode (acts). -/
import Derived.Test.YtcghgahohmabnaaScC
namespace Go.Proofs.Ytcghgahohmabnaa
open Go.RowKit
/-- an act of which the body is a part of b -/
structure PartOk (B : Option Addr) (b : List UInt8) (x : AB) : Prop where
  n1 : -9223372036854775808 ≤ x.p.n
  n2 : x.p.n < 9223372036854775808
  bytes : ∀ W, Bytes W B b → Bytes W x.A x.l
  len : x.l.length ≤ 1000000
  cap : x.l.length ≤ x.c
theorem PartOk.ok {B : Option Addr} {b : List UInt8} {x : AB} {w : World} (h : PartOk B b x) (hb : Bytes w B b) : x.Ok w := ⟨h.n1, h.n2, h.bytes w hb, h.len, h.cap⟩
theorem OwnL.made (w : World) (base g : Nat) (hg : w.heap.size = g) (hb : base ≤ g) : OwnL (w.alloc (.cells #[] 108)) base (.slice (some ⟨g, 0, none⟩) 0 0) [] := by
  subst hg
  exact ⟨rfl, .inr ⟨_, 0, #[], rfl, hb, heap_alloc_new w _, Nat.le_refl _, by decide, rfl, rfl⟩⟩
set_option maxRecDepth 100000 in
set_option maxHeartbeats 4000000 in
theorem refadec_any (B : Option Addr) (b : List UInt8) (cb : Nat) (w : World) (hb : Bytes w B b) (hc : b.length ≤ cb) (hcm : cb ≤ 9223372036854775807) :
    Calls Try.prog 79 #[.slice B b.length cb] w fun r w' => DecPost w b r w' := by
  obtain ⟨i0, hi0, hz0, hs0, hb0⟩ := info_parts actInfo
  have HI := hide (And.intro hi0 (And.intro hz0 (And.intro hs0 hb0)))
  clear hi0 hz0 hs0 hb0
  have hR := hide (fun W h => refgetnum_any B b cb W h hc hcm)
  have hul := Buf.getNum_lt b
  obtain ⟨⟨nn, r0, e0⟩, hT⟩ : ∃ T, Buf.getNum b = T := ⟨_, rfl⟩
  rw [hT] at hul hR
  have hT := hide hT
  dsimp only at *
  go_enter Try.func79, Try.ntmps79
  go_wp2_with fail
  refine (hR.out _ hb).mono ?_
  rintro r w1 ⟨⟨A5, c5, rfl, hl5, hm5, hp5⟩, hg1⟩
  by_cases he : e0 = 0
  rotate_left
  · have hD := hide (decA_e hT.out he)
    have he' : (e0 != 0) = true := by simpa using he
    have he2 : (e0 == 0) = false := by simpa using he
    clear he
    go_wp2
    go_ret2
    exact decPost_none hD.out hg1
  subst he
  by_cases hbig : 4096 < nn
  · have hD := hide (decA_long hT.out hbig)
    have hbi : (4096 : Int) < (nn : Int) := by omega
    go_wp2
    go_ret2
    exact decPost_none hD.out hg1
  have hbi : ¬ ((4096 : Int) < (nn : Int)) := by omega
  have hgs1 := hg1.size
  have hg2 := hg1.alloc (.cells #[] 108)
  have hown2 := hide (OwnL.made w1 w.heap.size _ rfl hgs1)
  have hp5 := hide hp5
  go_wp2
  go_loopw [5, 7, 8] (fun s5 v i wr => ∃ (k : Nat) (L : List AB) (r : List UInt8) (A5 : Option Addr) (c5 : Nat) (Al : Option Addr) (cl : Nat), k ≤ nn ∧ i = .int .i64 k ∧ s5 = .slice A5 r.length c5 ∧ v = .slice Al L.length cl ∧ r.length ≤ c5 ∧ c5 ≤ 9223372036854775807 ∧ Hid (OwnL wr w.heap.size (.slice Al L.length cl) L) ∧ Hid (∀ W, Bytes W B b → Bytes W A5 r) ∧ Hid (L.length = k) ∧ Hid (decL nn r0 = decG (L.map xa) (decL (nn - k) r)) ∧ Hid (∀ x, x ∈ L → PartOk B b x) ∧ Grow w wr) (fun _ _ i _ => nn - (intOf i).toNat)
  case atStart => exact ⟨0, [], r0, A5, c5, _, 0, by omega, rfl, rfl, rfl, hl5, hm5, hown2, hp5, hide rfl, hide (by rw [List.map_nil, decG_nil]; rfl), hide (by simp), hg2⟩
  case round =>
    clear hl5 hm5 hown2 hp5 hg2 hgs1 hg1
    obtain ⟨k, L, r, A5, c5, Al, cl, hk, rfl, rfl, rfl, hl5, hm5, hown, hp5, hlen, hdec, hbody, hgr⟩ := hrel
    have hgs := hgr.size
    by_cases hlt : k < nn
    · obtain ⟨⟨⟨p, l⟩, rest, e⟩, hag⟩ : ∃ T, ag r = T := ⟨_, rfl⟩
      have HA := hide (refaget_any A5 r c5 wr (hp5.out _ (hb.grow hgr)) hl5 hm5)
      rw [hag] at HA
      have honce := hide (fun h => (ag_once r h).1)
      have hstep := hide (decG_step (L.map xa) (nn - (k + 1)) r)
      have hbad := hide (decG_bad (L.map xa) (nn - (k + 1)) r)
      rw [show nn - (k + 1) + 1 = nn - k by omega] at hstep hbad
      rw [hag] at hstep hbad honce
      have hag := hide hag
      dsimp only at honce hstep hbad
      go_wp2_with fail
      refine HA.out.mono ?_
      rintro rr w3 ⟨⟨q, A, n, c, A6, n6, c6, rfl, hok⟩, hb3⟩
      dsimp only at hok
      have hg3 := Grow.trans hgr hb3
      have hown3 := hide (hown.out.grow hb3)
      clear HA hown
      by_cases he : e = 0
      rotate_left
      · have hD := hide (decA_bad hT.out hbig (hdec.out.trans (hbad.out he)) he)
        have he' : (e != 0) = true := by simpa using he
        clear he hok
        go_wp2
        go_ret2
        exact decPost_none hD.out ((hg3).alloc _)
      subst he
      obtain ⟨rfl, rfl, rfl, hnc, hncm, hl6, hm6, hby, hp6⟩ := hok rfl
      have hdec4 := hide (hdec.out.trans (hstep.out rfl))
      have hgood := honce.out rfl
      obtain ⟨⟨hn1, hn2⟩, hll⟩ := actB_n q l hgood
      have hxok : Hid (PartOk B b ⟨q, A, l, c⟩) := hide ⟨hn1, hn2, fun W hW => hby W (hp5.out W hW), hll, hnc⟩
      have hp6' := hide (fun W hW => hp6 W (hp5.out W hW))
      clear hby hn1 hn2 hll hnc hncm hgood honce hbad hdec hok hp6
      have hq0 := Box.new w3 (abc ⟨q, A, l, c⟩) 108 rfl
      obtain ⟨cq0, fq0, lq0⟩ := hq0.rules
      go_wp2_with (at_builtin; refine Hid.out (?_ : Hid _))
      refine hide ?_
      refine (wpList_append_own_at _ rfl (.tmp 43) (.tmp 45) _ rfl w.heap.size _ i0 _ 9 80 Try.underlying105 HI.out.1 HI.out.2.1 HI.out.2.2.1 HI.out.2.2.2 rfl (by omega) (.slice Al L.length cl) L.length (lcells L) rfl (hown3.out.grow (((Grow.refl w3).alloc _).alloc _)) ⟨w3.heap.size + 1, 0, none⟩ 1 1 (abc ⟨q, A, l, c⟩).toList rfl rfl (box_news (Box.new (w3.alloc (.cells (abc ⟨q, A, l, c⟩) 108)) (abc ⟨q, A, l, c⟩) 108 (by simp))) (abc_one ⟨q, A, l, c⟩) (by have := hlen.out; unfold maxLen; omega) (by have := hlen.out; omega) (by have := hb3.size; simp; omega) ?_)
      intro v' w5 hown5 hgb5 _ hat5
      have hgw : Grow w3 ((w3.alloc (.cells (abc ⟨q, A, l, c⟩) 108)).alloc (.cells (abc ⟨q, A, l, c⟩) 108)) := ((Grow.refl w3).alloc _).alloc _
      obtain ⟨_, _, _, _, _, hob, _⟩ := OwnL.form hown3.out
      have hg5 : Grow w w5 := grown_after (Grow.trans hg3 hgw) hgb5 (fun q' h => (hob q' h).1)
      have hown5' : OwnL w5 w.heap.size v' (L ++ [⟨q, A, l, c⟩]) := by
        unfold OwnL
        rw [lcells_snoc, List.length_append]
        exact hown5
      obtain ⟨A8, c8, rfl, _, _, _, _⟩ := OwnL.form hown5'
      have hown6 := hide hown5'
      have hbody5 : Hid (∀ x, x ∈ L ++ [(⟨q, A, l, c⟩ : AB)] → PartOk B b x) := hide (fun x hx => by
        rcases List.mem_append.1 hx with h | h
        · exact hbody.out x h
        · rw [List.mem_singleton.1 h]; exact hxok.out)
      have hdec5 : Hid (decL nn r0 = decG ((L ++ [(⟨q, A, l, c⟩ : AB)]).map xa) (decL (nn - (k + 1)) rest)) := hide (by rw [List.map_append]; exact hdec4.out)
      have hlen5 : Hid ((L ++ [(⟨q, A, l, c⟩ : AB)]).length = k + 1) := hide (by rw [List.length_append, hlen.out]; rfl)
      generalize L ++ [(⟨q, A, l, c⟩ : AB)] = L5 at *
      clear hown5' hown5 hgb5 hat5 hown3 hstep cq0 fq0 lq0 hq0 hob
      go_wp2
      go_roundw
      case rel => exact ⟨k + 1, L5, rest, A6, c6, A8, c8, by omega, by go_num, rfl, rfl, hl6, hm6, hown6, hp6', hlen5, hdec5, hbody5, hg5⟩
      case measure => simp [intOf]; omega
    · obtain rfl : k = nn := by omega
      have hd : Hid (decL k r0 = (L.map xa, r, 0)) := hide (by rw [hdec.out, Nat.sub_self, decG_end])
      clear hlt hdec
      by_cases hre : r = []
      · subst hre
        have hD := hide (decA_ok hT.out hbig hd.out)
        go_wp2
        go_ret2
        obtain ⟨A', c', he', hlc, hcm', _, _⟩ := OwnL.form hown.out
        obtain ⟨rfl, _, rfl⟩ : Al = A' ∧ L.length = L.length ∧ cl = c' := by simpa using he'
        exact ⟨⟨L, Al, cl, by rw [hD.out]; rfl, hlc, hcm', OwnL.acts hown.out (fun x hx => (hbody.out x hx).ok (hb.grow hgr)), by rw [hD.out], by have := hlen.out; omega⟩, hgr⟩
      · have hD := hide (decA_form hT.out hbig hd.out hre)
        have hrl : (0 : Int) < (r.length : Int) := by
          have := List.length_pos_iff.2 hre
          omega
        clear hre
        go_wp2
        go_ret2
        exact decPost_none hD.out hgr
end Go.Proofs.Ytcghgahohmabnaa
