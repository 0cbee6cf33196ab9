/- The document's Whole (chapter 42). -/
import Derived.Test.YtbccbfmgjeknhaaNb
namespace Go.Proofs.Ytbccbfmgjeknhaa
open Go.RowKit
def rwT (L : List PB) (k j : Nat) : List UInt8 := ((L.take j).filter (fun x => x.p.index == (k : Int))).flatMap (·.l)
def rwB (L : List PB) (k : Nat) : List UInt8 := (List.range k).flatMap (fun k => rwT L k L.length)
def missR (L : List PB) (k : Nat) : List Nat := (List.range k).filter (fun j => !(L.any (fun x => x.p.index == (j : Int))))
theorem rwT_succ (L : List PB) (k j : Nat) (h : j < L.length) : rwT L k (j + 1) = rwT L k j ++ (if (L[j].p.index == (k : Int)) = true then L[j].l else []) := by
  unfold rwT
  rw [List.take_succ_eq_append_getElem h, List.filter_append, List.flatMap_append]
  congr 1
  by_cases hb : (L[j].p.index == (k : Int)) = true
  · rw [if_pos hb]; simp [hb]
  · rw [if_neg hb]
    have : (L[j].p.index == (k : Int)) = false := by simpa using hb
    simp [this]
theorem rwB_succ (L : List PB) (k : Nat) : rwB L (k + 1) = rwB L k ++ rwT L k L.length := by
  unfold rwB
  rw [List.range_succ, List.flatMap_append]
  simp
theorem missR_succ (L : List PB) (k : Nat) : missR L (k + 1) = missR L k ++ (if (L.any fun x => x.p.index == (k : Int)) = true then [] else [k]) := by
  unfold missR
  rw [List.range_succ, List.filter_append]
  congr 1
  cases h : L.any fun x => x.p.index == (k : Int) <;> simp [h]
theorem missR_len (L : List PB) (k : Nat) : (missR L k).length ≤ k := by
  have := List.length_filter_le (fun j : Nat => !(L.any (fun x => x.p.index == (j : Int)))) (List.range k)
  rw [List.length_range] at this
  exact this
def RWN (w : World) (r : Ending) (w' : World) : Prop := ∃ A1 c1 A2 c2, r = .returned (.tuple #[.slice A1 0 c1, .slice A2 0 c2]) ∧ Grow w w'
def RWP (w : World) (b : List UInt8) (M : List Nat) (r : Ending) (w' : World) : Prop := ∃ A1 c1 A2 c2, r = .returned (.tuple #[.slice A1 b.length c1, .slice A2 M.length c2]) ∧ Bytes w' A1 b ∧ IntsAt w' A2 M ∧ Grow w w'
theorem refwhole_nil (A : Option Addr) (c : Nat) (w : World) :
    Calls Try.prog 32 #[.slice A 0 c] w fun r w' => RWN w r w' := by
  have hg0 := ((Grow.refl w).alloc (.cells #[] 5)).alloc (.cells #[] 3)
  go_enter Try.func32, Try.ntmps32
  go_wp2
  go_loopw [4, 5, 6] (fun vb vm i wr => ∃ A1 c1 A2 c2, vb = .slice A1 0 c1 ∧ vm = .slice A2 0 c2 ∧ i = .int .i64 0 ∧ Grow w wr) (fun _ _ _ _ => 0)
  case atStart => exact ⟨_, _, _, _, rfl, rfl, rfl, hg0⟩
  case round =>
    obtain ⟨A1, c1, A2, c2, rfl, rfl, rfl, hgr⟩ := hrel
    go_wp2
    refine bodyPost_ret (results_tmp2 rfl _ _ _) rfl ?_
    exact ⟨A1, c1, A2, c2, rfl, hgr⟩
set_option maxRecDepth 100000 in
set_option maxHeartbeats 4000000 in
theorem refwhole_any (A : Option Addr) (c T : Nat) (L : List PB) (w : World) (hne : L ≠ []) (hl0 : Pks w A L) (hlen : L.length ≤ 1000) (hll : ∀ x, x ∈ L → x.l.length ≤ 1000) (hT : (hdP L).total = (T : Int)) (hT255 : T ≤ 255) :
    Calls Try.prog 32 #[.slice A L.length c] w fun r w' => RWP w (rwB L T) (missR L T) r w' := by
  obtain ⟨i0, hi0, hz0, hs0, hb0⟩ := info_parts intInfo
  have HI := hide (And.intro hi0 (And.intro hz0 (And.intro hs0 hb0)))
  clear hi0 hz0 hs0 hb0
  have hlposi : (0 : Int) < (L.length : Int) := by have : 0 < L.length := List.length_pos_iff.2 hne
                                                   omega
  obtain ⟨b, o, rfl, _, htot⟩ := hd_cells hl0 hne
  rw [hT] at htot
  have htot := hide htot
  have hll := hide hll
  have hg0 := ((Grow.refl w).alloc (.cells #[] 5)).alloc (.cells #[] 3)
  have hb0 := hide ((Own.made' w w.heap.size w.heap.size rfl (Nat.le_refl _)).alloc (.cells #[] 3))
  have hm0 := hide (OwnI.made (w.alloc (.cells #[] 5)) w.heap.size (w.heap.size + 1) (by simp) (by omega))
  clear hT
  go_enter Try.func32, Try.ntmps32
  go_wp2
  go_loopw [4, 5, 6] (fun vb vm i wr => ∃ (k : Nat) (Ab : Option Addr) (cb : Nat) (acc : List UInt8) (Am : Option Addr) (cm : Nat) (M : List Nat), k ≤ T ∧ i = .int .i64 k ∧ vb = .slice Ab acc.length cb ∧ vm = .slice Am M.length cm ∧
      Hid (Own wr w.heap.size Ab cb acc) ∧ Hid (OwnI wr w.heap.size (.slice Am M.length cm) M) ∧ Hid (∀ q, blk Ab = some q → blk Am ≠ some q) ∧ Hid (acc = rwB L k) ∧ acc.length ≤ 1000000 * k ∧ Hid (M = missR L k) ∧ M.length ≤ k ∧ Grow w wr) (fun _ _ i _ => T - (intOf i).toNat)
  case atStart => exact ⟨0, _, 0, [], _, 0, [], by omega, rfl, rfl, rfl, hb0, hm0, hide (by simp [blk]), hide rfl, by simp, hide rfl, by simp, hg0⟩
  case round =>
    clear hb0 hm0 hg0
    obtain ⟨k, Ab, cb, acc, Am, cm, M, hk, rfl, rfl, rfl, hB, hM, hap, hacc, hal, hMM, hMl, hgr⟩ := hrel
    have htw := Grow.cell' hgr htot.out
    by_cases hlt : k < T
    · have hlti : (k : Int) < (T : Int) := by omega
      obtain ⟨w5, hw5⟩ : ∃ w5, w5 = wr := ⟨_, rfl⟩
      subst hw5
      go_wp2
      clear htw
      go_loopw [4, 7, 8] (fun vb vi i wx => ∃ (j : Nat) (Ab : Option Addr) (cb : Nat) (ac : List UInt8) (ib : Bool), j ≤ L.length ∧ i = .int .i64 j ∧ vb = .slice Ab ac.length cb ∧ vi = .bool ib ∧
          Hid (Own wx w.heap.size Ab cb ac) ∧ Hid (OwnI wx w.heap.size (.slice Am M.length cm) M) ∧ Hid (∀ q, blk Ab = some q → blk Am ≠ some q) ∧ Hid (ac = acc ++ rwT L k j) ∧ ac.length ≤ 1000000 * k + 1000 * j ∧ Hid (ib = (L.take j).any (fun x => x.p.index == (k : Int))) ∧ Grow w wx) (fun _ _ i _ => L.length - (intOf i).toNat)
      case atStart => exact ⟨0, Ab, cb, acc, false, by omega, rfl, rfl, rfl, hB, hM, hap, hide (by simp [rwT]), by omega, hide (by simp), hgr⟩
      case round =>
        clear hB hM hap hgr
        obtain ⟨j, Ab, cb, ac, ib, hj, rfl, rfl, rfl, hB, hM, hap, hac, hacl, hib, hgr⟩ := hrel
        by_cases hltj : j < L.length
        · have hltji : (j : Int) < (L.length : Int) := by omega
          obtain ⟨b', o', hbo, hc⟩ := (hl0.grow hgr) hne
          injection hbo with hbo
          have e1 : b = b' := congrArg Addr.block hbo
          have e2 : o = o' := congrArg Addr.off hbo
          subst e1 e2
          have hix := (hc j hltj).1 7 (by omega)
          have hbd := (hc j hltj).1 11 (by omega)
          have hby := (hc j hltj).2
          simp at hix hbd
          have hsn := hide (rwT_succ L k j hltj)
          have hat := hide (any_take L j (k : Int) hltj)
          have hln := hll.out _ (List.getElem_mem hltj)
          generalize L[j] = x at *
          clear hc hbo
          obtain ⟨_, _, _, hMb, _⟩ := OwnI.form hM.out
          have hMb : ∀ q, blk Am = some q → w.heap.size ≤ q ∧ q < wr.heap.size := fun q hq => hMb q (by rw [blk_own]; exact hq)
          cases hx : (x.p.index == (k : Int)) with
          | true =>
            have hxh := hide hx
            clear hx
            have hxb : (x.p.index == (k : Int)) = true := hxh.out
            go_wp2_with (at_builtin; refine wpList_append_bytes byteT rfl (.tmp 37) (.tmp 42) rfl hB.out hby rfl rfl (by omega) hgr.size ?_)
            intro A7 c7 l7 w7 hl7 hown7 hgb7 hat7
            have hBb := fun q h => And.intro (hB.out.base (q := q) h) (hB.out.lt (q := q) h)
            have hg7 : Grow w w7 := ngrown hgr hgb7 (fun q h => (hBb q h).1)
            have hM7 : Hid (OwnI w7 w.heap.size (.slice Am M.length cm) M) := hide (by
              have h0 := hM.out
              obtain ⟨g0, g1 | ⟨g, cap, cur, he, hbb, hgg, h1, h2, h3, h4⟩⟩ := h0
              · exact ⟨g0, .inl g1⟩
              · have hAm : Am = some ⟨g, 0, none⟩ := by simp at he; exact he.1
                refine ⟨g0, .inr ⟨g, cap, cur, he, hbb, (hgb7.block g (hMb g (by rw [hAm]; rfl)).2 (fun e => hap.out g e.symm (by rw [hAm]; rfl))).trans hgg, h1, h2, h3, h4⟩⟩)
            have hap7 : Hid (∀ q, blk A7 = some q → blk Am ≠ some q) := hide (fun q hq e => by
              rcases hat7 with h | h
              · rw [h] at hq; exact hap.out q hq e
              · rw [h] at hq; simp at hq; have := hMb q e; omega)
            have hac7 : Hid (l7 = acc ++ rwT L k (j + 1)) := hide (by rw [hl7.out, hac.out, hsn.out, if_pos hxh.out, List.append_assoc])
            have hib7 : Hid (true = (L.take (j + 1)).any (fun x => x.p.index == (k : Int))) := hide (by rw [hat.out, hxh.out, Bool.or_true])
            have hl7n : l7.length = ac.length + x.l.length := by rw [hl7.out, List.length_append]
            have hown7 := hide hown7
            clear hB hM hap hgb7 hat7 hac hl7 hsn hat hib hxb hxh
            go_wp2
            go_roundw
            case rel => exact ⟨j + 1, A7, c7, l7, true, by omega, by go_num, rfl, rfl, hown7, hM7, hap7, hac7, by omega, hib7, hg7⟩
            case measure => simp [intOf]; omega
          | false =>
            have hac7 : Hid (ac = acc ++ rwT L k (j + 1)) := hide (by rw [hsn.out, if_neg (by rw [hx]; simp), List.append_nil]; exact hac.out)
            have hib7 : Hid (ib = (L.take (j + 1)).any (fun x => x.p.index == (k : Int))) := hide (by rw [hat.out, hx, Bool.or_false]; exact hib.out)
            have hxh := hide hx
            clear hx hac hib hsn hat
            have hxb : (x.p.index == (k : Int)) = false := hxh.out
            go_wp2
            go_roundw
            case rel => exact ⟨j + 1, Ab, cb, ac, ib, by omega, by go_num, rfl, rfl, hB, hM, hap, hac7, by omega, hib7, hgr⟩
            case measure => simp [intOf]; omega
        · obtain rfl : j = L.length := by omega
          clear hltj
          have hac2 : Hid (ac = rwB L (k + 1)) := hide (by rw [hac.out, rwB_succ, hacc.out])
          have hib2 : ib = L.any (fun x => x.p.index == (k : Int)) := by have := hib.out; rw [List.take_length] at this; exact this
          have hmsn := hide (missR_succ L k)
          rw [← hib2, ← hMM.out] at hmsn
          obtain ⟨_, _, _, hMb, _⟩ := OwnI.form hM.out
          have hMb : ∀ q, blk Am = some q → w.heap.size ≤ q ∧ q < wr.heap.size := fun q hq => hMb q (by rw [blk_own]; exact hq)
          have hmul : 1000 * L.length ≤ 1000000 := by omega
          clear hib hib2 hac
          cases ib with
          | true =>
            have hM2 : Hid (M = missR L (k + 1)) := hide (by rw [hmsn.out]; simp)
            clear hmsn
            go_wp2
            go_roundw
            case rel => exact ⟨k + 1, Ab, cb, ac, Am, cm, M, by omega, by go_num, rfl, rfl, hB, hM, hap, hac2, by omega, hM2, by omega, hgr⟩
            case measure => simp [intOf]; omega
          | false =>
            have hM2 : Hid (M ++ [k] = missR L (k + 1)) := hide (by rw [hmsn.out]; simp)
            clear hmsn
            go_wp2_with (at_builtin; refine Hid.out (?_ : Hid _))
            refine hide ?_
            refine (wpList_append_own_at _ rfl (.tmp 46) (.tmp 48) _ rfl w.heap.size _ i0 _ 1 8 Try.underlying70 HI.out.1 HI.out.2.1 HI.out.2.2.1 HI.out.2.2.2 rfl (by omega) (.slice Am M.length cm) M.length (M.map nv) rfl (hM.out.grow ((Grow.refl _).alloc _)) ⟨wr.heap.size, 0, none⟩ 1 1 [nv k] rfl rfl (one_news ((Box.new wr #[nv k] 3 rfl).cell 0)) (by simp [Value.oneCell']) (by unfold maxLen; omega) (by omega) (by have := hgr.size; simp; omega) ?_)
            intro v' w7 hown7 hgb7 _ hat7
            rw [blk_own] at hgb7
            have hown7' : OwnI w7 w.heap.size v' (M ++ [k]) := by
              unfold OwnI
              rw [List.length_append, List.map_append]
              exact hown7
            obtain ⟨A7, c7, rfl, _, _⟩ := OwnI.form hown7'
            rw [blk_own, blk_own] at hat7
            have hBb := fun q h => And.intro (hB.out.base (q := q) h) (hB.out.lt (q := q) h)
            have hg7 : Grow w w7 := ngrown (hgr.alloc _) hgb7 (fun q h => (hMb q h).1)
            have hB7 : Hid (Own w7 w.heap.size Ab cb ac) := hide (hB.out.kept (fun q hq => (hgb7.block q (by have := (hBb q hq).2; simp; omega) (fun e => hap.out q hq e.symm)).trans (Below.heap_alloc _ _ _ (hBb q hq).2)))
            have hap7 : Hid (∀ q, blk Ab = some q → blk A7 ≠ some q) := hide (fun q hq e => by
              rcases hat7 with h | h
              · rw [h] at e; exact hap.out q hq e
              · rw [h] at e; simp at e; have := hBb q hq; omega)
            have ho7 := hide hown7'
            have hl7 : (M ++ [k]).length ≤ k + 1 := by simp; omega
            generalize M ++ [k] = M7 at *
            clear hown7 hown7' hgb7 hat7 hM hB hap
            go_wp2
            go_roundw
            case rel => exact ⟨k + 1, Ab, cb, ac, A7, c7, M7, by omega, by go_num, rfl, rfl, hB7, ho7, hap7, hac2, by omega, hM2, hl7, hg7⟩
            case measure => simp [intOf]; omega
    · obtain rfl : k = T := by omega
      clear hlt
      have hA := hacc.out
      have hMq := hMM.out
      subst hA hMq
      go_wp2
      refine bodyPost_ret (results_tmp2 rfl _ _ _) rfl ?_
      obtain ⟨A', c', he, _, hin⟩ := OwnI.form hM.out
      obtain ⟨rfl, _⟩ : Am = A' ∧ cm = c' := by simpa using he
      exact ⟨Ab, cb, Am, cm, rfl, hB.out.bytes, hin, hgr⟩
end Go.Proofs.Ytbccbfmgjeknhaa
