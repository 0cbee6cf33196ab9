/- The walk of the statement BufReads. -/
import Derived.Test.YtpobjcdcimcdnaaItr
import Derived.Test.YtpobjcdcimcdnaaItw
import Derived.Deep.CutRange
namespace Buf
theorem getBytes_len2 (b : List UInt8) (m : Int) : (getBytes b m).2.1.length ≤ b.length ∧ (getBytes b m).1.length ≤ b.length := by
  have := getNum_len b
  unfold getBytes
  split
  · simp
  · split
    · simp
    · split
      · simp
      · simp; omega
end Buf
namespace Go.Proofs.Ytpobjcdcimcdnaa
open Go.RowKit
set_option maxRecDepth 100000 in
set_option maxHeartbeats 1000000 in
theorem read_fresh (A : Option Addr) (l : List UInt8) (c : Nat) (w : World) (hl : Bytes w A l) (hn : l.length ≤ 1000000000000) :
    Calls Try.prog 27 #[.slice A l.length c] w fun r w' => ∃ N p, r = .returned (.pointer (some ⟨p, 0, none⟩)) ∧ Rd w' N p (l, 0) ∧ w.heap.size ≤ p ∧ Grow w w' ∧ ∀ w'' S, Kept w'.heap.size S w' w'' → (∀ q, q ∈ S → q < w.heap.size) → Rd w'' N p (l, 0) := by
  go_enter Try.func27, Try.ntmps27
  go_wp2_with (at_builtin; refine wpList_append_bytes byteT rfl (.tmp 3) (.tmp 4) rfl (Own.made w (base := w.heap.size) #[] 0 (Nat.le_refl _) (by decide) rfl) (hl.alloc _) rfl rfl ?_ ?_ ?_)
  · simp; omega
  · simp
  intro A' c' b' w2 HL hown hg2 _
  have e : b' = l := HL.out.trans (by simp)
  subst e
  have hgr : Grow w w2 := (((Below.refl _ _).alloc (Nat.le_refl _) _).grown hg2 (by simp) (by simp [blk]))
  have hle := hown.le
  have hob := (hown.alloc (.cells #[.int .i64 0, .slice A' b'.length c'] 104))
  have hlt : ∀ q, blk A' = some q → q < w2.heap.size := fun q hq => hown.lt hq
  have hge : ∀ q, blk A' = some q → w.heap.size ≤ q := fun q hq => hown.base hq
  have hs2 := hgr.size
  have hrow := heap_alloc_new w2 (.cells #[.int .i64 0, .slice A' b'.length c'] 104)
  have hsz : (w2.alloc (.cells #[.int .i64 0, .slice A' b'.length c'] 104)).heap.size = w2.heap.size + 1 := by simp
  go_wp2
  go_ret
  refine ⟨w2.heap.size + 1, w2.heap.size, rfl, ⟨A', c', b', hrow, hle.1, hle.2, hob.bytes, Nat.lt_succ_self _, by simp, fun q hq => ⟨by have := hlt q hq; omega, by have := hlt q hq; omega⟩, fun _ => rfl, fun e => absurd rfl e⟩, hgr.size, hgr.alloc _, fun w'' S hk hS => ?_⟩
  refine ⟨A', c', b', (hk.block w2.heap.size (by omega) (fun hm => by have := hS _ hm; omega)).trans hrow, hle.1, hle.2, hob.bytes.kept hk (fun q hq hm => by have := hS q hm; have := hge q hq; omega), Nat.lt_succ_self _, by have := hk.size; omega, fun q hq => ⟨by have := hlt q hq; omega, by have := hlt q hq; omega⟩, fun _ => rfl, fun e => absurd rfl e⟩
theorem itGet_len (t : Itm) (b : List UInt8) : (itGet t b).2.2.1.length ≤ b.length := by
  unfold itGet
  split
  · exact Buf.getFixed_len b 1
  split
  · exact Buf.getFixed_len b t.n
  split
  · exact Buf.getNum_len b
  · exact (Buf.getBytes_len2 b t.n).1
theorem Kept.freshI {w w1 w2 : World} {A : Option Addr} (hk : Kept w1.heap.size (blk A).toList w1 w2) (hg : Grow w w1) (hA : ∀ q, blk A = some q → w.heap.size ≤ q) : Grow w w2 :=
  Below.trans hg (Kept.to_below (hk.mono hg.size (fun k hk hm => by have := hA k (by simpa using hm); omega)))
theorem u8_u8i (x : Int) : u8 (u8of x) = .int .u8 (IntKind.u8.wrap x) := byte_val _ (u8w_bounds x).1 (u8w_bounds x).2
set_option maxRecDepth 100000 in
set_option maxHeartbeats 8000000 in
theorem bufReads_any (B : Option Addr) (b : List UInt8) (cb : Nat) (A : Option Addr) (L : List Itm) (c : Nat) (w : World) (hbl : b.length ≤ cb) (_hbc : cb ≤ 9223372036854775807) (hb : Bytes w B b) (_hLc : L.length ≤ c) (_hc : c ≤ 9223372036854775807) (hi : Items w A L) :
    Calls Try.prog 5 #[.slice B b.length cb, .slice A L.length c] w fun e w' => e = .returned (.bool true) ∧ Grow w w' := by
  obtain ⟨m, hm⟩ : ∃ m, m = b.take 300 := ⟨_, rfl⟩
  have hmm : m.length = min 300 b.length := by rw [hm, List.length_take]
  have hb := hm ▸ hb.take 300
  have hmin : (if 300 < (b.length : Int) then (300 : Int) else (b.length : Int)) = ((m.length : Nat) : Int) := by split <;> omega
  have hmc : m.length ≤ cb := by omega
  have hmN : m.length ≤ 300 := by omega
  clear hm hmm hbl
  go_enter Try.func5, Try.ntmps5
  go_wp2_with (at_builtin; refine wpList_append_fresh byteT rfl (.tmp 17) (.tmp 22) rfl (Own.made' _ (w.heap.size) (w.heap.size) (by simp) (by omega)) (by simp <;> omega) (hb.alloc _) rfl rfl (by omega) ?_)
  intro A1 c1 w1 hown1 hb1
  have hb1 := Grow.trans ((Grow.refl _).alloc _) hb1
  have hg1 := hb1
  have hb := hb.grow hg1
  have HG1 := hide (show Grow w w1 from hg1)
  have hsz1 : w.heap.size ≤ w1.heap.size := HG1.out.size
  have hq1 : w.heap.size ≤ w1.heap.size := hg1.size
  have HS1 := hide hg1
  clear hb1 hg1
  have h1 := hown1.bytes
  have hc1 := hown1.le
  have hge1 := fun q h => hown1.base (q := q) h
  have hlt1 := fun q h => hown1.lt (q := q) h
  clear hb hown1
  go_wp2_with (at_builtin; refine wpList_append_fresh byteT rfl (.tmp 24) (.tmp 25) rfl (Own.made' _ (w1.heap.size) (w1.heap.size) (by simp) (by omega)) (by simp <;> omega) (h1.alloc _) rfl rfl (by omega) ?_)
  intro A2 c2 w2 hown2 hb2
  have hb2 := Grow.trans ((Grow.refl _).alloc _) hb2
  have hg2 := hb2
  have h1 := h1.grow hg2
  have HG2 := hide (Grow.trans (show Grow w w1 from HG1.out) hg2)
  clear HG1
  have hsz2 : w.heap.size ≤ w2.heap.size := HG2.out.size
  have hq2 : w1.heap.size ≤ w2.heap.size := hg2.size
  have HS2 := hide hg2
  clear hb2 hg2
  have h2 := hown2.bytes
  have hge2 := fun q h => hown2.base (q := q) h
  have hlt2 := fun q h => hown2.lt (q := q) h
  go_wp2_with fail
  refine (read_fresh _ _ _ _ h2 (by omega)).mono ?_
  rintro r w3 ⟨N, p, rfl, hr3, hp3, hb3, hfr3⟩
  have hown2 := hown2.below hb3
  have hg3 := hb3
  have h1 := h1.grow hg3
  have HG3 := hide (Grow.trans (show Grow w w2 from HG2.out) hg3)
  clear HG2
  have hsz3 : w.heap.size ≤ w3.heap.size := HG3.out.size
  have hq3 : w2.heap.size ≤ w3.heap.size := hg3.size
  have HS3 := hide hg3
  clear hb3 hg3
  clear hr3 h2
  have hk0 := Kept.refl w3.heap.size (blk A2).toList w3
  go_wp2
  go_loopw [32] (fun i wr => ∃ (k : Nat) (l' : List UInt8), k ≤ m.length ∧ i = .int .i64 k ∧ l'.length = m.length ∧ Own wr w1.heap.size A2 c2 l' ∧ Kept w3.heap.size (blk A2).toList w3 wr) (fun i _ => m.length - (intOf i).toNat)
  case atStart => exact ⟨0, m, by omega, rfl, rfl, hown2, hk0⟩
  case round =>
    obtain ⟨k, l', hk, rfl, hll, hown, hK⟩ := hrel
    clear hown2 hk0
    by_cases hlt : k < m.length
    · obtain ⟨g, rfl⟩ : ∃ g, A2 = some ⟨g, 0, none⟩ := by
        rcases hown.form with ⟨_, h0, _⟩ | ⟨g, hA, _⟩
        · rw [h0] at hll; simp at hll; omega
        · exact ⟨g, hA⟩
      have hcell := hown.cell k (by omega)
      have hfr := hown.frozen k
      obtain ⟨x, HXX⟩ : ∃ x : UInt8, Hid (x = l'[k]'(by omega)) := ⟨_, hide rfl⟩
      rw [← HXX.out] at hcell
      have hx8 := u8_lt x
      have hset := hown.set k (u8of ((x.toNat : Int) + 1))
      rw [u8_u8i, IntKind.wrap_u8] at hset
      clear HXX hge1 hlt1 hge2 hlt2 hfr3
      go_wp2
      go_roundw
      case rel => exact ⟨k + 1, l'.set k _, by omega, by go_num, by rw [List.length_set]; exact hll, hset, hK.setCell (p := ⟨g, k, none⟩) (.inr (by simp [blk])) _⟩
      case measure => simp [intOf]; omega
    · have hkm : k = m.length := by omega
      subst hkm
      have hgr4 := Kept.freshI hK HG3.out (fun q h => by have := hge2 q h; omega)
      have hrd4 := hfr3 _ _ hK (fun q hq => by have := hlt2 q (by simpa using hq); exact this)
      have h1 := h1.kept hK (fun q h hm => by have := hlt1 q h; have := hge2 q (by simpa using hm); omega)
      have hA1p : ∀ q, blk A1 = some q → q ≠ p := fun q h => by have := hlt1 q h; omega
      have hNp : w.heap.size ≤ p := by omega
      clear hK hown hlt hge1 hlt1 hge2 hlt2 hfr3
      obtain ⟨w4, hw4⟩ : ∃ x, x = wr := ⟨_, rfl⟩
      subst hw4
      have hR0 := hide hrd4
      clear hrd4
      go_wp2
      go_loopw [7, 8, 10] (fun s7 s8 s10 wr => ∃ (k : Nat) (A7 : Option Addr) (c7 : Nat) (rest : List UInt8) (e : Int), k ≤ L.length ∧ k ≤ 30 ∧ s7 = .slice A7 rest.length c7 ∧ s8 = .int .i64 e ∧ s10 = .int .i64 k ∧ rest.length ≤ 300 ∧ rest.length ≤ c7 ∧ c7 ≤ 9223372036854775807 ∧ Hid (∀ W, Bytes W A1 m → Bytes W A7 rest) ∧ Hid (Bytes wr A1 m) ∧ Hid (Rd wr N p (rest, e)) ∧ Grow w wr)
        (fun _ _ s10 _ => 30 - (intOf s10).toNat)
      case atStart => exact ⟨0, A1, c1, m, 0, by omega, by omega, rfl, rfl, rfl, hmN, hc1.1, hc1.2, hide (fun _ h => h), hide h1, hR0, hgr4⟩
      case round =>
        obtain ⟨k, A7, c7, rest, e, hk, hk30, rfl, rfl, rfl, hrl, hrc, hrm, hB, hb1, hR, hgr⟩ := hrel
        clear hR0 hgr4 h1 hc1
        by_cases hlt : k < L.length
        · by_cases h30 : k < 30
          · obtain ⟨t, ht⟩ : ∃ t, Hid (t = L[k]) := ⟨_, hide rfl⟩
            obtain ⟨b3, o, rfl, hcs, hok⟩ := (hi.grow hgr).at_ k hlt
            rw [← ht.out] at hcs hok
            have d0 := hcs 0 (by omega)
            have d1 := hcs 1 (by omega)
            have d2 := hcs 2 (by omega)
            have d3 := hcs 3 (by omega)
            simp at d0 d1 d2 d3
            clear hcs
            go_wp2_with fail
            refine (itread_any N p (rest, e) t _ hR.out hok (by dsimp only; omega)).mono ?_
            rintro r w5 ⟨A8, c8, rfl, hown8, hr5, hk5⟩
            have hgr5 := Kept.fresh1 hk5 hgr hNp
            have hb5 := hb1.out.kept hk5 (fun q hq hm => hA1p q hq (by simpa using hm))
            have h8 := hide hown8.bytes
            clear hown8 d0 d1 d2 d3 hok hR hb1 hk5
            by_cases he : e = 0
            · subst he
              obtain ⟨b2, o2, hA2, hcs, hok3⟩ := (hi.grow hgr5).at_ k hlt
              rw [← ht.out] at hcs hok3
              have e1 : b3 = b2 ∧ o = o2 := by simpa using hA2
              obtain ⟨rfl, rfl⟩ := e1
              have d0 := hcs 0 (by omega)
              have d1 := hcs 1 (by omega)
              have d2 := hcs 2 (by omega)
              have d3 := hcs 3 (by omega)
              simp at d0 d1 d2 d3
              clear hcs hA2
              have hQ : itRd t (rest, 0) = ((itGet t rest).1, (itGet t rest).2.1, (itGet t rest).2.2) := if_pos rfl
              rw [hQ] at hr5 h8
              rw [hQ]
              have hln := itGet_len t rest
              have HC := hide (itget_any A7 rest c7 t _ (hB.out _ hb5) hrc hrm hok3)
              generalize itGet t rest = T at *
              obtain ⟨x, u, left, e'⟩ := T
              dsimp only at *
              clear hQ hok3
              go_wp2_with fail
              refine HC.out.mono ?_
              rintro r w6 ⟨⟨A9, c9, A10, c10, rfl, q1, q2, q3, q4⟩, hg6⟩
              dsimp only at *
              have hb6 := hb5.grow hg6
              have V8 := conv_any c8 (h8.out.grow hg6)
              have V9 := conv_any c9 (q3 _ (hB.out _ hb6))
              have hr6 := hr5.grow hg6
              have HER := hide (err_any N p (left, e') w6 hr6)
              have HLE := hide (left_any N p (left, e') w6 hr6)
              have hB' := hide (fun W h => q4 W (hB.out W h))
              have hr6' := hide hr6
              have hb6' := hide hb6
              clear d0 d1 d2 d3 HC hr5 hb5 hr6 hb6 q3 q4 h8 hB ht hi
              go_wp2_with fail
              refine HER.out.mono ?_
              rintro r w' ⟨rfl, rfl⟩
              go_wp2_with fail
              refine HLE.out.mono ?_
              rintro r w' ⟨rfl, rfl⟩
              clear V8 V9
              go_wp2
              go_roundw
              case rel => exact ⟨k + 1, A10, c10, left, e', by omega, by omega, rfl, rfl, by go_num, by omega, q1, q2, hB', hb6', hr6', Grow.trans hgr5 hg6⟩
              case measure => simp [intOf]; omega
            · have he' : (e == 0) = false := by simpa using he
              have hQ : itRd t (rest, e) = (0, [], (rest, e)) := if_neg he
              rw [hQ] at hr5 h8
              rw [hQ]
              dsimp only at *
              have HER := hide (err_any N p (rest, e) w5 hr5)
              have HLE := hide (left_any N p (rest, e) w5 hr5)
              have hr5' := hide hr5
              have hb5' := hide hb5
              clear hr5 hb5 hQ ht hi he
              simp only [List.length_nil]
              go_wp2_with fail
              refine HER.out.mono ?_
              rintro r w' ⟨rfl, rfl⟩
              go_wp2_with fail
              refine HLE.out.mono ?_
              rintro r w' ⟨rfl, rfl⟩
              go_wp2
              go_roundw
              case rel => exact ⟨k + 1, A7, c7, rest, e, by omega, by omega, rfl, rfl, by go_num, hrl, hrc, hrm, hB, hb5', hr5', hgr5⟩
              case measure => simp [intOf]; omega
          · obtain rfl : k = 30 := by omega
            clear h30 hk30
            have hend := end_any N p (rest, e) wr hR.out
            by_cases he : e = 0
            · subst he
              by_cases hr : rest = []
              · subst hr
                have HE := hide (show rend (([] : List UInt8), (0 : Int)) = 0 from rfl)
                rw [HE.out] at hend
                simp only [List.length_nil]
                go_wp2_with fail
                refine hend.mono ?_
                rintro r w' ⟨rfl, rfl⟩
                go_wp2_with fail
                refine (works05_any _).mono ?_
                rintro r w9 ⟨rfl, hb9⟩
                go_wp2
                go_ret
                exact ⟨rfl, Grow.trans hgr hb9⟩
              · have hrl : 0 < rest.length := List.length_pos_iff.2 hr
                have HE := hide (show rend (rest, (0 : Int)) = 5 from if_pos ⟨rfl, hr⟩)
                rw [HE.out] at hend
                go_wp2_with fail
                refine hend.mono ?_
                rintro r w' ⟨rfl, rfl⟩
                go_wp2_with fail
                refine (works05_any _).mono ?_
                rintro r w9 ⟨rfl, hb9⟩
                go_wp2
                go_ret
                exact ⟨rfl, Grow.trans hgr hb9⟩
            · have HE := hide (show rend (rest, e) = e from if_neg (fun h => he h.1))
              have he' : (e == 0) = false := by simpa using he
              rw [HE.out] at hend
              clear he
              go_wp2_with fail
              refine hend.mono ?_
              rintro r w' ⟨rfl, rfl⟩
              go_wp2_with fail
              refine (works05_any _).mono ?_
              rintro r w9 ⟨rfl, hb9⟩
              go_wp2
              go_ret
              exact ⟨rfl, Grow.trans hgr hb9⟩
        · obtain rfl : k = L.length := by omega
          clear hlt
          have hend := end_any N p (rest, e) wr hR.out
          by_cases he : e = 0
          · subst he
            by_cases hr : rest = []
            · subst hr
              have HE := hide (show rend (([] : List UInt8), (0 : Int)) = 0 from rfl)
              rw [HE.out] at hend
              simp only [List.length_nil]
              go_wp2_with fail
              refine hend.mono ?_
              rintro r w' ⟨rfl, rfl⟩
              go_wp2_with fail
              refine (works05_any _).mono ?_
              rintro r w9 ⟨rfl, hb9⟩
              go_wp2
              go_ret
              exact ⟨rfl, Grow.trans hgr hb9⟩
            · have hrl : 0 < rest.length := List.length_pos_iff.2 hr
              have HE := hide (show rend (rest, (0 : Int)) = 5 from if_pos ⟨rfl, hr⟩)
              rw [HE.out] at hend
              go_wp2_with fail
              refine hend.mono ?_
              rintro r w' ⟨rfl, rfl⟩
              go_wp2_with fail
              refine (works05_any _).mono ?_
              rintro r w9 ⟨rfl, hb9⟩
              go_wp2
              go_ret
              exact ⟨rfl, Grow.trans hgr hb9⟩
          · have HE := hide (show rend (rest, e) = e from if_neg (fun h => he h.1))
            have he' : (e == 0) = false := by simpa using he
            rw [HE.out] at hend
            clear he
            go_wp2_with fail
            refine hend.mono ?_
            rintro r w' ⟨rfl, rfl⟩
            go_wp2_with fail
            refine (works05_any _).mono ?_
            rintro r w9 ⟨rfl, hb9⟩
            go_wp2
            go_ret
            exact ⟨rfl, Grow.trans hgr hb9⟩
end Go.Proofs.Ytpobjcdcimcdnaa
