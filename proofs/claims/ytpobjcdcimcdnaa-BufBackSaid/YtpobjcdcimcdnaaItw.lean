/- The walk of the statement BufWrites. -/
import Derived.Test.YtpobjcdcimcdnaaItm
import Derived.Test.YtpobjcdcimcdnaaBufNil
import Derived.Deep.CutRange
namespace Go.Proofs.Ytpobjcdcimcdnaa
open Go.RowKit
/-- what the law keeps and what the program keeps -/
def WInv (most e : Int) (want : List UInt8) (S : Int × List UInt8) : Prop := (most ≤ 4000 ∨ e ≠ 4) → S.1 = e ∧ (e = 0 → S.2 = want)
theorem itm_len (t : Itm) : (itmBytes t).length ≤ 210 := by
  unfold itmBytes
  split
  · simp
  split
  · split
    · simp
    · rename_i h; rw [Buf.fixed_length]; omega
  split
  · have := Buf.sevens_len t.x; omega
  split
  · have := Buf.sevens_len (Buf.zig (wrap64 (t.x : Int))); omega
  · have := Buf.sevens_len (t.l.take 200).length
    rw [List.length_take] at this; rw [List.length_append, List.length_take]; omega
theorem wfail_len (s : Int × List UInt8) (e : Int) : (Buf.wfail s e).2.length ≤ s.2.length := by unfold Buf.wfail; split <;> simp
theorem wstep_len (most : Int) (s : Int × List UInt8) (t : Itm) : (wstep most s t).2.length ≤ s.2.length + 210 := by
  unfold wstep
  split
  · have := wfail_len s 1; omega
  · have := wput_len most s (itmBytes t); have := itm_len t; omega
theorem itmErr_01 (t : Itm) : itmErr t = 0 ∨ itmErr t = 1 := by
  unfold itmErr
  split
  · split
    · right; rfl
    · left; rfl
  · left; rfl
theorem wput_bad (M : Int) (S : Int × List UInt8) (l : List UInt8) (h : S.1 ≠ 0) : Buf.wput M S l = S := by unfold Buf.wput; rw [if_pos h]
theorem wfail_bad (S : Int × List UInt8) (x : Int) (h : S.1 ≠ 0) : Buf.wfail S x = S := by unfold Buf.wfail; rw [if_pos h]
theorem wstep_bad (M : Int) (S : Int × List UInt8) (t : Itm) (h : S.1 ≠ 0) : wstep M S t = S := by
  unfold wstep
  split
  · exact wfail_bad S 1 h
  · exact wput_bad M S _ h
theorem winv_bad {most e M : Int} {want : List UInt8} {S : Int × List UInt8} {t : Itm} (h : WInv most e want S) (he : e ≠ 0) : WInv most e want (wstep M S t) := by
  intro hc
  obtain ⟨h1, h2⟩ := h hc
  rw [wstep_bad M S t (by rw [h1]; exact he)]
  exact ⟨h1, h2⟩
theorem winv_arg {most M : Int} {want : List UInt8} {S : Int × List UInt8} {t : Itm} (h : WInv most 0 want S) (ht : itmErr t = 1) : WInv most 1 want (wstep M S t) := by
  intro _
  obtain ⟨h1, h2⟩ := h (.inr (by decide))
  unfold wstep
  rw [if_pos (by rw [ht]; decide)]
  unfold Buf.wfail
  rw [if_neg (by rw [h1]; decide)]
  exact ⟨rfl, fun h => absurd h (by decide)⟩
theorem winv_long {most : Int} {want : List UInt8} {S : Int × List UInt8} {t : Itm} (h : WInv most 0 want S) (ht : itmErr t = 0) (hl : max (min most 4000) 0 - (want.length : Int) < ((itmBytes t).length : Int)) : WInv most 4 want (wstep (max most 0) S t) := by
  intro hc
  obtain ⟨h1, h2⟩ := h (.inr (by decide))
  have hm : most ≤ 4000 := by rcases hc with h | h; exact h; exact absurd rfl h
  unfold wstep
  rw [if_neg (by rw [ht]; decide)]
  unfold Buf.wput
  rw [if_neg (by rw [h1]; decide), if_pos (by rw [h2 rfl]; omega)]
  exact ⟨rfl, fun h => absurd h (by decide)⟩
theorem winv_ok {most : Int} {want : List UInt8} {S : Int × List UInt8} {t : Itm} (h : WInv most 0 want S) (ht : itmErr t = 0) (hl : ¬ max (min most 4000) 0 - (want.length : Int) < ((itmBytes t).length : Int)) : WInv most 0 (want ++ itmBytes t) (wstep (max most 0) S t) := by
  intro _
  obtain ⟨h1, h2⟩ := h (.inr (by decide))
  unfold wstep
  rw [if_neg (by rw [ht]; decide)]
  unfold Buf.wput
  rw [if_neg (by rw [h1]; decide), if_neg (by rw [h2 rfl]; omega)]
  exact ⟨rfl, fun _ => by rw [h2 rfl]⟩
set_option maxHeartbeats 1000000 in
theorem done_bad2 (B p : Nat) (A : Option Addr) (c : Nat) (e : Int) (b : List UInt8) (most : Int) (w : World) (h : Wr w B p A c e b most) (he : (e == 0) = false) :
    Calls Try.prog 25 #[.pointer (some ⟨p, 0, none⟩)] w fun r w' => r = .returned (.tuple #[.slice none 0 0, .int .i64 e]) ∧ Grow w w' := by
  have hc0 := h.c0
  have hcw := fun (W : World) (g : Grow w.drew W) => (h.drew.grow g).c0
  go_enter Try.func25, Try.ntmps25
  go_wp2_with fail
  refine (fine_any p e _ hc0).mono ?_
  rintro r w' ⟨rfl, rfl⟩
  go_wp2_with fail
  refine wpG_region (by kernel_rfl) ?_
  refine wpG_take 0 rfl (by kernel_rfl) (fun _ _ _ h => h) rfl (v := ?_) ?_ ?_
  rotate_left
  · (intro w' hG; go_simp; try with_reducible rfl)
  try simp only [Act.put, List.setIfInBounds_toArray, List.set_cons_zero, List.set_cons_succ]
  refine wpG_take 1 rfl (by kernel_rfl) (fun _ _ _ h => h) rfl (v := ?_) ?_ ?_
  rotate_left
  · (intro w' hG; go_simp; try with_reducible rfl)
  try simp only [Act.put, List.setIfInBounds_toArray, List.set_cons_zero, List.set_cons_succ]
  refine wpG_take 2 rfl (by kernel_rfl) (fun _ _ _ h => h) rfl (v := ?_) ?_ ?_
  rotate_left
  · (intro w' hG; go_simp; try with_reducible rfl)
  try simp only [Act.put, List.setIfInBounds_toArray, List.set_cons_zero, List.set_cons_succ]
  refine wpG_take 3 rfl (by kernel_rfl) (fun _ _ _ h => h) rfl (v := ?_) ?_ ?_
  rotate_left
  · (intro w' hG; go_simp; try with_reducible rfl)
  try simp only [Act.put, List.setIfInBounds_toArray, List.set_cons_zero, List.set_cons_succ]
  refine wpG_take 4 rfl (by kernel_rfl) (fun _ _ _ h => h) rfl (v := ?_) ?_ ?_
  rotate_left
  · (intro w' hG; go_simp; try with_reducible rfl)
  try simp only [Act.put, List.setIfInBounds_toArray, List.set_cons_zero, List.set_cons_succ]
  refine wpG_take 5 rfl (by kernel_rfl) (fun _ _ _ h => h) rfl (v := ?_) ?_ ?_
  rotate_left
  · (intro w' hG; go_simp; try with_reducible rfl)
  try simp only [Act.put, List.setIfInBounds_toArray, List.set_cons_zero, List.set_cons_succ]
  refine wpG_take 6 rfl (by kernel_rfl) (fun _ _ _ h => h) rfl (v := ?_) ?_ ?_
  rotate_left
  · (intro w' hG; go_simp; try with_reducible rfl)
  try simp only [Act.put, List.setIfInBounds_toArray, List.set_cons_zero, List.set_cons_succ]
  refine wpG_done (by kernel_rfl) ?_ _
  go_wp2
  refine bodyPost_ret (results_tmp2 rfl _ _ _) rfl ?_
  exact ⟨rfl, (Grow.refl w).drew⟩
theorem Items.grow {w w' : World} {A : Option Addr} {L : List Itm} (h : Items w A L) (hg : Grow w w') : Items w' A L :=
  RowsAt.kept h (by omega) (fun _ => rfl) (Kept.of_below hg []) (by simp) (fun t _ ok => ⟨ok.kind, ok.x, ok.n0, ok.n1, ok.len, ok.cap, ok.bytes.grow hg⟩)
theorem Items.at_ {w : World} {A : Option Addr} {L : List Itm} (h : Items w A L) (k : Nat) (hk : k < L.length) : ∃ b o, A = some ⟨b, o, none⟩ ∧ (∀ i, i < 4 → w.cell? ⟨b, o + k * 4 + i, none⟩ = (icells L[k])[i]?) ∧ L[k].Ok w := by
  obtain ⟨b, o, rfl, hc⟩ := h (by rintro rfl; simp at hk)
  exact ⟨b, o, rfl, fun i hi => by rw [(hc k hk).1 i hi]; simp, (hc k hk).2⟩
/-- what stays while the items are written -/
structure WLoop (w wr : World) (p : Nat) (most : Int) (k : Nat) (e : Int) (A6 : Option Addr) (c6 : Nat) (want : List UInt8) (Aw : Option Addr) (cw : Nat) (S : Int × List UInt8) : Prop where
  own : Own wr w.heap.size A6 c6 want
  wri : Wr wr w.heap.size p Aw cw S.1 S.2 (max most 0)
  apart : ∀ q, blk A6 = some q → q ≠ p ∧ blk Aw ≠ some q
  wl : want.length ≤ 210 * k
  sl : S.2.length ≤ 210 * k
  inv : WInv most e want S
  grow : Grow w wr
set_option maxRecDepth 100000 in
set_option maxHeartbeats 8000000 in
theorem bufWrites_any (most : Int) (A : Option Addr) (L : List Itm) (c : Nat) (w : World) (hm0 : -9223372036854775808 ≤ most) (hm1 : most ≤ 9223372036854775807) (_hLc : L.length ≤ c) (_hc : c ≤ 9223372036854775807) (hb : Items w A L) :
    Calls Try.prog 3 #[.int .i64 most, .slice A L.length c] w fun e w' => e = .returned (.bool true) ∧ Grow w w' := by
  go_enter Try.func3, Try.ntmps3
  go_wp2_with fail
  refine (new_any most w hm1).mono ?_
  rintro r w1 ⟨rfl, hwr, hg1⟩
  have hlt1 := hwr.lt
  obtain ⟨rm, hrm⟩ : ∃ rm, rm = max (min most 4000) 0 := ⟨_, rfl⟩
  have hrm' := hide hrm
  have hr0 : 0 ≤ rm ∧ rm ≤ 4000 := by omega
  clear hrm
  go_upto_region 2 with fail
  go_cut [8] from 17 to 19 (fun s8 wx => s8 = .int .i64 rm ∧ wx = w1.alloc (.cells #[] 5))
  case first =>
    go_wp2
    all_goals
      go_meet
      exact ⟨by have := hrm'.out; congr 1; omega, rfl⟩
  case rest =>
  obtain ⟨rfl, rfl⟩ := hcut
  go_wp2
  have hg2 := (Grow.refl w1).alloc (.cells #[] 5)
  have hown0 := (Own.made' w1 w.heap.size w1.heap.size rfl hg1.size)
  have HL0 : WLoop w (w1.alloc (.cells #[] 5)) w.heap.size most 0 0 (some ⟨w1.heap.size, 0, none⟩) 0 [] none 0 (0, []) :=
    ⟨hown0, hwr.grow hg2, fun q hq => by simp [blk] at hq; simp [blk]; omega, by simp, by simp, fun _ => ⟨rfl, fun _ => rfl⟩, Grow.trans hg1 hg2⟩
  have HL0 := hide HL0
  have hp0 : w.heap.size < (w1.alloc (.cells #[] 5)).heap.size := by have := hg2.size; omega
  generalize w1.alloc (.cells #[] 5) = w2 at *
  generalize hp : w.heap.size = p at HL0
  go_loopw [6, 7, 9] (fun s6 s7 s9 wr => ∃ (k : Nat) (e : Int) (A6 : Option Addr) (c6 : Nat) (want : List UInt8) (Aw : Option Addr) (cw : Nat) (S : Int × List UInt8), k ≤ L.length ∧ k ≤ 30 ∧ s6 = .slice A6 want.length c6 ∧ s7 = .int .i64 e ∧ s9 = .int .i64 k ∧ p < wr.heap.size ∧ Hid (WLoop w wr p most k e A6 c6 want Aw cw S))
    (fun _ _ s9 _ => 30 - (intOf s9).toNat)
  case atStart => exact ⟨0, 0, _, 0, [], none, 0, (0, []), by omega, by omega, rfl, rfl, rfl, by omega, HL0⟩
  case round =>
    obtain ⟨k, e, A6, c6, want, Aw, cw, S, hk, hk30, rfl, rfl, rfl, hpw, HL⟩ := hrel
    clear HL0 hp0 hown0 hg2 hlt1
    by_cases hlt : k < L.length
    · by_cases h30 : k < 30
      · have hI := HL.out
        obtain ⟨t, ht⟩ : ∃ t, Hid (t = L[k]) := ⟨_, hide rfl⟩
        obtain ⟨b, o, rfl, hcs, hok⟩ := (hb.grow hI.grow).at_ k hlt
        rw [← ht.out] at hcs hok
        have d0 := hcs 0 (by omega)
        have d1 := hcs 1 (by omega)
        have d2 := hcs 2 (by omega)
        have d3 := hcs 3 (by omega)
        simp at d0 d1 d2 d3
        clear hcs
        have hti : t.l ≠ [] → ∀ q, blk t.A = some q → blk Aw ≠ some q := fun hne q hq hm => by
          have h1 := hI.wri.own.base hm
          obtain ⟨_, _, _, _, hok0⟩ := hb.at_ k hlt
          rw [← ht.out] at hok0
          have := hok0.bytes.inn hne q hq
          omega
        go_wp2_with fail
        refine (itput_any w.heap.size p Aw cw S.1 S.2 (max most 0) t _ hI.wri hok (by have := hI.sl; omega) hI.grow.size hti).mono ?_
        rintro r w3 ⟨rfl, Aw3, cw3, hwr3, hk3, hor3⟩
        have hfoot : ∀ q, q ∈ foot p Aw → w.heap.size ≤ q := fun q hq => by
          rcases List.mem_cons.1 hq with h | h
          · omega
          · exact hI.wri.own.base (by simpa using h)
        have hgr3 : Grow w w3 := Below.trans hI.grow (Kept.to_below (hk3.mono hI.grow.size (fun q hlt hm => by have := hfoot q hm; omega)))
        have hown3 : Own w3 w.heap.size A6 c6 want := hI.own.kept (fun g hg => hk3.block g (hI.own.lt hg) (fun hm => by
          obtain ⟨a1, a2⟩ := hI.apart g hg
          rcases List.mem_cons.1 hm with h | h
          · exact a1 h
          · exact a2 (by simpa using h)))
        have hap3 : ∀ q, blk A6 = some q → q ≠ p ∧ blk Aw3 ≠ some q := fun q hq => by
          obtain ⟨a1, a2⟩ := hI.apart q hq
          refine ⟨a1, fun hm => ?_⟩
          rcases hor3 q hm with h | h
          · exact a2 h
          · have := hI.own.lt hq; omega
        have hI1 := hide hI
        clear hI d0 d1 d2 d3 hti hok HL
        obtain ⟨b2, o2, hA2, hcs, hok3⟩ := (hb.grow hgr3).at_ k hlt
        rw [← ht.out] at hcs hok3
        have e1 : b = b2 ∧ o = o2 := by simpa using hA2
        obtain ⟨rfl, rfl⟩ := e1
        have d0 := hcs 0 (by omega)
        have d1 := hcs 1 (by omega)
        have d2 := hcs 2 (by omega)
        have d3 := hcs 3 (by omega)
        simp at d0 d1 d2 d3
        clear hcs hA2
        have hsz3 := hk3.size
        go_wp2_with fail
        refine (ittext_any t _ hok3).mono ?_
        rintro r w4 ⟨A4, c4, rfl, hown4, hg4⟩
        have hwr4 := hwr3.grow hg4
        have hown6 := hown3.below hg4
        have hgr4 := Grow.trans hgr3 hg4
        have hpw4 : p < w4.heap.size := by have := hg4.size; omega
        have hz := itmErr_01 t
        have hiv := hI1.out.inv
        have hw5 : (wstep (max most 0) (S.1, S.2) t).2.length ≤ S.2.length + 210 := wstep_len (max most 0) (S.1, S.2) t
        have hwl := hI1.out.wl
        have hsl := hI1.out.sl
        have hy := itm_len t
        have K1 := hide (fun (he : e ≠ 0) => winv_bad (M := max most 0) (t := t) hiv he)
        have K2 := hide (fun (he : e = 0) (ht : itmErr t = 1) => winv_arg (M := max most 0) (t := t) (he ▸ hiv) ht)
        have K3 := hide (fun (he : e = 0) (ht : itmErr t = 0) hl => winv_long (t := t) (he ▸ hiv) ht hl)
        have K4 := hide (fun (he : e = 0) (ht : itmErr t = 0) hl => winv_ok (t := t) (he ▸ hiv) ht hl)
        have h4 := hide hown4.bytes
        have hge4 : ∀ q, blk A4 = some q → w3.heap.size ≤ q := fun q hq => hown4.base hq
        rw [← hrm'.out] at K3 K4
        generalize wstep (max most 0) (S.1, S.2) t = S5 at *
        generalize itmBytes t = y at *
        generalize itmErr t = z at *
        clear hok3 d0 d1 d2 d3 hown4 hiv hwr3 hown3 hk3 hor3 hfoot hI1 ht hb
        have hf : ∀ (e' : Int) (S' : Int × List UInt8), WInv most e' want S' → S' = S5 → Hid (WLoop w w4 p most (k + 1) e' A6 c6 want Aw3 cw3 S') := fun e' S' hv hs => hide ⟨hown6, by rw [hs]; exact hwr4, hap3, by omega, by rw [hs]; omega, hv, hgr4⟩
        by_cases he : e = 0
        · have J2 := hide (K2.out he)
          have J3 := hide (K3.out he)
          have J4 := hide (K4.out he)
          clear K1 K2 K3 K4
          subst he
          by_cases hz0 : z = 0
          · have K3 := hide (J3.out hz0)
            have K4 := hide (J4.out hz0)
            clear J2 J3 J4 hz
            subst hz0
            by_cases hlong : rm - (want.length : Int) < (y.length : Int)
            · go_wp2
              go_roundw
              case rel => exact ⟨k + 1, 4, A6, c6, want, Aw3, cw3, S5, by omega, by omega, rfl, rfl, by go_num, hpw4, hf 4 S5 (K3.out hlong) rfl⟩
              case measure => simp [intOf]; omega
            · have hv := hide (K4.out hlong)
              go_wp2_with (at_builtin; refine wpList_append_bytes byteT rfl (.tmp 68) (.tmp 69) rfl hown6 h4.out rfl rfl ?_ ?_ ?_)
              · omega
              · omega
              intro A9 c9 l9 w9 HL9 hown9 hg9 hat9
              have hbl : w.heap.size ≤ w4.heap.size := hgr4.size
              have hwr9 : Wr w9 w.heap.size p Aw3 cw3 S5.1 S5.2 (max most 0) := hwr4.keep (hg9.block p hpw4 (fun e => (hap3 p e.symm).1 rfl)) (fun g hg => hg9.block g (hwr4.own.lt hg) (fun e => (hap3 g e.symm).2 hg))
              have hgr9 : Grow w w9 := Below.grown hgr4 hg9 hbl (fun q hq => hown6.base hq)
              have hap9 : ∀ q, blk A9 = some q → q ≠ p ∧ blk Aw3 ≠ some q := fun q hq => by
                rcases hat9 with h | h
                · exact hap3 q (by rw [← h]; exact hq)
                · rw [h] at hq
                  injection hq with hq
                  exact ⟨by omega, fun hm => by have := hwr4.own.lt hm; omega⟩
              have hp9 : p < w9.heap.size := by have := hg9.size; omega
              have hl9 := congrArg List.length HL9.out
              rw [List.length_append] at hl9
              have hF : Hid (WLoop w w9 p most (k + 1) 0 A9 c9 l9 Aw3 cw3 S5) := hide ⟨hown9.mono (by omega), hwr9, hap9, by omega, by omega, by rw [HL9.out]; exact hv.out, hgr9⟩
              clear hl9
              go_wp2
              go_roundw
              case rel => exact ⟨k + 1, 0, A9, c9, l9, Aw3, cw3, S5, by omega, by omega, rfl, rfl, by go_num, hp9, hF⟩
              case measure => simp [intOf]; omega
          · have hz1 : z = 1 := by rcases hz with h | h; exact absurd h hz0; exact h
            have hv := hide (J2.out hz1)
            clear J2 J3 J4 hz
            subst hz1
            go_wp2
            go_roundw
            case rel => exact ⟨k + 1, 1, A6, c6, want, Aw3, cw3, S5, by omega, by omega, rfl, rfl, by go_num, hpw4, hf 1 S5 hv.out rfl⟩
            case measure => simp [intOf]; omega
        · have he' : (e == 0) = false := by simpa using he
          have hv := hide (K1.out he)
          clear K1 K2 K3 K4
          go_wp2
          go_roundw
          case rel => exact ⟨k + 1, e, A6, c6, want, Aw3, cw3, S5, by omega, by omega, rfl, rfl, by go_num, hpw4, hf e S5 hv.out rfl⟩
          case measure => simp [intOf]; omega
      · obtain rfl : k = 30 := by omega
        clear h30 hk30
        have hI := HL.out
        by_cases h4 : 4000 < most ∧ e = 4
        · obtain ⟨h41, rfl⟩ := h4
          by_cases hS : S.1 = 0
          · obtain ⟨e2, bs⟩ := S
            dsimp only at *
            subst hS
            go_wp2_with fail
            refine (done_ok _ _ _ _ _ _ _ hI.wri (by have := hI.sl; omega)).mono ?_
            rintro r w8 ⟨A8, c8, rfl, hown8, hb8⟩
            go_wp2_with fail
            refine (works05_any _).mono ?_
            rintro r w9 ⟨rfl, hb9⟩
            go_wp2
            go_ret
            exact ⟨rfl, Grow.trans (Grow.trans hI.grow hb8) hb9⟩
          · have hS' : (S.1 == 0) = false := by simpa using hS
            go_wp2_with fail
            refine (done_bad2 _ _ _ _ _ _ _ _ hI.wri hS').mono ?_
            rintro r w8 ⟨rfl, hb8⟩
            go_wp2_with fail
            refine (works05_any _).mono ?_
            rintro r w9 ⟨rfl, hb9⟩
            go_wp2
            go_ret
            exact ⟨rfl, Grow.trans (Grow.trans hI.grow hb8) hb9⟩
        · obtain ⟨i1, i2⟩ := hI.inv (by omega)
          obtain ⟨e2, bs⟩ := S
          dsimp only at *
          subst i1
          by_cases he : e2 = 0
          · subst he
            have i3 := i2 rfl
            subst i3
            clear i2 h4
            have hg8 := hI.grow
            go_wp2_with fail
            refine (done_ok _ _ _ _ _ _ _ hI.wri (by have := hI.sl; omega)).mono ?_
            rintro r w8 ⟨A8, c8, rfl, hown8, hb8⟩
            have V1 := conv_any c8 hown8.bytes
            have V2 := conv_any c6 (hI.own.bytes.grow hb8)
            clear hI HL
            by_cases h40 : 4000 < most
            all_goals
              go_wp2_with fail
              refine (works05_any _).mono ?_
              rintro r w9 ⟨rfl, hb9⟩
              go_wp2
              go_ret
              exact ⟨rfl, Grow.trans (Grow.trans hg8 hb8) hb9⟩
          · have he' : (e2 == 0) = false := by simpa using he
            have hn : (e2 != 0) = true := by simpa using he
            have hg8 := hI.grow
            go_wp2_with fail
            refine (done_bad2 _ _ _ _ _ _ _ _ hI.wri he').mono ?_
            rintro r w8 ⟨rfl, hb8⟩
            clear hI HL
            have V1 := fun W => conv_any (w := W) (A := none) (l := []) 0 (Bytes.nil _ _)
            simp only [List.length_nil] at V1
            by_cases h40 : 4000 < most
            · have he4 : (e2 == 4) = false := by simp; omega
              go_wp2_with fail
              refine (works05_any _).mono ?_
              rintro r w9 ⟨rfl, hb9⟩
              go_wp2
              go_ret
              exact ⟨rfl, Grow.trans (Grow.trans hg8 hb8) hb9⟩
            · go_wp2_with fail
              refine (works05_any _).mono ?_
              rintro r w9 ⟨rfl, hb9⟩
              go_wp2
              go_ret
              exact ⟨rfl, Grow.trans (Grow.trans hg8 hb8) hb9⟩
    · obtain rfl : k = L.length := by omega
      clear hlt
      have hI := HL.out
      by_cases h4 : 4000 < most ∧ e = 4
      · obtain ⟨h41, rfl⟩ := h4
        by_cases hS : S.1 = 0
        · obtain ⟨e2, bs⟩ := S
          dsimp only at *
          subst hS
          go_wp2_with fail
          refine (done_ok _ _ _ _ _ _ _ hI.wri (by have := hI.sl; omega)).mono ?_
          rintro r w8 ⟨A8, c8, rfl, hown8, hb8⟩
          go_wp2_with fail
          refine (works05_any _).mono ?_
          rintro r w9 ⟨rfl, hb9⟩
          go_wp2
          go_ret
          exact ⟨rfl, Grow.trans (Grow.trans hI.grow hb8) hb9⟩
        · have hS' : (S.1 == 0) = false := by simpa using hS
          go_wp2_with fail
          refine (done_bad2 _ _ _ _ _ _ _ _ hI.wri hS').mono ?_
          rintro r w8 ⟨rfl, hb8⟩
          go_wp2_with fail
          refine (works05_any _).mono ?_
          rintro r w9 ⟨rfl, hb9⟩
          go_wp2
          go_ret
          exact ⟨rfl, Grow.trans (Grow.trans hI.grow hb8) hb9⟩
      · obtain ⟨i1, i2⟩ := hI.inv (by omega)
        obtain ⟨e2, bs⟩ := S
        dsimp only at *
        subst i1
        by_cases he : e2 = 0
        · subst he
          have i3 := i2 rfl
          subst i3
          clear i2 h4
          have hg8 := hI.grow
          go_wp2_with fail
          refine (done_ok _ _ _ _ _ _ _ hI.wri (by have := hI.sl; omega)).mono ?_
          rintro r w8 ⟨A8, c8, rfl, hown8, hb8⟩
          have V1 := conv_any c8 hown8.bytes
          have V2 := conv_any c6 (hI.own.bytes.grow hb8)
          clear hI HL
          by_cases h40 : 4000 < most
          all_goals
            go_wp2_with fail
            refine (works05_any _).mono ?_
            rintro r w9 ⟨rfl, hb9⟩
            go_wp2
            go_ret
            exact ⟨rfl, Grow.trans (Grow.trans hg8 hb8) hb9⟩
        · have he' : (e2 == 0) = false := by simpa using he
          have hn : (e2 != 0) = true := by simpa using he
          have hg8 := hI.grow
          go_wp2_with fail
          refine (done_bad2 _ _ _ _ _ _ _ _ hI.wri he').mono ?_
          rintro r w8 ⟨rfl, hb8⟩
          clear hI HL
          have V1 := fun W => conv_any (w := W) (A := none) (l := []) 0 (Bytes.nil _ _)
          simp only [List.length_nil] at V1
          by_cases h40 : 4000 < most
          · have he4 : (e2 == 4) = false := by simp; omega
            go_wp2_with fail
            refine (works05_any _).mono ?_
            rintro r w9 ⟨rfl, hb9⟩
            go_wp2
            go_ret
            exact ⟨rfl, Grow.trans (Grow.trans hg8 hb8) hb9⟩
          · go_wp2_with fail
            refine (works05_any _).mono ?_
            rintro r w9 ⟨rfl, hb9⟩
            go_wp2
            go_ret
            exact ⟨rfl, Grow.trans (Grow.trans hg8 hb8) hb9⟩
end Go.Proofs.Ytpobjcdcimcdnaa
