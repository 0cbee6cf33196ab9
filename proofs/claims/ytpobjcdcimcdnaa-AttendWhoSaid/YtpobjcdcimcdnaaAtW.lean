/- Who is there (chapter 12): whatever the order; the document's Who. -/
import Derived.Test.YtpobjcdcimcdnaaFewW
import Derived.Test.YtpobjcdcimcdnaaRdX
import Derived.Test.YtpobjcdcimcdnaaNod
import Derived.Maps.AppendAt
import Derived.OwnWalk
namespace Go.Proofs.Ytpobjcdcimcdnaa
open Go.RowKit
def thereB (no : Int) (j : Nat) (x : PB) : Bool := attB x.p x.l && x.p.no == no && x.p.frm.toNat == j
theorem whoAdd_bit (no : Int) (s j : Nat) (x : PB) : (whoAdd no s x).testBit j = (s.testBit j || thereB no j x) := by
  unfold whoAdd thereB
  split
  · rename_i h
    rw [Nat.testBit_or, Nat.testBit_two_pow, h, Bool.true_and]
    rfl
  · rename_i h
    have h : (attB x.p x.l && x.p.no == no) = false := by simpa using h
    rw [h, Bool.false_and, Bool.or_false]
theorem whoOf_bit (no : Int) (L : List PB) (j : Nat) : (whoOf no L).testBit j = L.any (thereB no j) := by
  have : ∀ (L : List PB) s, (L.foldl (whoAdd no) s).testBit j = (s.testBit j || L.any (thereB no j)) := by
    intro L
    induction L with
    | nil => intro s; simp
    | cons x L ih => intro s; rw [List.foldl_cons, ih, whoAdd_bit, List.any_cons, Bool.or_assoc]
  have h := this L 0
  rw [Nat.zero_testBit, Bool.false_or] at h
  exact h
theorem whoOf_same (no : Int) (L M : List PB) (h : ∀ x, x ∈ L ↔ x ∈ M) : whoOf no L = whoOf no M := by
  apply Nat.eq_of_testBit_eq
  intro j
  rw [whoOf_bit, whoOf_bit, Bool.eq_iff_iff, List.any_eq_true, List.any_eq_true]
  constructor
  · rintro ⟨x, hx, h1⟩
    exact ⟨x, (h x).1 hx, h1⟩
  · rintro ⟨x, hx, h1⟩
    exact ⟨x, (h x).2 hx, h1⟩
theorem swap_mem {α : Type} (P : List α) (i j : Nat) (hi : i < P.length) (hj : j < P.length) (hij : i ≠ j) (x : α) : x ∈ (P.set i P[j]).set j P[i] ↔ x ∈ P := by
  constructor
  · intro h
    rcases List.mem_or_eq_of_mem_set h with h | rfl
    · rcases List.mem_or_eq_of_mem_set h with h | rfl
      · exact h
      · exact List.getElem_mem hj
    · exact List.getElem_mem hi
  · intro h
    obtain ⟨k, hk, rfl⟩ := List.getElem_of_mem h
    have hl : ((P.set i P[j]).set j P[i]).length = P.length := by simp
    by_cases hki : k = i
    · subst hki
      have h1 : ((P.set k P[j]).set j P[k])[j]'(by omega) = P[k] := by simp
      have h2 := List.getElem_mem (l := (P.set k P[j]).set j P[k]) (n := j) (by omega)
      rw [h1] at h2
      exact h2
    · by_cases hkj : k = j
      · subst hkj
        have h1 : ((P.set i P[k]).set k P[i])[i]'(by omega) = P[k] := by
          rw [List.getElem_set_ne (by omega), List.getElem_set_self]
        have h2 := List.getElem_mem (l := (P.set i P[k]).set k P[i]) (n := i) (by omega)
        rw [h1] at h2
        exact h2
      · have : ((P.set i P[j]).set j P[i])[k]'(by omega) = P[k] := by
          rw [List.getElem_set_ne (by omega), List.getElem_set_ne (by omega)]
        rw [← this]
        exact List.getElem_mem _
set_option maxRecDepth 100000 in
set_option maxHeartbeats 4000000 in
theorem refwho_any (no : Int) (A : Option Addr) (L : List PB) (c : Nat) (w : World) (hL : Pks w A L) (hm : L.length ≤ 1000000) :
    Calls Try.prog 62 #[.int .i64 no, .slice A L.length c] w fun r w' => r = .returned (.int .u64 (whoOf no L : Nat)) ∧ Grow w w' := by
  have hg0 := Grow.refl w
  go_enter Try.func62, Try.ntmps62
  go_wp2
  go_loopw [5, 6] (fun s i wr => ∃ k S : Nat, k ≤ L.length ∧ i = .int .i64 k ∧ s = .int .u64 S ∧ Hid (S = whoOf no (L.take k)) ∧ Grow w wr) (fun _ i _ => L.length - (intOf i).toNat)
  case atStart => exact ⟨0, 0, by omega, rfl, rfl, hide rfl, hg0⟩
  case round =>
    obtain ⟨k, S, hk, rfl, rfl, hS, hgr⟩ := hrel
    clear hg0
    have hSl : S < 18446744073709551616 := by rw [hS.out]; exact whoOf_lt _ _
    by_cases hlt : k < L.length
    · have hlti : (k : Int) < (L.length : Int) := by omega
      obtain ⟨b, o, hA, hc⟩ := hL.grow hgr (by rintro rfl; simp at hlt)
      subst hA
      obtain ⟨hcs, hby⟩ := hc k hlt
      have HS := hide (whoOf_snoc no L k hlt)
      rw [← hS.out] at HS
      have HGo := fun x : PB => hide (fun W h => refattgood_any x.p x.A x.l x.c W h)
      generalize L[k] = x at *
      have HG := HGo x
      clear HGo
      obtain ⟨p, A1, l, c1⟩ := x
      dsimp only at *
      clear hc
      have d0 := hcs 0 (by omega)
      have d1 := hcs 1 (by omega)
      have d2 := hcs 2 (by omega)
      have d3 := hcs 3 (by omega)
      have d4 := hcs 4 (by omega)
      have d5 := hcs 5 (by omega)
      have d6 := hcs 6 (by omega)
      have d7 := hcs 7 (by omega)
      have d8 := hcs 8 (by omega)
      have d9 := hcs 9 (by omega)
      have d10 := hcs 10 (by omega)
      have d11 := hcs 11 (by omega)
      clear hcs
      simp at d0 d1 d2 d3 d4 d5 d6 d7 d8 d9 d10 d11
      have hfr := hide (attB_frm p l)
      have HW := hide (show whoAdd no S ⟨p, A1, l, c1⟩ = if attB p l && p.no == no then S ||| 2 ^ p.frm.toNat else S from rfl)
      generalize attB p l = b1 at *
      go_wp2_with fail
      refine (HG.out _ hby).mono ?_
      rintro r w4 ⟨rfl, hg4⟩
      have hg4 : Grow wr w4 := hg4
      have hgr4 := Grow.trans hgr hg4
      have e2 := Grow.cell' hg4 d2
      have e5 := Grow.cell' hg4 d5
      clear d0 d1 d2 d3 d4 d5 d6 d7 d8 d9 d10 d11 HG hby
      cases b1 with
      | false =>
        have hS2 : Hid (S = whoOf no (L.take (k + 1))) := hide (by rw [HS.out, HW.out, Bool.false_and]; rfl)
        clear e2 e5
        go_wp2
        go_roundw
        case rel => exact ⟨k + 1, S, by omega, by go_num, rfl, hS2, hgr4⟩
        case measure => simp [intOf]; omega
      | true =>
        have hn := hfr.out rfl
        by_cases hno : p.no = no
        · obtain ⟨nd, hnd⟩ := Int.eq_ofNat_of_zero_le hn.1
          have hnl : nd < 64 := by omega
          have hS2 : Hid (S ||| 2 ^ nd = whoOf no (L.take (k + 1))) := hide (by rw [HS.out, HW.out, hnd, Bool.true_and, hno, beq_self_eq_true, if_pos rfl]; rfl)
          have HWi := hide (nwith_any S nd w4.heap.size _ hSl hnl ((Box.new w4 #[nv nd] 3 rfl).cell 0))
          rw [hnd] at e2
          rw [hno] at e5
          clear hn hnd hno
          generalize S ||| 2 ^ nd = S2 at *
          go_wp2_with fail
          refine HWi.out.mono ?_
          rintro r w5 ⟨rfl, hg5⟩
          have hgr5 := Grow.trans (hgr4.alloc _) hg5
          clear HWi e2 e5
          go_wp2
          go_roundw
          case rel => exact ⟨k + 1, S2, by omega, by go_num, rfl, hS2, hgr5⟩
          case measure => simp [intOf]; omega
        · have hnb : (p.no == no) = false := by simpa using hno
          have hS2 : Hid (S = whoOf no (L.take (k + 1))) := hide (by rw [HS.out, HW.out, Bool.true_and, hnb]; rfl)
          clear hno
          go_wp2
          go_roundw
          case rel => exact ⟨k + 1, S, by omega, by go_num, rfl, hS2, hgr4⟩
          case measure => simp [intOf]; omega
    · obtain rfl : k = L.length := by omega
      have hSS := hS.out
      rw [List.take_length] at hSS
      subst hSS
      clear hlt
      go_wp2
      go_ret
      exact ⟨rfl, hgr⟩
end Go.Proofs.Ytpobjcdcimcdnaa
