/- The walks of attend.Who. -/
import Derived.Test.YtldgnallbkpchaaDue
namespace Go.Proofs.Ytldgnallbkpchaa
open Go.RowKit
/-- a packet with its body -/
structure PB where
  p : Pkt
  A : Option Addr
  l : List UInt8
  c : Nat
/-- the address A leads to these packets -/
def Pks (w : World) (A : Option Addr) (L : List PB) : Prop :=
  L ≠ [] → ∃ b o, A = some ⟨b, o, none⟩ ∧ ∀ k (h : k < L.length), (∀ i, i < 12 → w.cell? ⟨b, o + k * 12 + i, none⟩ = (pcells L[k].p L[k].A L[k].l.length L[k].c)[i]?) ∧ Bytes w L[k].A L[k].l
theorem Pks.grow {w w' : World} {A : Option Addr} {L : List PB} (h : Pks w A L) (hg : Grow w w') : Pks w' A L := by
  intro hL
  obtain ⟨b, o, rfl, hc⟩ := h hL
  refine ⟨b, o, rfl, fun k hk => ?_⟩
  obtain ⟨h1, h2⟩ := hc k hk
  have hb : b < w.heap.size := World.block_lt_of_cell? w _ (h1 0 (by omega))
  refine ⟨fun i hi => ?_, h2.grow hg⟩
  rw [← h1 i hi]
  exact Below.cell (p := ⟨b, o + k * 12 + i, none⟩) hg hb
/-- one more that is there -/
def whoAdd (no : Int) (s : Nat) (x : PB) : Nat := if attB x.p x.l && x.p.no == no then s ||| 2 ^ x.p.frm.toNat else s
/-- who is there -/
def whoOf (no : Int) (L : List PB) : Nat := L.foldl (whoAdd no) 0
theorem attB_frm (p : Pkt) (l : List UInt8) (h : attB p l = true) : 0 ≤ p.frm ∧ p.frm < 64 := by
  rw [att_key] at h
  simp [keyB] at h
  omega
theorem whoAdd_lt (no : Int) (s : Nat) (x : PB) (h : s < 18446744073709551616) : whoAdd no s x < 18446744073709551616 := by
  unfold whoAdd
  split
  · rename_i hc
    simp only [Bool.and_eq_true] at hc
    have hf := attB_frm _ _ hc.1
    have h1 : 2 ^ x.p.frm.toNat < 2 ^ 64 := Nat.pow_lt_pow_right (by omega) (by omega)
    exact Nat.or_lt_two_pow (n := 64) h h1
  · exact h
theorem whoOf_lt (no : Int) (L : List PB) : whoOf no L < 18446744073709551616 := by
  have : ∀ (L : List PB) s, s < 18446744073709551616 → L.foldl (whoAdd no) s < 18446744073709551616 := by
    intro L
    induction L with
    | nil => intro s h; exact h
    | cons x L ih => intro s h; exact ih _ (whoAdd_lt no s x h)
  exact this L 0 (by decide)
theorem whoOf_snoc (no : Int) (L : List PB) (k : Nat) (h : k < L.length) : whoOf no (L.take (k + 1)) = whoAdd no (whoOf no (L.take k)) L[k] := by
  unfold whoOf
  rw [List.take_succ_eq_append_getElem h, List.foldl_append]
  rfl
theorem or_bit (s i : Nat) (hs : s < 18446744073709551616) (hi : i < 64) : bits .or .u64 (s : Int) (IntKind.u64.wrap ((2 : Int) ^ i)) = ((s ||| 2 ^ i : Nat) : Int) := by
  have h1 : (2 : Nat) ^ i < 2 ^ 64 := Nat.pow_lt_pow_right (by omega) hi
  have e : (2 : Int) ^ i = ((2 ^ i : Nat) : Int) := by simp
  rw [e]
  generalize (2 ^ i : Nat) = X at *
  rw [IntKind.wrap_u64, show (X : Int) % 18446744073709551616 = (X : Int) by omega]
  exact u64_or_nat _ _ hs (by omega)
set_option maxRecDepth 100000 in
set_option maxHeartbeats 2000000 in
theorem who_any (no : Int) (A : Option Addr) (L : List PB) (c : Nat) (w : World) (hL : Pks w A L) (hm : L.length ≤ 9223372036854775807) :
    Calls Try.prog 103 #[.int .i64 no, .slice A L.length c] w fun r w' => r = .returned (.int .u64 (whoOf no L : Nat)) ∧ Grow w w' := by
  go_enter Try.func103, Try.ntmps103
  go_wp2
  go_loopw [5, 10] (fun s i wr => ∃ k : Nat, k ≤ L.length ∧ i = .int .i64 k ∧ s = .int .u64 (whoOf no (L.take k) : Nat) ∧ Grow w wr) (fun _ i _ => L.length - (intOf i).toNat)
  case atStart => exact ⟨0, by omega, rfl, rfl, Grow.refl w⟩
  case round =>
    obtain ⟨k, hk, rfl, rfl, hg⟩ := hrel
    by_cases hlt : k < L.length
    · obtain ⟨b, o, hA, hc⟩ := hL.grow hg (by rintro rfl; simp at hlt)
      subst hA
      obtain ⟨hcell, hby⟩ := hc k hlt
      have HS := hide (whoOf_snoc no L k hlt)
      have hslt := whoOf_lt no (L.take k)
      generalize whoOf no (L.take k) = s at *
      generalize L[k] = x at *
      obtain ⟨p, A1, l, c1⟩ := x
      dsimp only at *
      clear hc
      have hcs : ∀ i, i < 12 → wr.cell? ⟨b, o + k * 12 + i, none⟩ = (pcells p A1 l.length c1)[i]? := hcell
      have d0 := hcs 0 (by omega)
      have d1 := hcs 1 (by omega)
      have d2 := hcs 2 (by omega)
      have d3 := hcs 3 (by omega)
      have d4 := hcs 4 (by omega)
      have d5 := hcs 5 (by omega)
      have d6 := hcs 6 (by omega)
      have d7 := hcs 7 (by omega)
      have d8 := hcs 8 (by omega)
      have d9 := hcs 9 (by omega)
      have d10 := hcs 10 (by omega)
      have d11 := hcs 11 (by omega)
      clear hcs hcell
      simp at d0 d1 d2 d3 d4 d5 d6 d7 d8 d9 d10 d11
      have HG := hide (attgood_any p A1 l c1 _ (hby.alloc (.cells (pcells p A1 l.length c1) 65)))
      have hfr := hide (attB_frm p l)
      have HW := hide (show whoAdd no s { p := p, A := A1, l := l, c := c1 } = if attB p l && p.no == no then s ||| 2 ^ p.frm.toNat else s from rfl)
      generalize attB p l = b1 at *
      clear hby
      go_wp2_with fail
      refine HG.out.mono ?_
      rintro r w1 ⟨rfl, hb1⟩
      obtain ⟨q0, hg1⟩ := peel1 hb1
      obtain ⟨cq0, fq0, lq0⟩ := q0.rules
      have HG1 := hide (Grow.trans hg hg1)
      clear hb1 hg1 d0 d1 d2 d3 d4 d5 d6 d7 d8 d9 d10 d11 HG q0 hg
      cases b1 with
      | false =>
        go_wp2
        go_roundw
        case rel => exact ⟨k + 1, by omega, by go_num, by rw [HS.out, HW.out]; rfl, HG1.out⟩
        case measure => simp [intOf]; omega
      | true =>
        obtain ⟨f0, f1⟩ := hfr.out rfl
        obtain ⟨i, hi⟩ := Int.eq_ofNat_of_zero_le f0
        have hi64 : i < 64 := by omega
        have HO := hide (or_bit s p.frm.toNat hslt (by omega))
        by_cases hno : p.no = no
        · have hd : (p.no == no) = true := by simpa using hno
          rw [hd] at HW
          clear hno hi
          go_wp2
          rw [HO.out]
          go_roundw
          case rel => exact ⟨k + 1, by omega, by go_num, by rw [HS.out, HW.out]; rfl, HG1.out⟩
          case measure => simp [intOf]; omega
        · have hd : (p.no == no) = false := by simpa using hno
          rw [hd] at HW
          clear hno hi
          go_wp2
          go_roundw
          case rel => exact ⟨k + 1, by omega, by go_num, by rw [HS.out, HW.out]; rfl, HG1.out⟩
          case measure => simp [intOf]; omega
    · obtain rfl : k = L.length := by omega
      have HT := hide (show L.take L.length = L from List.take_length)
      go_wp2
      go_ret
      exact ⟨by rw [HT.out]; rfl, hg⟩
end Go.Proofs.Ytldgnallbkpchaa
