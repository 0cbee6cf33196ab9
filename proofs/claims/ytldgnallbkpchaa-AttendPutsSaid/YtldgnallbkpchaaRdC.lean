/- The walks of numbers in sevens that a reader of package buf reads. -/
import Derived.Test.YtldgnallbkpchaaRdB
namespace Go.Proofs.Ytldgnallbkpchaa
open Go.RowKit
theorem Bytes.get {w : World} {A : Option Addr} {l : List UInt8} (h : Bytes w A l) (k : Nat) (hk : k < l.length) : ∃ b o, A = some ⟨b, o, none⟩ ∧ w.cell? ⟨b, o + k, none⟩ = some (.int .u8 ((l.getD k 0).toNat : Int)) := by
  obtain ⟨b, o, hA, hc⟩ := h.at_ k hk
  exact ⟨b, o, hA, by rw [hc]; simp [List.getD_eq_getElem?_getD, List.getElem?_eq_getElem hk]⟩
/-- the bytes of a reader as numbers -/
structure Dig (w : World) (A : Option Addr) (b : List UInt8) (d : Nat → Nat) : Prop where
  lt : ∀ k, d k < 256
  cell : ∀ k, k < b.length → ∃ bb o, A = some ⟨bb, o, none⟩ ∧ w.cell? ⟨bb, o + k, none⟩ = some (.int .u8 ((d k : Nat) : Int))
theorem Dig.mk_ {w : World} {A : Option Addr} {b : List UInt8} (h : Bytes w A b) : ∃ d, Dig w A b d ∧ ∀ k, d k = (b.getD k 0).toNat :=
  ⟨fun k => (b.getD k 0).toNat, ⟨fun k => (b.getD k 0).toNat_lt, fun k hk => h.get k hk⟩, fun _ => rfl⟩
theorem Dig.at_ {w : World} {bb o : Nat} {b : List UInt8} {d : Nat → Nat} (h : Dig w (some ⟨bb, o, none⟩) b d) (k : Nat) (hk : k < b.length) : w.cell? ⟨bb, o + k, none⟩ = some (.int .u8 ((d k : Nat) : Int)) := by
  obtain ⟨b', o', hA, hc⟩ := h.cell k hk
  injection hA with hA
  injection hA with e1 e2
  subst e1 e2
  exact hc
set_option maxRecDepth 100000 in
set_option maxHeartbeats 1000000 in
theorem length_ok (N p : Nat) (b : List UInt8) (w : World) (h : Rd w N p (b, 0)) (h1 : Buf.lead 10 b < 10) (h2 : Buf.lead 10 b < b.length) :
    Calls Try.prog 136 #[.pointer (some ⟨p, 0, none⟩)] w fun r w' => r = .returned (.int .i64 ((Buf.lead 10 b + 1 : Nat) : Int)) ∧ w = w' := by
  obtain ⟨A, c, hc0, hc1, hlc, hcm, hb, hset⟩ := h.open0
  obtain ⟨d, hD, hd⟩ := Dig.mk_ hb
  have hall := hide (show ∀ k, k < Buf.lead 10 b → 128 ≤ d k from fun k hk => by rw [hd]; exact Buf.lead_all 10 b k hk)
  have hstop := hide (show d (Buf.lead 10 b) < 128 by rw [hd]; exact Buf.lead_stop 10 b h1 h2)
  generalize Buf.lead 10 b = L at *
  obtain ⟨bb, o, hA, _⟩ := hD.cell 0 (by omega)
  subst hA
  clear hset hd
  go_enter Try.func136, Try.ntmps136
  go_wp2
  go_loop [10] (fun i => ∃ k : Nat, k ≤ L ∧ i = .int .i64 k) (fun i => L - (intOf i).toNat)
  case atStart => exact ⟨0, by omega, rfl⟩
  case round =>
    obtain ⟨k, hk, rfl⟩ := hrel
    have hcell := hD.at_ k (by omega)
    have hu := hD.lt k
    have t10 : ((k : Int) == 10) = false := by simp; omega
    by_cases hlt : k < L
    · have h128 := hall.out k hlt
      have hd : decide (((d k : Nat) : Int) < 128) = false := by simp; omega
      go_wp2
      go_round
      case rel => exact ⟨k + 1, by omega, by go_num⟩
      case measure => simp [intOf]; omega
    · obtain rfl : k = L := by omega
      have h128 := hstop.out
      have hd : decide (((d k : Nat) : Int) < 128) = true := by simp; omega
      go_wp2
      go_ret
      exact ⟨rfl, rfl⟩
set_option maxRecDepth 100000 in
set_option maxHeartbeats 1000000 in
theorem length_short (N p : Nat) (b : List UInt8) (w : World) (h : Rd w N p (b, 0)) (h1 : Buf.lead 10 b < 10) (h2 : Buf.lead 10 b = b.length) :
    Calls Try.prog 136 #[.pointer (some ⟨p, 0, none⟩)] w fun r w' => r = .returned (.int .i64 0) ∧ Rd w' N p ([], 3) ∧ Kept w.heap.size [p] w w' := by
  obtain ⟨A, c, hc0, hc1, hlc, hcm, hb, hset⟩ := h.open0
  have hf := h.fz 0
  obtain ⟨d, hD, hd⟩ := Dig.mk_ hb
  have hall := hide (show ∀ k, k < Buf.lead 10 b → 128 ≤ d k from fun k hk => by rw [hd]; exact Buf.lead_all 10 b k hk)
  generalize Buf.lead 10 b = L at *
  subst h2
  clear hset hd
  go_enter Try.func136, Try.ntmps136
  go_wp2
  go_loop [10] (fun i => ∃ k : Nat, k ≤ b.length ∧ i = .int .i64 k) (fun i => b.length - (intOf i).toNat)
  case atStart => exact ⟨0, by omega, rfl⟩
  case round =>
    obtain ⟨k, hk, rfl⟩ := hrel
    by_cases hlt : k < b.length
    · obtain ⟨bb, o, hA, hcell⟩ := hD.cell k hlt
      subst hA
      have hu := hD.lt k
      have t10 : ((k : Int) == 10) = false := by simp; omega
      have h128 := hall.out k hlt
      have hd : decide (((d k : Nat) : Int) < 128) = false := by simp; omega
      go_wp2
      go_round
      case rel => exact ⟨k + 1, by omega, by go_num⟩
      case measure => simp [intOf]; omega
    · obtain rfl : k = b.length := by omega
      have hd : decide (10 ≤ b.length) = false := by simp; omega
      go_wp2_with fail
      refine (fail_set p 3 _ hc0 hf).mono ?_
      rintro r w' ⟨rfl, rfl⟩
      go_wp2
      go_ret
      exact ⟨rfl, h.setErr 3 (by decide), (Kept.refl _ _ w).setCell (p := ⟨p, 0, none⟩) (.inr (by simp)) _⟩
set_option maxRecDepth 100000 in
set_option maxHeartbeats 1000000 in
theorem length_form (N p : Nat) (b : List UInt8) (w : World) (h : Rd w N p (b, 0)) (h1 : Buf.lead 10 b = 10) :
    Calls Try.prog 136 #[.pointer (some ⟨p, 0, none⟩)] w fun r w' => r = .returned (.int .i64 0) ∧ Rd w' N p ([], 5) ∧ Kept w.heap.size [p] w w' := by
  have h10 := Buf.lead_len 10 b
  rw [h1] at h10
  obtain ⟨A, c, hc0, hc1, hlc, hcm, hb, hset⟩ := h.open0
  have hf := h.fz 0
  obtain ⟨d, hD, hd⟩ := Dig.mk_ hb
  have hall := hide (show ∀ k, k < 10 → 128 ≤ d k from fun k hk => by rw [hd]; exact Buf.lead_all 10 b k (by omega))
  clear hset hd h1
  go_enter Try.func136, Try.ntmps136
  go_wp2
  go_loop [10] (fun i => ∃ k : Nat, k ≤ 10 ∧ i = .int .i64 k) (fun i => 10 - (intOf i).toNat)
  case atStart => exact ⟨0, by omega, rfl⟩
  case round =>
    obtain ⟨k, hk, rfl⟩ := hrel
    by_cases hlt : k < 10
    · obtain ⟨bb, o, hA, hcell⟩ := hD.cell k (by omega)
      subst hA
      have hu := hD.lt k
      have t10 : ((k : Int) == 10) = false := by simp; omega
      have h128 := hall.out k hlt
      have hd : decide (((d k : Nat) : Int) < 128) = false := by simp; omega
      have hkl : k < b.length := by omega
      go_wp2
      go_round
      case rel => exact ⟨k + 1, by omega, by go_num⟩
      case measure => simp [intOf]; omega
    · obtain rfl : k = 10 := by omega
      by_cases hl : 10 < b.length
      · obtain ⟨bb, o, hA, hcell⟩ := hD.cell 10 hl
        subst hA
        have hu := hD.lt 10
        go_wp2_with fail
        refine (fail_set p 5 _ hc0 hf).mono ?_
        rintro r w' ⟨rfl, rfl⟩
        go_wp2
        go_ret
        exact ⟨rfl, h.setErr 5 (by decide), (Kept.refl _ _ w).setCell (p := ⟨p, 0, none⟩) (.inr (by simp)) _⟩
      · have hd : decide (10 ≤ b.length) = true := by simp; omega
        have hR := h.setErr 5 (by decide)
        have hc5 := hR.c0
        go_wp2_with fail
        refine (fail_set p 5 _ hc0 hf).mono ?_
        rintro r w' ⟨rfl, rfl⟩
        go_wp2_with fail
        refine (fail_keep p 3 5 _ hc5 (by decide)).mono ?_
        rintro r w' ⟨rfl, rfl⟩
        go_wp2
        go_ret
        exact ⟨rfl, hR, (Kept.refl _ _ w).setCell (p := ⟨p, 0, none⟩) (.inr (by simp)) _⟩
end Go.Proofs.Ytldgnallbkpchaa
