/- The walk of the document of fate.Get: the plain law. -/
import Derived.Test.YtcghgahohmabnaaFtQ
import Derived.Test.YtcghgahohmabnaaRdX
namespace Go.Proofs.Ytcghgahohmabnaa
open Go.RowKit
theorem frbyte_nil : rbyte ([], 0) = (0, [], 3) := rfl
/-- a result of the document: a fate, which bytes are left (a part of b), what is wrong -/
def GotF3 (B : Option Addr) (b : List UInt8) (r : Ending) (q : Fate) (t : List UInt8) (e : Int) : Prop :=
  ∃ A c, r = .returned (.tuple #[fv q, .slice A t.length c, .int .i64 e]) ∧ (e = 0 → t.length ≤ c ∧ c ≤ 9223372036854775807 ∧ ∀ W, Bytes W B b → Bytes W A t)
theorem rfix4_short (l : List UInt8) (h : l.length < 4) : rfix 4 (l, 0) = (0, [], 3) := by
  show Buf.getFixed l 4 = _
  unfold Buf.getFixed
  rw [if_neg (by omega), if_pos (by omega)]
theorem rfix4_long (l : List UInt8) (h : 4 ≤ l.length) : rfix 4 (l, 0) = (Buf.num (l.take 4), l.drop 4, 0) := by
  show Buf.getFixed l 4 = _
  unfold Buf.getFixed
  rw [if_neg (by omega), if_neg (by omega)]
  rfl
theorem rfix4_bad (l : List UInt8) (e : Int) (h : e ≠ 0) : rfix 4 (l, e) = (0, l, e) := by unfold rfix; exact rget_bad _ _ (l, e) h
abbrev F0 (x : Nat) : Fate := { kind := 0, delay := (x : Int), again := 0, pos := 0, bits := 0 }
abbrev F2 (x y : Nat) : Fate := { kind := 2, delay := (x : Int), again := (y : Int), pos := 0, bits := 0 }
abbrev F3 (x y z : Nat) : Fate := { kind := 3, delay := (x : Int), again := 0, pos := (y : Int), bits := (z : Int) }
section
variable {b : List UInt8}
theorem fgc_nil : fg [] = (noF, [], 3) := fg_err frbyte_nil (by decide)
theorem fgc_big (h1 : 1 ≤ b.length) (h : 4 ≤ (b.getD 0 0).toNat) : fg b = (noF, [], 7) := by
  obtain ⟨a, r, rfl, h00, _⟩ := getD_one h1
  rw [h00] at h
  exact fg_big (frbyte_cons a r) h
theorem fgc_1 (h1 : 1 ≤ b.length) (h : (b.getD 0 0).toNat = 1) : fg b = ({ kind := 1, delay := 0, again := 0, pos := 0, bits := 0 }, b.drop 1, 0) := by
  obtain ⟨a, r, rfl, h00, h11⟩ := getD_one h1
  rw [h00] at h
  have e := frbyte_cons a r
  rw [h] at e
  rw [h11]
  exact fg_1 e
theorem fgc_0s (h1 : b.length = 1) (h : (b.getD 0 0).toNat = 0) : fg b = (noF, [], 3) := by
  obtain ⟨a, r, rfl, h00, h11⟩ := getD_one (l := b) (by omega)
  rw [h00] at h
  have hr : r = [] := by simpa using h1
  subst hr
  have e := frbyte_cons a []
  rw [h] at e
  rw [fg_0 e frbyte_nil, if_pos (by decide)]
theorem fgc_0 (h2 : 2 ≤ b.length) (h : (b.getD 0 0).toNat = 0) : fg b = if fateB (F0 (b.getD 1 0).toNat) = false then (noF, [], 2) else (F0 (b.getD 1 0).toNat, b.drop 2, 0) := by
  obtain ⟨a, d, r, rfl, h00, h11, h22⟩ := getD_two h2
  rw [h00] at h
  have e := frbyte_cons a (d :: r)
  rw [h] at e
  rw [fg_0 e (frbyte_cons d r), if_neg (by decide), h11, h22]
theorem fgc_2s (h1 : 1 ≤ b.length) (h3 : b.length < 3) (h : (b.getD 0 0).toNat = 2) : fg b = (noF, [], 3) := by
  obtain ⟨a, r, rfl, h00, h11⟩ := getD_one h1
  rw [h00] at h
  have e := frbyte_cons a r
  rw [h] at e
  match r, h3 with
  | [], _ => rw [fg_2 e frbyte_nil (frbyte_bad _ _ (by decide)), if_pos (by decide)]
  | [d], _ => rw [fg_2 e (frbyte_cons d []) frbyte_nil, if_pos (by decide)]
  | _ :: _ :: _, h3 => simp at h3; omega
theorem fgc_2 (h3 : 3 ≤ b.length) (h : (b.getD 0 0).toNat = 2) : fg b = if fateB (F2 (b.getD 1 0).toNat (b.getD 2 0).toNat) = false then (noF, [], 2) else (F2 (b.getD 1 0).toNat (b.getD 2 0).toNat, b.drop 3, 0) := by
  obtain ⟨a, d, g, r, rfl, h00, h11, h22, h33⟩ := getD_three h3
  rw [h00] at h
  have e := frbyte_cons a (d :: g :: r)
  rw [h] at e
  rw [fg_2 e (frbyte_cons d (g :: r)) (frbyte_cons g r), if_neg (by decide), h11, h22, h33]
theorem fgc_3s (h1 : 1 ≤ b.length) (h3 : b.length < 10) (h : (b.getD 0 0).toNat = 3) : fg b = (noF, [], 3) := by
  obtain ⟨a, r, rfl, h00, h11⟩ := getD_one h1
  rw [h00] at h
  have e := frbyte_cons a r
  rw [h] at e
  match r, h3 with
  | [], _ => rw [fg_3 e frbyte_nil (rfix4_bad _ _ (by decide)) (rfix4_bad _ _ (by decide)), if_pos (by decide)]
  | d :: r, h3 =>
    simp at h3
    by_cases h4 : r.length < 4
    · rw [fg_3 e (frbyte_cons d r) (rfix4_short r h4) (rfix4_bad _ _ (by decide)), if_pos (by decide)]
    · rw [fg_3 e (frbyte_cons d r) (rfix4_long r (by omega)) (rfix4_short _ (by rw [List.length_drop]; omega)), if_pos (by decide)]
theorem fgc_3 (h3 : 10 ≤ b.length) (h : (b.getD 0 0).toNat = 3) : fg b = if fateB (F3 (b.getD 1 0).toNat (Buf.num ((b.drop 2).take 4)) (Buf.num ((b.drop 6).take 4))) = false then (noF, [], 2) else (F3 (b.getD 1 0).toNat (Buf.num ((b.drop 2).take 4)) (Buf.num ((b.drop 6).take 4)), b.drop 10, 0) := by
  obtain ⟨a, d, r, rfl, h00, h11, h22⟩ := getD_two (l := b) (by omega)
  rw [h00] at h
  have e := frbyte_cons a (d :: r)
  rw [h] at e
  have hl : 8 ≤ r.length := by simp at h3; omega
  have hd : (a :: d :: r).drop 6 = r.drop 4 := rfl
  have hd2 : (a :: d :: r).drop 10 = (r.drop 4).drop 4 := by rw [List.drop_drop]; rfl
  rw [fg_3 e (frbyte_cons d r) (rfix4_long r (by omega)) (rfix4_long _ (by rw [List.length_drop]; omega)), if_neg (by decide), h11, h22, hd, hd2]
end
set_option maxRecDepth 100000 in
set_option maxHeartbeats 2000000 in
theorem reffget_nil (B : Option Addr) (b : List UInt8) (cb : Nat) (w : World) (_hb : Bytes w B b) (_hc : b.length ≤ cb) (_hcm : cb ≤ 9223372036854775807) (h : b.length = 0) :
    Calls Try.prog 59 #[.slice B b.length cb] w fun r w' => GotF3 B b r (fg b).1 (fg b).2.1 (fg b).2.2 ∧ Grow w w' := by
  have h00 : b = [] := List.eq_nil_of_length_eq_zero h
  have HP : Hid (fg b = (noF, [], 3)) := hide (by rw [h00]; exact fgc_nil)
  generalize fg b = Q at *
  have h0 : (b.length == 0) = true := by simpa using h
  clear h00
  go_enter Try.func59, Try.ntmps59
  go_wp2
  refine bodyPost_ret (v := .tuple #[fv noF, .slice none 0 0, .int .i64 3]) (by simp [results, Try.results59, go_sem]) rfl ?_
  rw [HP.out]
  refine ⟨⟨none, 0, rfl, fun h => by simp at h⟩, ?_⟩
  show Below w.heap.size w _
  repeat (first | (with_reducible refine Below.setCell ?_ (by simp; try omega) _) | (with_reducible refine Below.alloc ?_ (by simp; try omega) _))
  exact Below.refl _ _
set_option maxRecDepth 100000 in
set_option maxHeartbeats 2000000 in
theorem reffget_big (B : Option Addr) (b : List UInt8) (cb : Nat) (w : World) (hb : Bytes w B b) (_hc : b.length ≤ cb) (_hcm : cb ≤ 9223372036854775807) (h1 : 1 ≤ b.length) (h : 4 ≤ (b.getD 0 0).toNat) :
    Calls Try.prog 59 #[.slice B b.length cb] w fun r w' => GotF3 B b r (fg b).1 (fg b).2.1 (fg b).2.2 ∧ Grow w w' := by
  have HP := hide (fgc_big h1 h)
  generalize fg b = Q at *
  have h9 : b.length ≠ 0 := by omega
  have h0 : (b.length == 0) = false := by simpa using h9
  clear h9
  have h0' : 0 < b.length := by omega
  obtain ⟨bb, oo, hA, hcell0⟩ := hb.get 0 (by omega)
  subst hA
  rw [Nat.add_zero] at hcell0
  have hbb : bb < w.heap.size := World.block_lt_of_cell? w _ hcell0
  have hbb1 : bb < w.heap.size + 1 := by omega
  have hbb2 : bb < w.heap.size + 1 + 1 := by omega
  have hn0 : ¬ bb = w.heap.size := by omega
  have hn1 : ¬ bb = w.heap.size + 1 := by omega
  have C0 := fun o => Grow.cell' ((Grow.refl w).alloc o) hcell0
  have alt0 : (b.getD 0 0).toNat < 256 := u8_lt _
  generalize (b.getD 0 0).toNat = a0 at *
  have hk : (3 : Int) < (a0 : Int) := by omega
  go_enter Try.func59, Try.ntmps59
  go_wp2
  refine bodyPost_ret (v := .tuple #[fv noF, .slice none 0 0, .int .i64 7]) (by simp [results, Try.results59, go_sem]) rfl ?_
  rw [HP.out]
  refine ⟨⟨none, 0, rfl, fun h => by simp at h⟩, ?_⟩
  show Below w.heap.size w _
  repeat (first | (with_reducible refine Below.setCell ?_ (by simp; try omega) _) | (with_reducible refine Below.alloc ?_ (by simp; try omega) _))
  exact Below.refl _ _
set_option maxRecDepth 100000 in
set_option maxHeartbeats 2000000 in
theorem reffget_0s (B : Option Addr) (b : List UInt8) (cb : Nat) (w : World) (hb : Bytes w B b) (_hc : b.length ≤ cb) (_hcm : cb ≤ 9223372036854775807) (h1 : 1 ≤ b.length) (h3 : b.length < 2) (h : (b.getD 0 0).toNat = 0) :
    Calls Try.prog 59 #[.slice B b.length cb] w fun r w' => GotF3 B b r (fg b).1 (fg b).2.1 (fg b).2.2 ∧ Grow w w' := by
  have HP := hide (fgc_0s (by omega) h)
  generalize fg b = Q at *
  have h9 : b.length ≠ 0 := by omega
  have h0 : (b.length == 0) = false := by simpa using h9
  clear h9
  have h0' : 0 < b.length := by omega
  have hl : (b.length : Int) < 2 := by omega
  obtain ⟨bb, oo, hA, hcell0⟩ := hb.get 0 (by omega)
  subst hA
  rw [Nat.add_zero] at hcell0
  have hbb : bb < w.heap.size := World.block_lt_of_cell? w _ hcell0
  have hbb1 : bb < w.heap.size + 1 := by omega
  have hbb2 : bb < w.heap.size + 1 + 1 := by omega
  have hn0 : ¬ bb = w.heap.size := by omega
  have hn1 : ¬ bb = w.heap.size + 1 := by omega
  have C0 := fun o => Grow.cell' ((Grow.refl w).alloc o) hcell0
  rw [h] at hcell0 C0
  clear h
  go_enter Try.func59, Try.ntmps59
  go_wp2
  refine bodyPost_ret (v := .tuple #[fv noF, .slice none 0 0, .int .i64 3]) (by simp [results, Try.results59, go_sem]) rfl ?_
  rw [HP.out]
  refine ⟨⟨none, 0, rfl, fun h => by simp at h⟩, ?_⟩
  show Below w.heap.size w _
  repeat (first | (with_reducible refine Below.setCell ?_ (by simp; try omega) _) | (with_reducible refine Below.alloc ?_ (by simp; try omega) _))
  exact Below.refl _ _
set_option maxRecDepth 100000 in
set_option maxHeartbeats 2000000 in
theorem reffget_2s (B : Option Addr) (b : List UInt8) (cb : Nat) (w : World) (hb : Bytes w B b) (_hc : b.length ≤ cb) (_hcm : cb ≤ 9223372036854775807) (h1 : 1 ≤ b.length) (h3 : b.length < 3) (h : (b.getD 0 0).toNat = 2) :
    Calls Try.prog 59 #[.slice B b.length cb] w fun r w' => GotF3 B b r (fg b).1 (fg b).2.1 (fg b).2.2 ∧ Grow w w' := by
  have HP := hide (fgc_2s h1 h3 h)
  generalize fg b = Q at *
  have h9 : b.length ≠ 0 := by omega
  have h0 : (b.length == 0) = false := by simpa using h9
  clear h9
  have h0' : 0 < b.length := by omega
  have hl : (b.length : Int) < 3 := by omega
  obtain ⟨bb, oo, hA, hcell0⟩ := hb.get 0 (by omega)
  subst hA
  rw [Nat.add_zero] at hcell0
  have hbb : bb < w.heap.size := World.block_lt_of_cell? w _ hcell0
  have hbb1 : bb < w.heap.size + 1 := by omega
  have hbb2 : bb < w.heap.size + 1 + 1 := by omega
  have hn0 : ¬ bb = w.heap.size := by omega
  have hn1 : ¬ bb = w.heap.size + 1 := by omega
  have C0 := fun o => Grow.cell' ((Grow.refl w).alloc o) hcell0
  rw [h] at hcell0 C0
  clear h
  go_enter Try.func59, Try.ntmps59
  go_wp2
  refine bodyPost_ret (v := .tuple #[fv noF, .slice none 0 0, .int .i64 3]) (by simp [results, Try.results59, go_sem]) rfl ?_
  rw [HP.out]
  refine ⟨⟨none, 0, rfl, fun h => by simp at h⟩, ?_⟩
  show Below w.heap.size w _
  repeat (first | (with_reducible refine Below.setCell ?_ (by simp; try omega) _) | (with_reducible refine Below.alloc ?_ (by simp; try omega) _))
  exact Below.refl _ _
set_option maxRecDepth 100000 in
set_option maxHeartbeats 2000000 in
theorem reffget_3s (B : Option Addr) (b : List UInt8) (cb : Nat) (w : World) (hb : Bytes w B b) (_hc : b.length ≤ cb) (_hcm : cb ≤ 9223372036854775807) (h1 : 1 ≤ b.length) (h3 : b.length < 10) (h : (b.getD 0 0).toNat = 3) :
    Calls Try.prog 59 #[.slice B b.length cb] w fun r w' => GotF3 B b r (fg b).1 (fg b).2.1 (fg b).2.2 ∧ Grow w w' := by
  have HP := hide (fgc_3s h1 h3 h)
  generalize fg b = Q at *
  have h9 : b.length ≠ 0 := by omega
  have h0 : (b.length == 0) = false := by simpa using h9
  clear h9
  have h0' : 0 < b.length := by omega
  have hl : (b.length : Int) < 10 := by omega
  obtain ⟨bb, oo, hA, hcell0⟩ := hb.get 0 (by omega)
  subst hA
  rw [Nat.add_zero] at hcell0
  have hbb : bb < w.heap.size := World.block_lt_of_cell? w _ hcell0
  have hbb1 : bb < w.heap.size + 1 := by omega
  have hbb2 : bb < w.heap.size + 1 + 1 := by omega
  have hn0 : ¬ bb = w.heap.size := by omega
  have hn1 : ¬ bb = w.heap.size + 1 := by omega
  have C0 := fun o => Grow.cell' ((Grow.refl w).alloc o) hcell0
  rw [h] at hcell0 C0
  clear h
  go_enter Try.func59, Try.ntmps59
  go_wp2
  refine bodyPost_ret (v := .tuple #[fv noF, .slice none 0 0, .int .i64 3]) (by simp [results, Try.results59, go_sem]) rfl ?_
  rw [HP.out]
  refine ⟨⟨none, 0, rfl, fun h => by simp at h⟩, ?_⟩
  show Below w.heap.size w _
  repeat (first | (with_reducible refine Below.setCell ?_ (by simp; try omega) _) | (with_reducible refine Below.alloc ?_ (by simp; try omega) _))
  exact Below.refl _ _
end Go.Proofs.Ytcghgahohmabnaa
