/- The walk of the document's get (acts). -/
import Derived.Test.YtcghgahohmabnaaScB
import Derived.Test.YtcghgahohmabnaaSc3
import Derived.Test.YtcghgahohmabnaaRdX
namespace Go.Proofs.Ytcghgahohmabnaa
open Go.RowKit
section
variable {b : List UInt8}
theorem agc_nil (h : b.length = 0) : ag b = ((noA, []), [], 3) := by
  rw [List.eq_nil_of_length_eq_zero h]
  exact ag_err frbyte_nil (by decide)
theorem agc_kind (h1 : 1 ≤ b.length) (h : (b.getD 0 0).toNat < 1 ∨ 8 < (b.getD 0 0).toNat) : ag b = ((noA, []), [], 7) := by
  obtain ⟨a, r, rfl, h00, _⟩ := getD_one h1
  rw [h00] at h
  exact ag_kind (frbyte_cons a r) h
theorem agc_3 (h1 : 1 ≤ b.length) (h : (b.getD 0 0).toNat = 3) : ag b = if (fg (b.drop 1)).2.2 ≠ 0 then ((noA, []), [], (fg (b.drop 1)).2.2) else ((⟨3, 0, 0, (fg (b.drop 1)).1⟩, []), (fg (b.drop 1)).2.1, 0) := by
  obtain ⟨a, r, rfl, h00, h11⟩ := getD_one h1
  rw [h00] at h
  have e := frbyte_cons a r
  rw [h] at e
  rw [h11]
  exact ag_3 e
theorem agc_s (h1 : b.length = 1) (h : 1 ≤ (b.getD 0 0).toNat) (h8 : (b.getD 0 0).toNat ≤ 8) (h3 : (b.getD 0 0).toNat ≠ 3) : ag b = ((noA, []), [], 3) := by
  obtain ⟨a, r, rfl, h00, h11⟩ := getD_one (l := b) (by omega)
  rw [h00] at h h8 h3
  have hr : r = [] := by simpa using h1
  subst hr
  have e := frbyte_cons a []
  have hc : a.toNat = 1 ∨ a.toNat = 2 ∨ a.toNat = 6 ∨ (a.toNat = 4 ∨ a.toNat = 5 ∨ a.toNat = 7 ∨ a.toNat = 8) := by omega
  rcases hc with k | k | k | k
  · rw [k] at e
    rw [ag_1 e frbyte_nil]; rfl
  · rw [k] at e
    rw [ag_2 e frbyte_nil (rnum_e [] 3 (by decide))]; rfl
  · rw [k] at e
    rw [ag_6 e frbyte_nil (rbytes_e 1024 [] 3 (by decide))]; rfl
  · rw [ag_n e k frbyte_nil]; rfl
theorem agc_1 (h2 : 2 ≤ b.length) (h : (b.getD 0 0).toNat = 1) : ag b = agFin ⟨1, 0, ((b.getD 1 0).toNat : Int), zF⟩ [] (b.drop 2, 0) := by
  obtain ⟨a, d, r, rfl, h00, h11, h22⟩ := getD_two h2
  rw [h00] at h
  have e := frbyte_cons a (d :: r)
  rw [h] at e
  rw [h11, h22]
  exact ag_1 e (frbyte_cons d r)
theorem agc_2 (h2 : 2 ≤ b.length) (h : (b.getD 0 0).toNat = 2) : ag b = agFin ⟨2, ((b.getD 1 0).toNat : Int), zagI (Buf.getNum (b.drop 2)).1, zF⟩ [] (Buf.getNum (b.drop 2)).2 := by
  obtain ⟨a, d, r, rfl, h00, h11, h22⟩ := getD_two h2
  rw [h00] at h
  have e := frbyte_cons a (d :: r)
  rw [h] at e
  rw [h11, h22]
  exact ag_2 e (frbyte_cons d r) (show rnum (r, 0) = ((Buf.getNum r).1, (Buf.getNum r).2.1, (Buf.getNum r).2.2) from rfl)
theorem agc_6 (h2 : 2 ≤ b.length) (h : (b.getD 0 0).toNat = 6) : ag b = agFin ⟨6, ((b.getD 1 0).toNat : Int), 0, zF⟩ (Buf.getBytes (b.drop 2) 1024).1 (Buf.getBytes (b.drop 2) 1024).2 := by
  obtain ⟨a, d, r, rfl, h00, h11, h22⟩ := getD_two h2
  rw [h00] at h
  have e := frbyte_cons a (d :: r)
  rw [h] at e
  rw [h11, h22]
  exact ag_6 e (frbyte_cons d r) (show rbytes 1024 (r, 0) = ((Buf.getBytes r 1024).1, (Buf.getBytes r 1024).2.1, (Buf.getBytes r 1024).2.2) from rfl)
theorem agc_n (k : Nat) (h2 : 2 ≤ b.length) (h : (b.getD 0 0).toNat = k) (hk : k = 4 ∨ k = 5 ∨ k = 7 ∨ k = 8) : ag b = agFin ⟨(k : Int), ((b.getD 1 0).toNat : Int), 0, zF⟩ [] (b.drop 2, 0) := by
  obtain ⟨a, d, r, rfl, h00, h11, h22⟩ := getD_two h2
  rw [h00] at h
  have e := frbyte_cons a (d :: r)
  rw [h] at e
  rw [h11, h22]
  exact ag_n e hk (frbyte_cons d r)
end
/-- a result of the document: an act, which bytes are left (parts of b), what is wrong -/
def GotRA (B : Option Addr) (b : List UInt8) (r : Ending) (T : XA × List UInt8 × Int) : Prop :=
  ∃ q A n c A2 n2 c2, r = .returned (.tuple #[av q A n c, .slice A2 n2 c2, .int .i64 T.2.2]) ∧ (T.2.2 = 0 → n2 = T.2.1.length ∧ q = T.1.1 ∧ n = T.1.2.length ∧ n ≤ c ∧ c ≤ 9223372036854775807 ∧ T.2.1.length ≤ c2 ∧ c2 ≤ 9223372036854775807 ∧ (∀ W, Bytes W B b → Bytes W A T.1.2) ∧ ∀ W, Bytes W B b → Bytes W A2 T.2.1)
theorem rzag46_any (u : Nat) (w : World) (h : u < 18446744073709551616) : Calls Try.prog 147 #[.int .u64 u] w fun r w' => r = .returned (.int .i64 (zagI u)) ∧ w = w' := by
  by_cases h1 : u % 2 = 1
  · have hz := hide (show zagI u = -((u / 2 : Nat) : Int) - 1 by unfold zagI; rw [if_pos h1])
    have hi : (u : Int) % 2 = 1 := by omega
    have hh : ((u / 2 : Nat) : Int) = (u : Int) / 2 := by omega
    rw [hh] at hz
    go_enter Try.func147, Try.ntmps147
    go_wp2
    go_ret
    exact ⟨by rw [hz.out]; go_num, rfl⟩
  · have hz := hide (show zagI u = ((u / 2 : Nat) : Int) by unfold zagI; rw [if_neg h1])
    have hi : ¬ ((u : Int) % 2 = 1) := by omega
    have hh : ((u / 2 : Nat) : Int) = (u : Int) / 2 := by omega
    rw [hh] at hz
    go_enter Try.func147, Try.ntmps147
    go_wp2
    go_ret
    exact ⟨by rw [hz.out]; go_num, rfl⟩
set_option maxRecDepth 100000 in
set_option maxHeartbeats 2000000 in
theorem refaget_nil (B : Option Addr) (b : List UInt8) (cb : Nat) (w : World) (_hb : Bytes w B b) (_hc : b.length ≤ cb) (_hcm : cb ≤ 9223372036854775807) (h : b.length = 0) :
    Calls Try.prog 121 #[.slice B b.length cb] w fun r w' => GotRA B b r (ag b) ∧ Grow w w' := by
  have HP := hide (agc_nil h)
  generalize ag b = Q at *
  have h0 : (b.length == 0) = true := by simpa using h
  go_enter Try.func121, Try.ntmps121
  go_wp2
  refine bodyPost_ret (v := .tuple #[av noA none 0 0, .slice none 0 0, .int .i64 3]) (by simp [results, Try.results121, go_sem]) rfl ?_
  rw [HP.out]
  refine ⟨⟨_, _, _, _, none, 0, 0, rfl, fun h => absurd h (by simp)⟩, ?_⟩
  show Below w.heap.size w _
  repeat (first | (with_reducible refine Below.setCell ?_ (by simp; try omega) _) | (with_reducible refine Below.alloc ?_ (by simp; try omega) _))
  exact (Grow.refl w)
set_option maxRecDepth 100000 in
set_option maxHeartbeats 2000000 in
theorem refaget_kind (B : Option Addr) (b : List UInt8) (cb : Nat) (w : World) (hb : Bytes w B b) (_hc : b.length ≤ cb) (_hcm : cb ≤ 9223372036854775807) (h1 : 1 ≤ b.length) (h : (b.getD 0 0).toNat < 1 ∨ 8 < (b.getD 0 0).toNat) :
    Calls Try.prog 121 #[.slice B b.length cb] w fun r w' => GotRA B b r (ag b) ∧ Grow w w' := by
  have HP := hide (agc_kind h1 h)
  generalize ag b = Q at *
  have h9 : b.length ≠ 0 := by omega
  have h0 : (b.length == 0) = false := by simpa using h9
  clear h9
  have h0' : 0 < b.length := by omega
  obtain ⟨bb, oo, hA, hcell0⟩ := hb.get 0 (by omega)
  subst hA
  rw [Nat.add_zero] at hcell0
  have hbb : bb < w.heap.size := World.block_lt_of_cell? w _ hcell0
  have hbb1 : bb < w.heap.size + 1 := by omega
  have hbb2 : bb < w.heap.size + 1 + 1 := by omega
  have hn0 : ¬ bb = w.heap.size := by omega
  have hn1 : ¬ bb = w.heap.size + 1 := by omega
  have C0 := fun o => Grow.cell' ((Grow.refl w).alloc o) hcell0
  have alt0 : (b.getD 0 0).toNat < 256 := u8_lt _
  generalize (b.getD 0 0).toNat = a0 at *
  go_enter Try.func121, Try.ntmps121
  rcases h with h | h
  · have hki : (a0 : Int) < 1 := by omega
    go_wp2
    refine bodyPost_ret (v := .tuple #[av ⟨(a0 : Int), 0, 0, zF⟩ none 0 0, .slice none 0 0, .int .i64 7]) (by simp [results, Try.results121, go_sem]) rfl ?_
    rw [HP.out]
    refine ⟨⟨_, _, _, _, none, 0, 0, rfl, fun h => absurd h (by simp)⟩, ?_⟩
    show Below w.heap.size w _
    repeat (first | (with_reducible refine Below.setCell ?_ (by simp; try omega) _) | (with_reducible refine Below.alloc ?_ (by simp; try omega) _))
    exact (Grow.refl w)
  · have hki : (8 : Int) < (a0 : Int) := by omega
    have hkj : ¬ ((a0 : Int) < 1) := by omega
    go_wp2
    refine bodyPost_ret (v := .tuple #[av ⟨(a0 : Int), 0, 0, zF⟩ none 0 0, .slice none 0 0, .int .i64 7]) (by simp [results, Try.results121, go_sem]) rfl ?_
    rw [HP.out]
    refine ⟨⟨_, _, _, _, none, 0, 0, rfl, fun h => absurd h (by simp)⟩, ?_⟩
    show Below w.heap.size w _
    repeat (first | (with_reducible refine Below.setCell ?_ (by simp; try omega) _) | (with_reducible refine Below.alloc ?_ (by simp; try omega) _))
    exact (Grow.refl w)
set_option maxRecDepth 100000 in
set_option maxHeartbeats 2000000 in
theorem refaget_s (B : Option Addr) (b : List UInt8) (cb : Nat) (w : World) (hb : Bytes w B b) (_hc : b.length ≤ cb) (_hcm : cb ≤ 9223372036854775807) (h1 : b.length = 1) (h : 1 ≤ (b.getD 0 0).toNat) (h8 : (b.getD 0 0).toNat ≤ 8) (h3 : (b.getD 0 0).toNat ≠ 3) :
    Calls Try.prog 121 #[.slice B b.length cb] w fun r w' => GotRA B b r (ag b) ∧ Grow w w' := by
  have HP := hide (agc_s h1 h h8 h3)
  generalize ag b = Q at *
  have h9 : b.length ≠ 0 := by omega
  have h0 : (b.length == 0) = false := by simpa using h9
  clear h9
  have h0' : 0 < b.length := by omega
  obtain ⟨bb, oo, hA, hcell0⟩ := hb.get 0 (by omega)
  subst hA
  rw [Nat.add_zero] at hcell0
  have hbb : bb < w.heap.size := World.block_lt_of_cell? w _ hcell0
  have hbb1 : bb < w.heap.size + 1 := by omega
  have hbb2 : bb < w.heap.size + 1 + 1 := by omega
  have hn0 : ¬ bb = w.heap.size := by omega
  have hn1 : ¬ bb = w.heap.size + 1 := by omega
  have C0 := fun o => Grow.cell' ((Grow.refl w).alloc o) hcell0
  have hs1 : ((b.length : Int) == 1) = true := by simp; omega
  have alt0 : (b.getD 0 0).toNat < 256 := u8_lt _
  generalize (b.getD 0 0).toNat = a0 at *
  have hki : ¬ ((a0 : Int) < 1) := by omega
  have hkj : ¬ ((8 : Int) < (a0 : Int)) := by omega
  have hk3 : ((a0 : Int) == 3) = false := by simp; omega
  clear h3
  go_enter Try.func121, Try.ntmps121
  go_wp2
  refine bodyPost_ret (v := .tuple #[av ⟨(a0 : Int), 0, 0, zF⟩ none 0 0, .slice none 0 0, .int .i64 3]) (by simp [results, Try.results121, go_sem]) rfl ?_
  rw [HP.out]
  refine ⟨⟨_, _, _, _, none, 0, 0, rfl, fun h => absurd h (by simp)⟩, ?_⟩
  show Below w.heap.size w _
  repeat (first | (with_reducible refine Below.setCell ?_ (by simp; try omega) _) | (with_reducible refine Below.alloc ?_ (by simp; try omega) _))
  exact (Grow.refl w)
set_option maxRecDepth 100000 in
set_option maxHeartbeats 2000000 in
theorem refaget_3 (B : Option Addr) (b : List UInt8) (cb : Nat) (w : World) (hb : Bytes w B b) (hc : b.length ≤ cb) (hcm : cb ≤ 9223372036854775807) (h1 : 1 ≤ b.length) (h : (b.getD 0 0).toNat = 3) :
    Calls Try.prog 121 #[.slice B b.length cb] w fun r w' => GotRA B b r (ag b) ∧ Grow w w' := by
  have HP := hide (agc_3 h1 h)
  generalize ag b = Q at *
  have h9 : b.length ≠ 0 := by omega
  have h0 : (b.length == 0) = false := by simpa using h9
  clear h9
  have h0' : 0 < b.length := by omega
  obtain ⟨bb, oo, hA, hcell0⟩ := hb.get 0 (by omega)
  subst hA
  rw [Nat.add_zero] at hcell0
  have hbb : bb < w.heap.size := World.block_lt_of_cell? w _ hcell0
  have hbb1 : bb < w.heap.size + 1 := by omega
  have hbb2 : bb < w.heap.size + 1 + 1 := by omega
  have hn0 : ¬ bb = w.heap.size := by omega
  have hn1 : ¬ bb = w.heap.size + 1 := by omega
  have C0 := fun o => Grow.cell' ((Grow.refl w).alloc o) hcell0
  rw [h] at hcell0 C0
  clear h
  obtain ⟨A2, c2, hsl, hc2, hcm2, hsb⟩ := slice_from (some ⟨bb, oo, none⟩) b cb 1 1 rfl (by omega) hc
  have HR := hide (fun W h => reffget_any A2 (b.drop 1) c2 W h hc2 (by omega))
  have hd1 : (b.drop 1).length = b.length - 1 := List.length_drop
  simp only [hd1] at HR hsl
  generalize fg (b.drop 1) = F at *
  obtain ⟨f, rest, e⟩ := F
  dsimp only at HP HR
  go_enter Try.func121, Try.ntmps121
  go_wp2_with fail
  refine (HR.out _ (hsb _ ((hb.alloc _).alloc _))).mono ?_
  rintro r w1 ⟨⟨A7, c7, rfl, hok⟩, hb1⟩
  obtain ⟨p0, q0, hg1⟩ := peel2 hb1
  have p0_ := hide p0
  clear p0
  have p0 := p0_
  clear p0_
  have q0_ := hide q0
  clear q0
  have q0 := q0_
  clear q0_
  have HG1 := hide (show Grow w w1 from hg1)
  have hsz1 : w.heap.size ≤ w1.heap.size := HG1.out.size
  have hq1 : w.heap.size ≤ w1.heap.size := hg1.size
  have HS1 := hide hg1
  clear hb1 hg1
  obtain ⟨cp0, fp0, lp0⟩ := (show Box w1 _ _ from p0.out).rules
  obtain ⟨cq0, fq0, lq0⟩ := (show Box w1 _ _ from q0.out).rules
  go_wp2
  refine bodyPost_ret (v := .tuple #[av ⟨3, 0, 0, f⟩ none 0 0, .slice A7 rest.length c7, .int .i64 e]) (by simp [results, Try.results121, go_sem, cp0, lp0]) rfl ?_
  rw [HP.out]
  by_cases he : e = 0
  · subst he
    rw [if_neg (by simp)]
    obtain ⟨h1, h2, h3⟩ := hok rfl
    refine ⟨⟨_, none, 0, 0, A7, _, c7, rfl, fun _ => ⟨rfl, rfl, rfl, Nat.le_refl _, by omega, h1, h2, fun _ _ => Bytes.nil _ _, fun W hW => h3 W (hsb W hW)⟩⟩, ?_⟩
    show Below w.heap.size w _
    repeat (first | (with_reducible refine Below.setCell ?_ (by simp; try omega) _) | (with_reducible refine Below.alloc ?_ (by simp; try omega) _))
    exact HG1.out
  · rw [if_pos he]
    refine ⟨⟨_, _, _, _, A7, _, c7, rfl, fun h => absurd h he⟩, ?_⟩
    show Below w.heap.size w _
    repeat (first | (with_reducible refine Below.setCell ?_ (by simp; try omega) _) | (with_reducible refine Below.alloc ?_ (by simp; try omega) _))
    exact HG1.out
set_option maxRecDepth 100000 in
set_option maxHeartbeats 2000000 in
theorem refaget_1 (B : Option Addr) (b : List UInt8) (cb : Nat) (w : World) (hb : Bytes w B b) (hc : b.length ≤ cb) (hcm : cb ≤ 9223372036854775807) (h2 : 2 ≤ b.length) (h : (b.getD 0 0).toNat = 1) :
    Calls Try.prog 121 #[.slice B b.length cb] w fun r w' => GotRA B b r (ag b) ∧ Grow w w' := by
  have HP := hide ((agc_1 h2 h).trans (agFin_if _ _ _ _))
  have HG := hide (fun A c W h hn => refagood_any ⟨1, 0, ((b.getD 1 0).toNat : Int), zF⟩ A [] c W h hn)
  generalize actB _ _ = g at *
  generalize ag b = Q at *
  have HP := hide (HP.out.trans (if_neg (by simp)))
  have h9 : b.length ≠ 0 := by omega
  have h0 : (b.length == 0) = false := by simpa using h9
  clear h9
  have h0' : 0 < b.length := by omega
  obtain ⟨bb, oo, hA, hcell0⟩ := hb.get 0 (by omega)
  subst hA
  rw [Nat.add_zero] at hcell0
  have hbb : bb < w.heap.size := World.block_lt_of_cell? w _ hcell0
  obtain ⟨bb1, oo1, hA1, hcell1⟩ := hb.get 1 (by omega)
  obtain ⟨rfl, rfl⟩ : bb = bb1 ∧ oo = oo1 := by simpa using hA1
  clear hA1
  have hbb1 : bb < w.heap.size + 1 := by omega
  have hbb2 : bb < w.heap.size + 1 + 1 := by omega
  have hn0 : ¬ bb = w.heap.size := by omega
  have hn1 : ¬ bb = w.heap.size + 1 := by omega
  have C0 := fun o => Grow.cell' ((Grow.refl w).alloc o) hcell0
  rw [h] at hcell0 C0
  clear h
  have alt1 : (b.getD 1 0).toNat < 256 := u8_lt _
  generalize (b.getD 1 0).toNat = a1 at *
  have hi1 : (1 : Int) < (b.length : Int) := by omega
  have C1 := fun o1 o2 => Grow.cell' (((Grow.refl w).alloc o1).alloc o2) hcell1
  have hs1 : ((b.length : Int) == 1) = false := by simp; omega
  obtain ⟨A2, c2, hsl, hc2, hcm2, hsb⟩ := slice_from (some ⟨bb, oo, none⟩) b cb 2 2 rfl (by omega) hc
  have hd2 : (b.drop 2).length = b.length - 2 := List.length_drop
  have HSL := hide (And.intro hc2 (And.intro (Nat.le_trans hcm2 hcm) hsb))
  clear hsb hc2 hcm2
  simp only [hd2] at hsl
  go_enter Try.func121, Try.ntmps121
  go_wp2_with fail
  refine (HG.out _ _ _ (Bytes.nil _ _) (by decide)).mono ?_
  rintro r w2 ⟨rfl, hb2⟩
  obtain ⟨p0, q0, hg2⟩ := peel2 hb2
  have p0_ := hide p0
  clear p0
  have p0 := p0_
  clear p0_
  have q0_ := hide q0
  clear q0
  have q0 := q0_
  clear q0_
  have HG2 := hide (show Grow w w2 from hg2)
  have hsz2 : w.heap.size ≤ w2.heap.size := HG2.out.size
  have hq2 : w.heap.size ≤ w2.heap.size := hg2.size
  have HS2 := hide hg2
  clear hb2 hg2
  obtain ⟨cp0, fp0, lp0⟩ := (show Box w2 _ _ from p0.out).rules
  obtain ⟨cq0, fq0, lq0⟩ := (show Box w2 _ _ from q0.out).rules
  cases g with
  | false =>
      have HP := hide (HP.out.trans (if_pos rfl))
      go_wp2
      refine bodyPost_ret (v := .tuple #[av ⟨1, 0, (a1 : Int), zF⟩ none 0 0, .slice none 0 0, .int .i64 2]) (by simp [results, Try.results121, go_sem, cp0]) rfl ?_
      rw [HP.out]
      refine ⟨⟨_, _, _, _, none, 0, 0, rfl, fun h => absurd h (by simp)⟩, ?_⟩
      show Below w.heap.size w _
      repeat (first | (with_reducible refine Below.setCell ?_ (by simp; try omega) _) | (with_reducible refine Below.alloc ?_ (by simp; try omega) _))
      exact HG2.out
  | true =>
      have HP := hide (HP.out.trans (if_neg (by decide)))
      go_wp2
      refine bodyPost_ret (v := .tuple #[av ⟨1, 0, (a1 : Int), zF⟩ none 0 0, .slice A2 (b.length - 2) c2, .int .i64 0]) (by simp [results, Try.results121, go_sem, cp0]) rfl ?_
      rw [HP.out]
      refine ⟨⟨_, _, _, _, _, _, _, rfl, fun _ => ⟨hd2.symm, rfl, rfl, Nat.le_refl _, by omega, HSL.out.1, HSL.out.2.1, fun _ _ => Bytes.nil _ _, HSL.out.2.2⟩⟩, ?_⟩
      show Below w.heap.size w _
      repeat (first | (with_reducible refine Below.setCell ?_ (by simp; try omega) _) | (with_reducible refine Below.alloc ?_ (by simp; try omega) _))
      exact HG2.out
set_option maxRecDepth 100000 in
set_option maxHeartbeats 2000000 in
theorem refaget_4 (B : Option Addr) (b : List UInt8) (cb : Nat) (w : World) (hb : Bytes w B b) (hc : b.length ≤ cb) (hcm : cb ≤ 9223372036854775807) (h2 : 2 ≤ b.length) (h : (b.getD 0 0).toNat = 4) :
    Calls Try.prog 121 #[.slice B b.length cb] w fun r w' => GotRA B b r (ag b) ∧ Grow w w' := by
  have HP := hide ((agc_n 4 h2 h (by omega)).trans (agFin_if _ _ _ _))
  rw [show ((4 : Nat) : Int) = 4 from rfl] at HP
  have HG := hide (fun A c W h hn => refagood_any ⟨4, ((b.getD 1 0).toNat : Int), 0, zF⟩ A [] c W h hn)
  generalize actB _ _ = g at *
  generalize ag b = Q at *
  have HP := hide (HP.out.trans (if_neg (by simp)))
  have h9 : b.length ≠ 0 := by omega
  have h0 : (b.length == 0) = false := by simpa using h9
  clear h9
  have h0' : 0 < b.length := by omega
  obtain ⟨bb, oo, hA, hcell0⟩ := hb.get 0 (by omega)
  subst hA
  rw [Nat.add_zero] at hcell0
  have hbb : bb < w.heap.size := World.block_lt_of_cell? w _ hcell0
  obtain ⟨bb1, oo1, hA1, hcell1⟩ := hb.get 1 (by omega)
  obtain ⟨rfl, rfl⟩ : bb = bb1 ∧ oo = oo1 := by simpa using hA1
  clear hA1
  have hbb1 : bb < w.heap.size + 1 := by omega
  have hbb2 : bb < w.heap.size + 1 + 1 := by omega
  have hn0 : ¬ bb = w.heap.size := by omega
  have hn1 : ¬ bb = w.heap.size + 1 := by omega
  have C0 := fun o => Grow.cell' ((Grow.refl w).alloc o) hcell0
  rw [h] at hcell0 C0
  clear h
  have alt1 : (b.getD 1 0).toNat < 256 := u8_lt _
  generalize (b.getD 1 0).toNat = a1 at *
  have hi1 : (1 : Int) < (b.length : Int) := by omega
  have C1 := fun o1 o2 => Grow.cell' (((Grow.refl w).alloc o1).alloc o2) hcell1
  have hs1 : ((b.length : Int) == 1) = false := by simp; omega
  obtain ⟨A2, c2, hsl, hc2, hcm2, hsb⟩ := slice_from (some ⟨bb, oo, none⟩) b cb 2 2 rfl (by omega) hc
  have hd2 : (b.drop 2).length = b.length - 2 := List.length_drop
  have HSL := hide (And.intro hc2 (And.intro (Nat.le_trans hcm2 hcm) hsb))
  clear hsb hc2 hcm2
  simp only [hd2] at hsl
  go_enter Try.func121, Try.ntmps121
  go_wp2_with fail
  refine (HG.out _ _ _ (Bytes.nil _ _) (by decide)).mono ?_
  rintro r w2 ⟨rfl, hb2⟩
  obtain ⟨p0, q0, hg2⟩ := peel2 hb2
  have p0_ := hide p0
  clear p0
  have p0 := p0_
  clear p0_
  have q0_ := hide q0
  clear q0
  have q0 := q0_
  clear q0_
  have HG2 := hide (show Grow w w2 from hg2)
  have hsz2 : w.heap.size ≤ w2.heap.size := HG2.out.size
  have hq2 : w.heap.size ≤ w2.heap.size := hg2.size
  have HS2 := hide hg2
  clear hb2 hg2
  obtain ⟨cp0, fp0, lp0⟩ := (show Box w2 _ _ from p0.out).rules
  obtain ⟨cq0, fq0, lq0⟩ := (show Box w2 _ _ from q0.out).rules
  cases g with
  | false =>
      have HP := hide (HP.out.trans (if_pos rfl))
      go_wp2
      refine bodyPost_ret (v := .tuple #[av ⟨4, (a1 : Int), 0, zF⟩ none 0 0, .slice none 0 0, .int .i64 2]) (by simp [results, Try.results121, go_sem, cp0]) rfl ?_
      rw [HP.out]
      refine ⟨⟨_, _, _, _, none, 0, 0, rfl, fun h => absurd h (by simp)⟩, ?_⟩
      show Below w.heap.size w _
      repeat (first | (with_reducible refine Below.setCell ?_ (by simp; try omega) _) | (with_reducible refine Below.alloc ?_ (by simp; try omega) _))
      exact HG2.out
  | true =>
      have HP := hide (HP.out.trans (if_neg (by decide)))
      go_wp2
      refine bodyPost_ret (v := .tuple #[av ⟨4, (a1 : Int), 0, zF⟩ none 0 0, .slice A2 (b.length - 2) c2, .int .i64 0]) (by simp [results, Try.results121, go_sem, cp0]) rfl ?_
      rw [HP.out]
      refine ⟨⟨_, _, _, _, _, _, _, rfl, fun _ => ⟨hd2.symm, rfl, rfl, Nat.le_refl _, by omega, HSL.out.1, HSL.out.2.1, fun _ _ => Bytes.nil _ _, HSL.out.2.2⟩⟩, ?_⟩
      show Below w.heap.size w _
      repeat (first | (with_reducible refine Below.setCell ?_ (by simp; try omega) _) | (with_reducible refine Below.alloc ?_ (by simp; try omega) _))
      exact HG2.out
set_option maxRecDepth 100000 in
set_option maxHeartbeats 2000000 in
theorem refaget_5 (B : Option Addr) (b : List UInt8) (cb : Nat) (w : World) (hb : Bytes w B b) (hc : b.length ≤ cb) (hcm : cb ≤ 9223372036854775807) (h2 : 2 ≤ b.length) (h : (b.getD 0 0).toNat = 5) :
    Calls Try.prog 121 #[.slice B b.length cb] w fun r w' => GotRA B b r (ag b) ∧ Grow w w' := by
  have HP := hide ((agc_n 5 h2 h (by omega)).trans (agFin_if _ _ _ _))
  rw [show ((5 : Nat) : Int) = 5 from rfl] at HP
  have HG := hide (fun A c W h hn => refagood_any ⟨5, ((b.getD 1 0).toNat : Int), 0, zF⟩ A [] c W h hn)
  generalize actB _ _ = g at *
  generalize ag b = Q at *
  have HP := hide (HP.out.trans (if_neg (by simp)))
  have h9 : b.length ≠ 0 := by omega
  have h0 : (b.length == 0) = false := by simpa using h9
  clear h9
  have h0' : 0 < b.length := by omega
  obtain ⟨bb, oo, hA, hcell0⟩ := hb.get 0 (by omega)
  subst hA
  rw [Nat.add_zero] at hcell0
  have hbb : bb < w.heap.size := World.block_lt_of_cell? w _ hcell0
  obtain ⟨bb1, oo1, hA1, hcell1⟩ := hb.get 1 (by omega)
  obtain ⟨rfl, rfl⟩ : bb = bb1 ∧ oo = oo1 := by simpa using hA1
  clear hA1
  have hbb1 : bb < w.heap.size + 1 := by omega
  have hbb2 : bb < w.heap.size + 1 + 1 := by omega
  have hn0 : ¬ bb = w.heap.size := by omega
  have hn1 : ¬ bb = w.heap.size + 1 := by omega
  have C0 := fun o => Grow.cell' ((Grow.refl w).alloc o) hcell0
  rw [h] at hcell0 C0
  clear h
  have alt1 : (b.getD 1 0).toNat < 256 := u8_lt _
  generalize (b.getD 1 0).toNat = a1 at *
  have hi1 : (1 : Int) < (b.length : Int) := by omega
  have C1 := fun o1 o2 => Grow.cell' (((Grow.refl w).alloc o1).alloc o2) hcell1
  have hs1 : ((b.length : Int) == 1) = false := by simp; omega
  obtain ⟨A2, c2, hsl, hc2, hcm2, hsb⟩ := slice_from (some ⟨bb, oo, none⟩) b cb 2 2 rfl (by omega) hc
  have hd2 : (b.drop 2).length = b.length - 2 := List.length_drop
  have HSL := hide (And.intro hc2 (And.intro (Nat.le_trans hcm2 hcm) hsb))
  clear hsb hc2 hcm2
  simp only [hd2] at hsl
  go_enter Try.func121, Try.ntmps121
  go_wp2_with fail
  refine (HG.out _ _ _ (Bytes.nil _ _) (by decide)).mono ?_
  rintro r w2 ⟨rfl, hb2⟩
  obtain ⟨p0, q0, hg2⟩ := peel2 hb2
  have p0_ := hide p0
  clear p0
  have p0 := p0_
  clear p0_
  have q0_ := hide q0
  clear q0
  have q0 := q0_
  clear q0_
  have HG2 := hide (show Grow w w2 from hg2)
  have hsz2 : w.heap.size ≤ w2.heap.size := HG2.out.size
  have hq2 : w.heap.size ≤ w2.heap.size := hg2.size
  have HS2 := hide hg2
  clear hb2 hg2
  obtain ⟨cp0, fp0, lp0⟩ := (show Box w2 _ _ from p0.out).rules
  obtain ⟨cq0, fq0, lq0⟩ := (show Box w2 _ _ from q0.out).rules
  cases g with
  | false =>
      have HP := hide (HP.out.trans (if_pos rfl))
      go_wp2
      refine bodyPost_ret (v := .tuple #[av ⟨5, (a1 : Int), 0, zF⟩ none 0 0, .slice none 0 0, .int .i64 2]) (by simp [results, Try.results121, go_sem, cp0]) rfl ?_
      rw [HP.out]
      refine ⟨⟨_, _, _, _, none, 0, 0, rfl, fun h => absurd h (by simp)⟩, ?_⟩
      show Below w.heap.size w _
      repeat (first | (with_reducible refine Below.setCell ?_ (by simp; try omega) _) | (with_reducible refine Below.alloc ?_ (by simp; try omega) _))
      exact HG2.out
  | true =>
      have HP := hide (HP.out.trans (if_neg (by decide)))
      go_wp2
      refine bodyPost_ret (v := .tuple #[av ⟨5, (a1 : Int), 0, zF⟩ none 0 0, .slice A2 (b.length - 2) c2, .int .i64 0]) (by simp [results, Try.results121, go_sem, cp0]) rfl ?_
      rw [HP.out]
      refine ⟨⟨_, _, _, _, _, _, _, rfl, fun _ => ⟨hd2.symm, rfl, rfl, Nat.le_refl _, by omega, HSL.out.1, HSL.out.2.1, fun _ _ => Bytes.nil _ _, HSL.out.2.2⟩⟩, ?_⟩
      show Below w.heap.size w _
      repeat (first | (with_reducible refine Below.setCell ?_ (by simp; try omega) _) | (with_reducible refine Below.alloc ?_ (by simp; try omega) _))
      exact HG2.out
set_option maxRecDepth 100000 in
set_option maxHeartbeats 2000000 in
theorem refaget_7 (B : Option Addr) (b : List UInt8) (cb : Nat) (w : World) (hb : Bytes w B b) (hc : b.length ≤ cb) (hcm : cb ≤ 9223372036854775807) (h2 : 2 ≤ b.length) (h : (b.getD 0 0).toNat = 7) :
    Calls Try.prog 121 #[.slice B b.length cb] w fun r w' => GotRA B b r (ag b) ∧ Grow w w' := by
  have HP := hide ((agc_n 7 h2 h (by omega)).trans (agFin_if _ _ _ _))
  rw [show ((7 : Nat) : Int) = 7 from rfl] at HP
  have HG := hide (fun A c W h hn => refagood_any ⟨7, ((b.getD 1 0).toNat : Int), 0, zF⟩ A [] c W h hn)
  generalize actB _ _ = g at *
  generalize ag b = Q at *
  have HP := hide (HP.out.trans (if_neg (by simp)))
  have h9 : b.length ≠ 0 := by omega
  have h0 : (b.length == 0) = false := by simpa using h9
  clear h9
  have h0' : 0 < b.length := by omega
  obtain ⟨bb, oo, hA, hcell0⟩ := hb.get 0 (by omega)
  subst hA
  rw [Nat.add_zero] at hcell0
  have hbb : bb < w.heap.size := World.block_lt_of_cell? w _ hcell0
  obtain ⟨bb1, oo1, hA1, hcell1⟩ := hb.get 1 (by omega)
  obtain ⟨rfl, rfl⟩ : bb = bb1 ∧ oo = oo1 := by simpa using hA1
  clear hA1
  have hbb1 : bb < w.heap.size + 1 := by omega
  have hbb2 : bb < w.heap.size + 1 + 1 := by omega
  have hn0 : ¬ bb = w.heap.size := by omega
  have hn1 : ¬ bb = w.heap.size + 1 := by omega
  have C0 := fun o => Grow.cell' ((Grow.refl w).alloc o) hcell0
  rw [h] at hcell0 C0
  clear h
  have alt1 : (b.getD 1 0).toNat < 256 := u8_lt _
  generalize (b.getD 1 0).toNat = a1 at *
  have hi1 : (1 : Int) < (b.length : Int) := by omega
  have C1 := fun o1 o2 => Grow.cell' (((Grow.refl w).alloc o1).alloc o2) hcell1
  have hs1 : ((b.length : Int) == 1) = false := by simp; omega
  obtain ⟨A2, c2, hsl, hc2, hcm2, hsb⟩ := slice_from (some ⟨bb, oo, none⟩) b cb 2 2 rfl (by omega) hc
  have hd2 : (b.drop 2).length = b.length - 2 := List.length_drop
  have HSL := hide (And.intro hc2 (And.intro (Nat.le_trans hcm2 hcm) hsb))
  clear hsb hc2 hcm2
  simp only [hd2] at hsl
  go_enter Try.func121, Try.ntmps121
  go_wp2_with fail
  refine (HG.out _ _ _ (Bytes.nil _ _) (by decide)).mono ?_
  rintro r w2 ⟨rfl, hb2⟩
  obtain ⟨p0, q0, hg2⟩ := peel2 hb2
  have p0_ := hide p0
  clear p0
  have p0 := p0_
  clear p0_
  have q0_ := hide q0
  clear q0
  have q0 := q0_
  clear q0_
  have HG2 := hide (show Grow w w2 from hg2)
  have hsz2 : w.heap.size ≤ w2.heap.size := HG2.out.size
  have hq2 : w.heap.size ≤ w2.heap.size := hg2.size
  have HS2 := hide hg2
  clear hb2 hg2
  obtain ⟨cp0, fp0, lp0⟩ := (show Box w2 _ _ from p0.out).rules
  obtain ⟨cq0, fq0, lq0⟩ := (show Box w2 _ _ from q0.out).rules
  cases g with
  | false =>
      have HP := hide (HP.out.trans (if_pos rfl))
      go_wp2
      refine bodyPost_ret (v := .tuple #[av ⟨7, (a1 : Int), 0, zF⟩ none 0 0, .slice none 0 0, .int .i64 2]) (by simp [results, Try.results121, go_sem, cp0]) rfl ?_
      rw [HP.out]
      refine ⟨⟨_, _, _, _, none, 0, 0, rfl, fun h => absurd h (by simp)⟩, ?_⟩
      show Below w.heap.size w _
      repeat (first | (with_reducible refine Below.setCell ?_ (by simp; try omega) _) | (with_reducible refine Below.alloc ?_ (by simp; try omega) _))
      exact HG2.out
  | true =>
      have HP := hide (HP.out.trans (if_neg (by decide)))
      go_wp2
      refine bodyPost_ret (v := .tuple #[av ⟨7, (a1 : Int), 0, zF⟩ none 0 0, .slice A2 (b.length - 2) c2, .int .i64 0]) (by simp [results, Try.results121, go_sem, cp0]) rfl ?_
      rw [HP.out]
      refine ⟨⟨_, _, _, _, _, _, _, rfl, fun _ => ⟨hd2.symm, rfl, rfl, Nat.le_refl _, by omega, HSL.out.1, HSL.out.2.1, fun _ _ => Bytes.nil _ _, HSL.out.2.2⟩⟩, ?_⟩
      show Below w.heap.size w _
      repeat (first | (with_reducible refine Below.setCell ?_ (by simp; try omega) _) | (with_reducible refine Below.alloc ?_ (by simp; try omega) _))
      exact HG2.out
set_option maxRecDepth 100000 in
set_option maxHeartbeats 2000000 in
theorem refaget_8 (B : Option Addr) (b : List UInt8) (cb : Nat) (w : World) (hb : Bytes w B b) (hc : b.length ≤ cb) (hcm : cb ≤ 9223372036854775807) (h2 : 2 ≤ b.length) (h : (b.getD 0 0).toNat = 8) :
    Calls Try.prog 121 #[.slice B b.length cb] w fun r w' => GotRA B b r (ag b) ∧ Grow w w' := by
  have HP := hide ((agc_n 8 h2 h (by omega)).trans (agFin_if _ _ _ _))
  rw [show ((8 : Nat) : Int) = 8 from rfl] at HP
  have HG := hide (fun A c W h hn => refagood_any ⟨8, ((b.getD 1 0).toNat : Int), 0, zF⟩ A [] c W h hn)
  generalize actB _ _ = g at *
  generalize ag b = Q at *
  have HP := hide (HP.out.trans (if_neg (by simp)))
  have h9 : b.length ≠ 0 := by omega
  have h0 : (b.length == 0) = false := by simpa using h9
  clear h9
  have h0' : 0 < b.length := by omega
  obtain ⟨bb, oo, hA, hcell0⟩ := hb.get 0 (by omega)
  subst hA
  rw [Nat.add_zero] at hcell0
  have hbb : bb < w.heap.size := World.block_lt_of_cell? w _ hcell0
  obtain ⟨bb1, oo1, hA1, hcell1⟩ := hb.get 1 (by omega)
  obtain ⟨rfl, rfl⟩ : bb = bb1 ∧ oo = oo1 := by simpa using hA1
  clear hA1
  have hbb1 : bb < w.heap.size + 1 := by omega
  have hbb2 : bb < w.heap.size + 1 + 1 := by omega
  have hn0 : ¬ bb = w.heap.size := by omega
  have hn1 : ¬ bb = w.heap.size + 1 := by omega
  have C0 := fun o => Grow.cell' ((Grow.refl w).alloc o) hcell0
  rw [h] at hcell0 C0
  clear h
  have alt1 : (b.getD 1 0).toNat < 256 := u8_lt _
  generalize (b.getD 1 0).toNat = a1 at *
  have hi1 : (1 : Int) < (b.length : Int) := by omega
  have C1 := fun o1 o2 => Grow.cell' (((Grow.refl w).alloc o1).alloc o2) hcell1
  have hs1 : ((b.length : Int) == 1) = false := by simp; omega
  obtain ⟨A2, c2, hsl, hc2, hcm2, hsb⟩ := slice_from (some ⟨bb, oo, none⟩) b cb 2 2 rfl (by omega) hc
  have hd2 : (b.drop 2).length = b.length - 2 := List.length_drop
  have HSL := hide (And.intro hc2 (And.intro (Nat.le_trans hcm2 hcm) hsb))
  clear hsb hc2 hcm2
  simp only [hd2] at hsl
  go_enter Try.func121, Try.ntmps121
  go_wp2_with fail
  refine (HG.out _ _ _ (Bytes.nil _ _) (by decide)).mono ?_
  rintro r w2 ⟨rfl, hb2⟩
  obtain ⟨p0, q0, hg2⟩ := peel2 hb2
  have p0_ := hide p0
  clear p0
  have p0 := p0_
  clear p0_
  have q0_ := hide q0
  clear q0
  have q0 := q0_
  clear q0_
  have HG2 := hide (show Grow w w2 from hg2)
  have hsz2 : w.heap.size ≤ w2.heap.size := HG2.out.size
  have hq2 : w.heap.size ≤ w2.heap.size := hg2.size
  have HS2 := hide hg2
  clear hb2 hg2
  obtain ⟨cp0, fp0, lp0⟩ := (show Box w2 _ _ from p0.out).rules
  obtain ⟨cq0, fq0, lq0⟩ := (show Box w2 _ _ from q0.out).rules
  cases g with
  | false =>
      have HP := hide (HP.out.trans (if_pos rfl))
      go_wp2
      refine bodyPost_ret (v := .tuple #[av ⟨8, (a1 : Int), 0, zF⟩ none 0 0, .slice none 0 0, .int .i64 2]) (by simp [results, Try.results121, go_sem, cp0]) rfl ?_
      rw [HP.out]
      refine ⟨⟨_, _, _, _, none, 0, 0, rfl, fun h => absurd h (by simp)⟩, ?_⟩
      show Below w.heap.size w _
      repeat (first | (with_reducible refine Below.setCell ?_ (by simp; try omega) _) | (with_reducible refine Below.alloc ?_ (by simp; try omega) _))
      exact HG2.out
  | true =>
      have HP := hide (HP.out.trans (if_neg (by decide)))
      go_wp2
      refine bodyPost_ret (v := .tuple #[av ⟨8, (a1 : Int), 0, zF⟩ none 0 0, .slice A2 (b.length - 2) c2, .int .i64 0]) (by simp [results, Try.results121, go_sem, cp0]) rfl ?_
      rw [HP.out]
      refine ⟨⟨_, _, _, _, _, _, _, rfl, fun _ => ⟨hd2.symm, rfl, rfl, Nat.le_refl _, by omega, HSL.out.1, HSL.out.2.1, fun _ _ => Bytes.nil _ _, HSL.out.2.2⟩⟩, ?_⟩
      show Below w.heap.size w _
      repeat (first | (with_reducible refine Below.setCell ?_ (by simp; try omega) _) | (with_reducible refine Below.alloc ?_ (by simp; try omega) _))
      exact HG2.out
set_option maxRecDepth 100000 in
set_option maxHeartbeats 2000000 in
theorem refaget_2 (B : Option Addr) (b : List UInt8) (cb : Nat) (w : World) (hb : Bytes w B b) (hc : b.length ≤ cb) (hcm : cb ≤ 9223372036854775807) (h2 : 2 ≤ b.length) (h : (b.getD 0 0).toNat = 2) :
    Calls Try.prog 121 #[.slice B b.length cb] w fun r w' => GotRA B b r (ag b) ∧ Grow w w' := by
  have HP := hide (agc_2 h2 h)
  have h9 : b.length ≠ 0 := by omega
  have h0 : (b.length == 0) = false := by simpa using h9
  clear h9
  have h0' : 0 < b.length := by omega
  obtain ⟨bb, oo, hA, hcell0⟩ := hb.get 0 (by omega)
  subst hA
  rw [Nat.add_zero] at hcell0
  have hbb : bb < w.heap.size := World.block_lt_of_cell? w _ hcell0
  obtain ⟨bb1, oo1, hA1, hcell1⟩ := hb.get 1 (by omega)
  obtain ⟨rfl, rfl⟩ : bb = bb1 ∧ oo = oo1 := by simpa using hA1
  clear hA1
  have hbb1 : bb < w.heap.size + 1 := by omega
  have hbb2 : bb < w.heap.size + 1 + 1 := by omega
  have hn0 : ¬ bb = w.heap.size := by omega
  have hn1 : ¬ bb = w.heap.size + 1 := by omega
  have C0 := fun o => Grow.cell' ((Grow.refl w).alloc o) hcell0
  rw [h] at hcell0 C0
  clear h
  have alt1 : (b.getD 1 0).toNat < 256 := u8_lt _
  generalize (b.getD 1 0).toNat = a1 at *
  have hi1 : (1 : Int) < (b.length : Int) := by omega
  have C1 := fun o1 o2 => Grow.cell' (((Grow.refl w).alloc o1).alloc o2) hcell1
  have hs1 : ((b.length : Int) == 1) = false := by simp; omega
  obtain ⟨A2, c2, hsl, hc2, hcm2, hsb⟩ := slice_from (some ⟨bb, oo, none⟩) b cb 2 2 rfl (by omega) hc
  have hd2 : (b.drop 2).length = b.length - 2 := List.length_drop
  have HN := hide (fun W h => refgetnum_any A2 (b.drop 2) c2 W h hc2 (by omega))
  have hul := Buf.getNum_lt (b.drop 2)
  simp only [hd2] at HN hsl
  generalize Buf.getNum (b.drop 2) = F at *
  obtain ⟨u, rest, e⟩ := F
  dsimp only at HP HN hul
  have HP := hide (HP.out.trans (agFin_if _ _ _ _))
  have HG := hide (fun A c W h hn => refagood_any ⟨2, (a1 : Int), zagI u, zF⟩ A [] c W h hn)
  generalize actB _ _ = g at *
  generalize ag b = Q at *
  go_enter Try.func121, Try.ntmps121
  go_wp2_with fail
  refine (HN.out _ (hsb _ ((hb.alloc _).alloc _))).mono ?_
  rintro r w2 ⟨⟨A7, c7, rfl, hc7, hcm7, hr7⟩, hb2⟩
  obtain ⟨p0, q0, hg2⟩ := peel2 hb2
  have p0_ := hide p0
  clear p0
  have p0 := p0_
  clear p0_
  have q0_ := hide q0
  clear q0
  have q0 := q0_
  clear q0_
  have HG2 := hide (show Grow w w2 from hg2)
  have hsz2 : w.heap.size ≤ w2.heap.size := HG2.out.size
  have hq2 : w.heap.size ≤ w2.heap.size := hg2.size
  have HS2 := hide hg2
  clear hb2 hg2
  obtain ⟨cp0, fp0, lp0⟩ := (show Box w2 _ _ from p0.out).rules
  obtain ⟨cq0, fq0, lq0⟩ := (show Box w2 _ _ from q0.out).rules
  by_cases he : e = 0
  rotate_left
  · have hne := hide he
    have he' : (e != 0) = true := by simpa using he
    have HP := hide (HP.out.trans (if_pos he))
    clear he
    go_wp2
    refine bodyPost_ret (v := .tuple #[av ⟨2, (a1 : Int), 0, zF⟩ none 0 0, .slice none 0 0, .int .i64 e]) (by simp [results, Try.results121, go_sem, cp0]) rfl ?_
    rw [HP.out]
    refine ⟨⟨_, _, _, _, none, 0, 0, rfl, fun h => absurd h hne.out⟩, ?_⟩
    show Below w.heap.size w _
    repeat (first | (with_reducible refine Below.setCell ?_ (by simp; try omega) _) | (with_reducible refine Below.alloc ?_ (by simp; try omega) _))
    exact HG2.out
  subst he
  have HP := hide (HP.out.trans (if_neg (by simp)))
  have HSL := hide (And.intro hc7 (And.intro hcm7 (fun W hW => hr7 W (hsb W hW))))
  clear hc7 hcm7 hr7
  have HZ := hide (fun W => rzag46_any u W hul)
  go_wp2_with fail
  refine (HZ.out _).mono ?_
  rintro r w' ⟨rfl, rfl⟩
  go_wp2_with fail
  clear cp0 fp0 lp0 cq0 fq0 lq0
  generalize hW3 : World.setCell w2 _ _ = w3
  have n3 := Box.store1 (show Box w2 _ _ from q0.out) hW3
  simp only [List.setIfInBounds_toArray, List.set_cons_zero, List.set_cons_succ] at n3
  have p0_ := hide (Box.keep_ne (show Box w2 _ _ from p0.out) hW3 (by simp <;> omega))
  clear p0
  have p0 := p0_
  clear p0_
  have HG3 := hide (Grow.store1 (show Grow w w2 from HG2.out) hW3 (by simp <;> omega))
  clear HG2
  have hsz3 : w.heap.size ≤ w3.heap.size := HG3.out.size
  have hq3 : w2.heap.size ≤ w3.heap.size := by rw [← hW3]; simp [World.setCell]
  clear hW3
  have q0_ := hide n3
  clear n3 q0
  have q0 := q0_
  clear q0_
  obtain ⟨cp0, fp0, lp0⟩ := (show Box w3 _ _ from p0.out).rules
  obtain ⟨cq0, fq0, lq0⟩ := (show Box w3 _ _ from q0.out).rules
  refine (HG.out _ _ _ (Bytes.nil _ _) (by decide)).mono ?_
  rintro r w4 ⟨rfl, hb4⟩
  clear cp0 fp0 lp0 cq0 fq0 lq0
  have hg4 := hb4
  have p0_ := hide ((show Box w3 _ _ from p0.out).grow hg4)
  clear p0
  have p0 := p0_
  clear p0_
  have q0_ := hide ((show Box w3 _ _ from q0.out).grow hg4)
  clear q0
  have q0 := q0_
  clear q0_
  have HG4 := hide (Grow.trans (show Grow w w3 from HG3.out) hg4)
  clear HG3
  have hsz4 : w.heap.size ≤ w4.heap.size := HG4.out.size
  have hq4 : w3.heap.size ≤ w4.heap.size := hg4.size
  have HS4 := hide hg4
  clear hb4 hg4
  obtain ⟨cp0, fp0, lp0⟩ := (show Box w4 _ _ from p0.out).rules
  obtain ⟨cq0, fq0, lq0⟩ := (show Box w4 _ _ from q0.out).rules
  cases g with
  | false =>
      have HP := hide (HP.out.trans (if_pos rfl))
      go_wp2
      refine bodyPost_ret (v := .tuple #[av ⟨2, (a1 : Int), zagI u, zF⟩ none 0 0, .slice none 0 0, .int .i64 2]) (by simp [results, Try.results121, go_sem, cp0]) rfl ?_
      rw [HP.out]
      refine ⟨⟨_, _, _, _, none, 0, 0, rfl, fun h => absurd h (by simp)⟩, ?_⟩
      show Below w.heap.size w _
      repeat (first | (with_reducible refine Below.setCell ?_ (by simp; try omega) _) | (with_reducible refine Below.alloc ?_ (by simp; try omega) _))
      exact HG4.out
  | true =>
      have HP := hide (HP.out.trans (if_neg (by decide)))
      go_wp2
      refine bodyPost_ret (v := .tuple #[av ⟨2, (a1 : Int), zagI u, zF⟩ none 0 0, .slice A7 rest.length c7, .int .i64 0]) (by simp [results, Try.results121, go_sem, cp0]) rfl ?_
      rw [HP.out]
      refine ⟨⟨_, _, _, _, _, _, _, rfl, fun _ => ⟨rfl, rfl, rfl, Nat.le_refl _, by omega, HSL.out.1, HSL.out.2.1, fun _ _ => Bytes.nil _ _, HSL.out.2.2⟩⟩, ?_⟩
      show Below w.heap.size w _
      repeat (first | (with_reducible refine Below.setCell ?_ (by simp; try omega) _) | (with_reducible refine Below.alloc ?_ (by simp; try omega) _))
      exact HG4.out
set_option maxRecDepth 100000 in
set_option maxHeartbeats 2000000 in
theorem refaget_6 (B : Option Addr) (b : List UInt8) (cb : Nat) (w : World) (hb : Bytes w B b) (hc : b.length ≤ cb) (hcm : cb ≤ 9223372036854775807) (h2 : 2 ≤ b.length) (h : (b.getD 0 0).toNat = 6) :
    Calls Try.prog 121 #[.slice B b.length cb] w fun r w' => GotRA B b r (ag b) ∧ Grow w w' := by
  have HP := hide (agc_6 h2 h)
  have hmost : (Buf.getBytes (b.drop 2) 1024).1.length ≤ 1024 := rbytes_most (b.drop 2, 0)
  have h9 : b.length ≠ 0 := by omega
  have h0 : (b.length == 0) = false := by simpa using h9
  clear h9
  have h0' : 0 < b.length := by omega
  obtain ⟨bb, oo, hA, hcell0⟩ := hb.get 0 (by omega)
  subst hA
  rw [Nat.add_zero] at hcell0
  have hbb : bb < w.heap.size := World.block_lt_of_cell? w _ hcell0
  obtain ⟨bb1, oo1, hA1, hcell1⟩ := hb.get 1 (by omega)
  obtain ⟨rfl, rfl⟩ : bb = bb1 ∧ oo = oo1 := by simpa using hA1
  clear hA1
  have hbb1 : bb < w.heap.size + 1 := by omega
  have hbb2 : bb < w.heap.size + 1 + 1 := by omega
  have hn0 : ¬ bb = w.heap.size := by omega
  have hn1 : ¬ bb = w.heap.size + 1 := by omega
  have C0 := fun o => Grow.cell' ((Grow.refl w).alloc o) hcell0
  rw [h] at hcell0 C0
  clear h
  have alt1 : (b.getD 1 0).toNat < 256 := u8_lt _
  generalize (b.getD 1 0).toNat = a1 at *
  have hi1 : (1 : Int) < (b.length : Int) := by omega
  have C1 := fun o1 o2 => Grow.cell' (((Grow.refl w).alloc o1).alloc o2) hcell1
  have hs1 : ((b.length : Int) == 1) = false := by simp; omega
  obtain ⟨A2, c2, hsl, hc2, hcm2, hsb⟩ := slice_from (some ⟨bb, oo, none⟩) b cb 2 2 rfl (by omega) hc
  have hd2 : (b.drop 2).length = b.length - 2 := List.length_drop
  have HN := hide (fun W h => refgetbytes_any A2 (b.drop 2) c2 1024 W h hc2 (by omega) (by decide))
  simp only [hd2] at HN hsl
  generalize Buf.getBytes (b.drop 2) 1024 = F at *
  obtain ⟨t, rest, e⟩ := F
  dsimp only at HP HN hmost
  have HP := hide (HP.out.trans (agFin_if _ _ _ _))
  have HG := hide (fun A c W h hn => refagood_any ⟨6, (a1 : Int), 0, zF⟩ A t c W h hn)
  generalize actB _ _ = g at *
  generalize ag b = Q at *
  go_enter Try.func121, Try.ntmps121
  go_wp2_with fail
  refine (HN.out _ (hsb _ ((hb.alloc _).alloc _))).mono ?_
  rintro r w2 ⟨⟨At, ct, A7, c7, rfl, hct, hctm, hc7, hcm7, hbt, hr7⟩, hb2⟩
  obtain ⟨p0, q0, hg2⟩ := peel2 hb2
  have p0_ := hide p0
  clear p0
  have p0 := p0_
  clear p0_
  have q0_ := hide q0
  clear q0
  have q0 := q0_
  clear q0_
  have HG2 := hide (show Grow w w2 from hg2)
  have hsz2 : w.heap.size ≤ w2.heap.size := HG2.out.size
  have hq2 : w.heap.size ≤ w2.heap.size := hg2.size
  have HS2 := hide hg2
  clear hb2 hg2
  obtain ⟨cp0, fp0, lp0⟩ := (show Box w2 _ _ from p0.out).rules
  obtain ⟨cq0, fq0, lq0⟩ := (show Box w2 _ _ from q0.out).rules
  by_cases he : e = 0
  rotate_left
  · have hne := hide he
    have he' : (e != 0) = true := by simpa using he
    have HP := hide (HP.out.trans (if_pos he))
    clear he
    go_wp2
    refine bodyPost_ret (v := .tuple #[av ⟨6, (a1 : Int), 0, zF⟩ none 0 0, .slice none 0 0, .int .i64 e]) (by simp [results, Try.results121, go_sem, cp0]) rfl ?_
    rw [HP.out]
    refine ⟨⟨_, _, _, _, none, 0, 0, rfl, fun h => absurd h hne.out⟩, ?_⟩
    show Below w.heap.size w _
    repeat (first | (with_reducible refine Below.setCell ?_ (by simp; try omega) _) | (with_reducible refine Below.alloc ?_ (by simp; try omega) _))
    exact HG2.out
  subst he
  have HP := hide (HP.out.trans (if_neg (by simp)))
  go_wp2_with fail
  clear cp0 fp0 lp0 cq0 fq0 lq0
  generalize hW3 : World.setCell w2 _ _ = w3
  have n3 := Box.store1 (show Box w2 _ _ from q0.out) hW3
  simp only [List.setIfInBounds_toArray, List.set_cons_zero, List.set_cons_succ] at n3
  have p0_ := hide (Box.keep_ne (show Box w2 _ _ from p0.out) hW3 (by simp <;> omega))
  clear p0
  have p0 := p0_
  clear p0_
  have HG3 := hide (Grow.store1 (show Grow w w2 from HG2.out) hW3 (by simp <;> omega))
  clear HG2
  have hsz3 : w.heap.size ≤ w3.heap.size := HG3.out.size
  have hq3 : w2.heap.size ≤ w3.heap.size := by rw [← hW3]; simp [World.setCell]
  clear hW3
  have q0_ := hide n3
  clear n3 q0
  have q0 := q0_
  clear q0_
  obtain ⟨cp0, fp0, lp0⟩ := (show Box w3 _ _ from p0.out).rules
  obtain ⟨cq0, fq0, lq0⟩ := (show Box w3 _ _ from q0.out).rules
  have hbt3 := hbt _ (hsb _ (hb.grow HG3.out))
  refine (HG.out _ _ _ hbt3 (by omega)).mono ?_
  rintro r w4 ⟨rfl, hb4⟩
  clear cp0 fp0 lp0 cq0 fq0 lq0
  have hg4 := hb4
  have p0_ := hide ((show Box w3 _ _ from p0.out).grow hg4)
  clear p0
  have p0 := p0_
  clear p0_
  have q0_ := hide ((show Box w3 _ _ from q0.out).grow hg4)
  clear q0
  have q0 := q0_
  clear q0_
  have HG4 := hide (Grow.trans (show Grow w w3 from HG3.out) hg4)
  clear HG3
  have hsz4 : w.heap.size ≤ w4.heap.size := HG4.out.size
  have hq4 : w3.heap.size ≤ w4.heap.size := hg4.size
  have HS4 := hide hg4
  clear hb4 hg4
  obtain ⟨cp0, fp0, lp0⟩ := (show Box w4 _ _ from p0.out).rules
  obtain ⟨cq0, fq0, lq0⟩ := (show Box w4 _ _ from q0.out).rules
  cases g with
  | false =>
      have HP := hide (HP.out.trans (if_pos rfl))
      go_wp2
      refine bodyPost_ret (v := .tuple #[av ⟨6, (a1 : Int), 0, zF⟩ At t.length ct, .slice none 0 0, .int .i64 2]) (by simp [results, Try.results121, go_sem, cp0]) rfl ?_
      rw [HP.out]
      refine ⟨⟨_, _, _, _, none, 0, 0, rfl, fun h => absurd h (by simp)⟩, ?_⟩
      show Below w.heap.size w _
      repeat (first | (with_reducible refine Below.setCell ?_ (by simp; try omega) _) | (with_reducible refine Below.alloc ?_ (by simp; try omega) _))
      exact HG4.out
  | true =>
      have HP := hide (HP.out.trans (if_neg (by decide)))
      go_wp2
      refine bodyPost_ret (v := .tuple #[av ⟨6, (a1 : Int), 0, zF⟩ At t.length ct, .slice A7 rest.length c7, .int .i64 0]) (by simp [results, Try.results121, go_sem, cp0]) rfl ?_
      rw [HP.out]
      refine ⟨⟨_, _, _, _, _, _, _, rfl, fun _ => ⟨rfl, rfl, rfl, hct, hctm, hc7, hcm7, fun W hW => hbt W (hsb W hW), fun W hW => hr7 W (hsb W hW)⟩⟩, ?_⟩
      show Below w.heap.size w _
      repeat (first | (with_reducible refine Below.setCell ?_ (by simp; try omega) _) | (with_reducible refine Below.alloc ?_ (by simp; try omega) _))
      exact HG4.out
theorem refaget_any (B : Option Addr) (b : List UInt8) (cb : Nat) (w : World) (hb : Bytes w B b) (hc : b.length ≤ cb) (hcm : cb ≤ 9223372036854775807) :
    Calls Try.prog 121 #[.slice B b.length cb] w fun r w' => GotRA B b r (ag b) ∧ Grow w w' := by
  by_cases h0 : b.length = 0
  · exact refaget_nil B b cb w hb hc hcm h0
  by_cases hk : (b.getD 0 0).toNat < 1 ∨ 8 < (b.getD 0 0).toNat
  · exact refaget_kind B b cb w hb hc hcm (by omega) hk
  by_cases h3 : (b.getD 0 0).toNat = 3
  · exact refaget_3 B b cb w hb hc hcm (by omega) h3
  by_cases h1 : b.length = 1
  · exact refaget_s B b cb w hb hc hcm h1 (by omega) (by omega) h3
  have hc2 : (b.getD 0 0).toNat = 1 ∨ (b.getD 0 0).toNat = 2 ∨ (b.getD 0 0).toNat = 4 ∨ (b.getD 0 0).toNat = 5 ∨ (b.getD 0 0).toNat = 6 ∨ (b.getD 0 0).toNat = 7 ∨ (b.getD 0 0).toNat = 8 := by omega
  rcases hc2 with k | k | k | k | k | k | k
  · exact refaget_1 B b cb w hb hc hcm (by omega) k
  · exact refaget_2 B b cb w hb hc hcm (by omega) k
  · exact refaget_4 B b cb w hb hc hcm (by omega) k
  · exact refaget_5 B b cb w hb hc hcm (by omega) k
  · exact refaget_6 B b cb w hb hc hcm (by omega) k
  · exact refaget_7 B b cb w hb hc hcm (by omega) k
  · exact refaget_8 B b cb w hb hc hcm (by omega) k
end Go.Proofs.Ytcghgahohmabnaa
