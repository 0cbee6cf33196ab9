/- snap.Encode (chapter 41). -/
import Derived.Test.YtbccbfmgjeknhaaLk
namespace Go.Proofs.Ytbccbfmgjeknhaa
open Go.RowKit
/-- a state's bytes -/
def stBytes (s : St) (N : Nat) : List UInt8 := Buf.sevens s.no.toNat ++ Buf.fixed s.set 8 ++ lgBytes s.l N
def encS (s : St) (n : Int) : List UInt8 × Int := if goodB s n then (stBytes s n.toNat, 0) else ([], 1)
theorem Below.of_foot {w0 wi wj : World} {p : Nat} {Ai : Option Addr} (hg : Grow w0 wi) (hp : w0.heap.size ≤ p) (hA : ∀ q, blk Ai = some q → w0.heap.size ≤ q) (hk : Kept wi.heap.size (foot p Ai) wi wj) : Grow w0 wj :=
  Below.trans hg (Kept.to_below (hk.mono hg.size (fun q hq hm => by
    rcases List.mem_cons.1 hm with h | h
    · omega
    · have := hA q (by simpa using h); omega)))
theorem wput_ok2 (most : Int) (b l : List UInt8) (h : (b.length : Int) + l.length ≤ most) : Buf.wput most (0, b) l = (0, b ++ l) := by
  unfold Buf.wput
  rw [if_neg (by simp), if_neg (by show ¬ most - (b.length : Int) < (l.length : Int); omega)]
theorem good_parts (s : St) (n : Int) (h : goodB s n = true) : ∃ N : Nat, n = (N : Int) ∧ 1 ≤ N ∧ N ≤ 64 ∧ 0 ≤ s.no ∧ s.no ≤ 1152921504606846976 ∧ s.set < 2 ^ N ∧ sumsB s.l N = true := by
  unfold goodB manyB at h
  simp only [Bool.and_eq_true, decide_eq_true_eq] at h
  obtain ⟨⟨h1, h2⟩, h3, h4, h5, h6⟩ := h
  have e : n = (n.toNat : Int) := by omega
  refine ⟨n.toNat, e, by omega, by omega, h3, h4, h5, h6⟩
theorem sums_parts (l : Lg) (N : Nat) (h : sumsB l N = true) : (l.of.drop N).all (· == 0) = true ∧ 0 ≤ l.count ∧ l.count = (l.of.sum : Int) := by
  unfold sumsB at h
  simp only [Bool.and_eq_true, decide_eq_true_eq, beq_iff_eq] at h
  exact ⟨h.1, h.2.1, h.2.2⟩
set_option maxRecDepth 100000 in
set_option maxHeartbeats 4000000 in
theorem sencode_any (s : St) (n : Int) (w : World) (h : s.Ok) : Calls Try.prog 17 #[.agg (scs s).toArray, .int .i64 n] w fun r w' => (∃ A' c', r = .returned (.tuple #[.slice A' (encS s n).1.length c', .int .i64 (encS s n).2]) ∧ Own w' w.heap.size A' c' (encS s n).1) ∧ Grow w w' := by
  have hbx := Box.new w (scs s).toArray 42 rfl
  have hra0 : (w.alloc (.cells (scs s).toArray 42)).rangeAt w.heap.size 0 (scs s) := range_of hbx _ (fun j v hj => by rw [Nat.zero_add, List.getElem?_toArray]; exact hj)
  have hra := hide (range_of hbx _ (scs_l s))
  have hsz0 : (Try.prog.info? 42).map (·.size) = some (scs s).length := by rw [scs_len s h]; kernel_rfl
  have hszL : (Try.prog.info? 34).map (·.size) = some (lcs s.l).length := by rw [lcs_len s.l h.l]; kernel_rfl
  have hra0 := hide hra0
  have hsz0 := hide hsz0
  have hszL := hide hszL
  have hG := hide (fun W => good_any s n W h)
  have hc0 : (w.alloc (.cells (scs s).toArray 42)).cell? ⟨w.heap.size, 0, none⟩ = some (.int .i64 s.no) := hbx.cell 0
  have hc1 : (w.alloc (.cells (scs s).toArray 42)).cell? ⟨w.heap.size, 1, none⟩ = some (.int .u64 (s.set : Int)) := hbx.cell 1
  have hg := (Grow.refl w).alloc (.cells (scs s).toArray 42)
  have hE := hide (show encS s n = if goodB s n then (stBytes s n.toNat, 0) else ([], 1) from rfl)
  have hgp := hide (good_parts s n)
  have hc0 := hide hc0
  have hc1 := hide hc1
  have hOk := hide h
  have hset := h.set
  clear h hbx
  generalize hCd : scs s = C at *
  clear hCd
  generalize hSBd : stBytes s n.toNat = SB at *
  have hSBd := hide hSBd
  generalize goodB s n = b at *
  generalize encS s n = E at *
  generalize hW : w.alloc (.cells C.toArray 42) = w1 at *
  go_enter Try.func17, Try.ntmps17
  go_wp2_with (refine wpList_load_mid rfl 42 (.tmp 2) rfl w.heap.size 0 rfl C _ hra0.out Try.underlying42 rfl hsz0.out ?_)
  clear hW
  go_wp2_with fail
  refine (hG.out _).mono ?_
  rintro r0 w2 ⟨rfl, hg12⟩
  have hg2 := Grow.trans hg hg12
  clear hG
  cases b with
  | false =>
    have he : E = ([], 1) := hE.out
    subst he
    go_wp2
    refine bodyPost_ret (results_tmp2 rfl _ _ _) rfl ?_
    exact ⟨⟨none, 0, rfl, Own.nil_ _ _⟩, hg2⟩
  | true =>
    have he : E = (SB, 0) := hE.out
    subst he
    obtain ⟨N, rfl, hN1, hN64, hno0, hno1, _, hsm⟩ := hgp.out rfl
    obtain ⟨_, hcnt, _⟩ := sums_parts s.l N hsm
    have hSB : Hid (SB = Buf.sevens s.no.toNat ++ Buf.fixed s.set 8 ++ lgBytes s.l N) := hide (by rw [← hSBd.out, Int.toNat_natCast]; rfl)
    have hlgl := lgBytes_len s.l N hOk.out.l hN64
    have hLP := hide (fun (B p : Nat) (A : Option Addr) (c : Nat) (b : List UInt8) (W : World) (hw : Wr W B p A c 0 b 400) (hb : b.length ≤ 50) (hB : B ≤ W.heap.size) => lput_any B p A c b 400 s.l N W hw hOk.out.l hcnt hN64 (by omega) (by omega) hB)
    obtain ⟨no, hno⟩ := Int.eq_ofNat_of_zero_le hno0
    rw [hno] at hc0 hSB
    rw [Int.toNat_natCast] at hSB
    have hnox : no < 18446744073709551616 := by omega
    generalize lgBytes s.l N = LB at *
    generalize s.set = st at *
    clear hE hgp hno hsm hSBd hcnt hno0 hno1 hOk
    generalize lcs s.l = D at *
    have hsl := Buf.sevens_len no
    go_wp2_with fail
    refine (new_any 400 w2 (by decide)).mono ?_
    rintro r0 w3 ⟨rfl, hw3, hg23⟩
    rw [show max (400 : Int) 0 = 400 by decide] at hw3
    have hg23 : Grow w2 w3 := hg23
    have hg13 := Grow.trans hg12 hg23
    obtain ⟨p, hp⟩ : ∃ p, Hid (p = w2.heap.size) := ⟨_, hide rfl⟩
    rw [← hp.out] at hw3 ⊢
    have hs3 := hg23.size
    have hc03 := Grow.cell' hg13 hc0.out
    have HN := hide (num_any p p none 0 0 [] 400 no w3 hw3 (hide hnox) (by simp) (by have := hp.out; omega))
    rw [wput_ok2 400 [] _ (by simp; omega), List.nil_append] at HN
    clear hw3
    go_wp2_with fail
    refine HN.out.mono ?_
    rintro r0 w4 ⟨rfl, A4, c4, hw4, hk4, hor4⟩
    dsimp only at hw4
    have hg24 : Grow w2 w4 := Below.of_foot hg23 (by have := hp.out; omega) (by simp [blk]) hk4
    have hA4 : ∀ q, blk A4 = some q → w2.heap.size ≤ q := fun q hq => by have := hw4.own.base hq; have := hp.out; omega
    have hg14 := Grow.trans hg12 hg24
    have hc14 := Grow.cell' hg14 hc1.out
    have HF := hide (fixed_any p p A4 c4 0 _ 400 st 8 w4 hw4 (by omega) (by have := hg24.size; have := hp.out; omega))
    rw [show (8 : Int) = ((8 : Nat) : Int) from rfl, wfixed_ok 400 _ st 8 (by omega) (by omega) (by omega)] at HF
    have HF := hide (show Calls Try.prog 41 #[.pointer (some ⟨p, 0, none⟩), .int .u64 st, .int .i64 8] w4 _ from HF.out)
    have hwp4 := hide hw4
    clear HN hc03 hk4 hor4 hw4
    go_wp2_with fail
    refine HF.out.mono ?_
    rintro r0 w5 ⟨rfl, A5, c5, hw5, hk5, hor5⟩
    dsimp only at hw5
    have hg25 : Grow w2 w5 := Below.of_foot hg24 (by have := hp.out; omega) hA4 hk5
    have hA5 : ∀ q, blk A5 = some q → w2.heap.size ≤ q := fun q hq => by have := hw5.own.base hq; have := hp.out; omega
    have hg15 := Grow.trans hg12 hg25
    have hra5 := hide (fun (j : Nat) v (hj : D[j]? = some v) => Grow.cell' hg15 (hra.out j v hj))
    have h8l := Buf.fixed_length 8 st
    have HP := hide (hLP.out p p A5 c5 _ w5 hw5 (by rw [List.length_append]; omega) (by have := hg25.size; have := hp.out; omega))
    clear HF hc14 hk5 hor5 hw5 hwp4
    go_wp2_with (refine wpList_load_mid rfl 34 (.tmp 22) rfl w.heap.size 2 rfl D _ hra5.out Try.underlying34 rfl hszL.out ?_)
    go_wp2_with fail
    refine HP.out.mono ?_
    rintro r0 w6 ⟨rfl, A6, c6, hw6, hk6, hor6⟩
    dsimp only at hw6
    rw [← hSB.out] at hw6
    have hg26 : Grow w2 w6 := Below.of_foot hg25 (by have := hp.out; omega) hA5 hk6
    have hgw6 := Grow.trans hg2 hg26
    have hSBl : SB.length ≤ 400 := by
      rw [hSB.out, List.length_append, List.length_append]
      omega
    have HD := hide (done_ok p p A6 c6 SB 400 w6 hw6 (by omega))
    clear HP hk6 hor6 hw6 hra5
    go_wp2_with fail
    refine HD.out.mono ?_
    rintro r0 w7 ⟨A7, c7, rfl, hown7, hg7⟩
    go_wp2
    refine bodyPost_ret (results_tmp2 rfl _ _ _) rfl ?_
    exact ⟨⟨A7, c7, rfl, hown7.mono hgw6.size⟩, Grow.trans hgw6 hg7⟩
end Go.Proofs.Ytbccbfmgjeknhaa
