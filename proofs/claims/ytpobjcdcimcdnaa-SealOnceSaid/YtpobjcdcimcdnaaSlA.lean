/- Frames: the plain law, the walks of seal.Good, seal.put, seal.Encode, seal.Size and of their document. -/
import Derived.Test.YtpobjcdcimcdnaaFewS
import Derived.Test.YtpobjcdcimcdnaaPulS
import Derived.Test.YtpobjcdcimcdnaaDatS
import Derived.Test.YtpobjcdcimcdnaaPlsS
import Derived.Test.YtpobjcdcimcdnaaPlpS
import Derived.Test.YtpobjcdcimcdnaaChkR
import Derived.Test.YtpobjcdcimcdnaaHdL
import Derived.Test.YtpobjcdcimcdnaaChkK
import Derived.Test.YtpobjcdcimcdnaaFewC
import Derived.Test.YtpobjcdcimcdnaaAtdS
namespace Go.Proofs.Ytpobjcdcimcdnaa
open Go.RowKit
/-- whether a packet may be, by its kind -/
def sealB (p : Pkt) (l : List UInt8) : Bool := pulseB p l || (dataB p l.length || (attB p l || chunkB p l.length))
theorem data_kind (p : Pkt) (n : Nat) (h : dataB p n = true) : p.kind = 4 := by simp [dataB] at h; exact h.1.1.1
theorem att_kind (p : Pkt) (l : List UInt8) (h : attB p l = true) : p.kind = 5 := by
  unfold attB at h
  simp only [Bool.and_eq_true, sameB, restB, beq_iff_eq] at h
  exact h.1.1.1.1.1.1.1.1.1.1.1
theorem chunk_kind (p : Pkt) (n : Nat) (h : chunkB p n = true) : p.kind = 6 := by simp [chunkB] at h; exact h.1.1
theorem pulse_no (p : Pkt) (l : List UInt8) (h : ¬ (p.kind = 1 ∨ p.kind = 2 ∨ p.kind = 3)) : pulseB p l = false := by
  cases hh : pulseB p l with
  | false => rfl
  | true => exact absurd (pulse_kind p l hh).1 h
theorem data_no (p : Pkt) (n : Nat) (h : p.kind ≠ 4) : dataB p n = false := by
  cases hh : dataB p n with
  | false => rfl
  | true => exact absurd (data_kind p n hh) h
theorem att_no (p : Pkt) (l : List UInt8) (h : p.kind ≠ 5) : attB p l = false := by
  cases hh : attB p l with
  | false => rfl
  | true => exact absurd (att_kind p l hh) h
theorem chunk_no (p : Pkt) (n : Nat) (h : p.kind ≠ 6) : chunkB p n = false := by
  cases hh : chunkB p n with
  | false => rfl
  | true => exact absurd (chunk_kind p n hh) h
theorem sealB_pulse (p : Pkt) (l : List UInt8) (h : p.kind = 1 ∨ p.kind = 2 ∨ p.kind = 3) : sealB p l = pulseB p l := by
  unfold sealB
  rw [data_no p _ (by omega), att_no p _ (by omega), chunk_no p _ (by omega)]
  simp
theorem sealB_data (p : Pkt) (l : List UInt8) (h : p.kind = 4) : sealB p l = dataB p l.length := by
  unfold sealB
  rw [pulse_no p _ (by omega), att_no p _ (by omega), chunk_no p _ (by omega)]
  simp
theorem sealB_att (p : Pkt) (l : List UInt8) (h : p.kind = 5) : sealB p l = attB p l := by
  unfold sealB
  rw [pulse_no p _ (by omega), data_no p _ (by omega), chunk_no p _ (by omega)]
  simp
theorem sealB_chunk (p : Pkt) (l : List UInt8) (h : p.kind = 6) : sealB p l = chunkB p l.length := by
  unfold sealB
  rw [pulse_no p _ (by omega), data_no p _ (by omega), att_no p _ (by omega)]
  simp
theorem sealB_none (p : Pkt) (l : List UInt8) (h : p.kind < 1 ∨ 6 < p.kind) : sealB p l = false := by
  unfold sealB
  rw [pulse_no p _ (by omega), data_no p _ (by omega), att_no p _ (by omega), chunk_no p _ (by omega)]
  rfl
theorem sealB_range (p : Pkt) (l : List UInt8) (h : sealB p l = true) : 1 ≤ p.kind ∧ p.kind ≤ 6 := by
  by_cases hk : p.kind < 1 ∨ 6 < p.kind
  · rw [sealB_none p l hk] at h; cases h
  · omega
/-- what stands behind the head -/
def bodyBytes (p : Pkt) (l : List UInt8) : List UInt8 := if p.kind = 4 then Buf.sevens l.length ++ l else if p.kind = 5 then Buf.sevens (u64of p.no) else if p.kind = 6 then chunkBytes p l else pulseBytes p
def bodyS (most : Int) (s : Int × List UInt8) (p : Pkt) (l : List UInt8) : Int × List UInt8 :=
  if p.kind = 4 then Buf.wput most s (Buf.sevens l.length ++ l) else if p.kind = 5 then Buf.wput most s (Buf.sevens (u64of p.no)) else if p.kind = 6 then chunkS most s p l else pulseS most s p
theorem body_len (p : Pkt) (l : List UInt8) (h : sealB p l = true) : (bodyBytes p l).length ≤ 1034 ∧ l.length ≤ 1024 := by
  obtain ⟨h1, h2⟩ := sealB_range p l h
  unfold bodyBytes
  by_cases k4 : p.kind = 4
  · rw [if_pos k4]
    rw [sealB_data p l k4] at h
    have hs := Buf.sevens_len l.length
    have hl : l.length ≤ 1024 := by simp [dataB] at h; omega
    rw [List.length_append]
    omega
  · rw [if_neg k4]
    by_cases k5 : p.kind = 5
    · rw [if_pos k5]
      rw [sealB_att p l k5] at h
      have hs := Buf.sevens_len (u64of p.no)
      obtain ⟨_, _, hl⟩ := att_back p l h []
      subst hl
      exact ⟨by omega, by simp⟩
    · rw [if_neg k5]
      by_cases k6 : p.kind = 6
      · rw [if_pos k6]
        rw [sealB_chunk p l k6] at h
        have hl : l.length ≤ 64 := by simp [chunkB, chunkN] at h; omega
        have := chunkBytes_len p l
        omega
      · rw [if_neg k6]
        rw [sealB_pulse p l (by omega)] at h
        have hl := (pulse_kind p l h).2.2
        subst hl
        have := pulseBytes_len p
        exact ⟨by omega, by simp⟩
theorem bodyS_ok (p : Pkt) (l : List UInt8) (h : sealB p l = true) : bodyS 1096 (headS 1096 (0, []) p) p l = (0, headBytes p ++ bodyBytes p l) := by
  have hh := headBytes_len p
  obtain ⟨hb, hl⟩ := body_len p l h
  rw [headS_ok 1096 [] p (by simp)]
  rw [List.nil_append]
  obtain ⟨h1, h2⟩ := sealB_range p l h
  have hs := Buf.sevens_len l.length
  have hs2 := Buf.sevens_len (u64of p.no)
  unfold bodyS bodyBytes
  by_cases k4 : p.kind = 4
  · rw [if_pos k4, if_pos k4]
    exact wput_ok' 1096 _ _ (by rw [List.length_append]; omega)
  · rw [if_neg k4, if_neg k4]
    by_cases k5 : p.kind = 5
    · rw [if_pos k5, if_pos k5]
      exact wput_ok' 1096 _ _ (by omega)
    · rw [if_neg k5, if_neg k5]
      by_cases k6 : p.kind = 6
      · rw [if_pos k6, if_pos k6]
        rw [sealB_chunk p l k6] at h
        have hl : l.length ≤ 64 := by simp [chunkB, chunkN] at h; omega
        exact chunkS_ok 1096 _ p l (by omega)
      · rw [if_neg k6, if_neg k6]
        exact pulseS_ok 1096 _ p (by omega) (by omega)
/-- the frame of a packet -/
def frameOf (p : Pkt) (l : List UInt8) : List UInt8 := Crc.seal_ (headBytes p ++ bodyBytes p l)
theorem headS_len (most : Int) (s : Int × List UInt8) (q : Pkt) : (headS most s q).2.length ≤ s.2.length + 30 := by
  unfold headS
  have h4 := Buf.sevens_len (u64of q.t)
  split
  · refine Nat.le_trans (wfixed_len most _ _ _) ?_
    refine Nat.le_trans (Nat.add_le_add_right (wput_len most _ _) _) ?_
    refine Nat.le_trans (Nat.add_le_add_right (Nat.add_le_add_right (wput_len most _ _) _) _) ?_
    refine Nat.le_trans (Nat.add_le_add_right (Nat.add_le_add_right (Nat.add_le_add_right (wput_len most _ _) _) _) _) ?_
    refine Nat.le_trans (Nat.add_le_add_right (Nat.add_le_add_right (Nat.add_le_add_right (Nat.add_le_add_right (wput_len most _ _) _) _) _) _) ?_
    simp only [List.length_cons, List.length_nil]
    omega
  · refine Nat.le_trans (wput_len most _ _) ?_
    simp only [List.length_cons, List.length_nil]
    omega
set_option maxRecDepth 100000 in
set_option maxHeartbeats 2000000 in
theorem sealgood_any (p : Pkt) (A : Option Addr) (l : List UInt8) (c : Nat) (w : World) (hl : Bytes w A l) (hn : l.length ≤ 1000000000000) :
    Calls Try.prog 77 #[pv p A l.length c] w fun e w' => e = .returned (.bool (sealB p l)) ∧ Grow w w' := by
  by_cases hk : p.kind = 1
  · have HS := hide (sealB_pulse p l (by omega))
    have k1 : (p.kind == 1) = true := by simp; omega
    have k2 : (p.kind == 2) = false := by simp; omega
    have k3 : (p.kind == 3) = false := by simp; omega
    have k4 : (p.kind == 4) = false := by simp; omega
    have k5 : (p.kind == 5) = false := by simp; omega
    have k6 : (p.kind == 6) = false := by simp; omega
    clear hk
    go_enter Try.func77, Try.ntmps77
    go_wp2_with fail
    refine (pulsegood_any p A l c _ (hl.alloc _)).mono ?_
    rintro r w1 ⟨rfl, hb1⟩
    obtain ⟨p0, hg1⟩ := peel1 hb1
    have p0_ := hide p0
    clear p0
    have p0 := p0_
    clear p0_
    have hl := hl.grow hg1
    have HG1 := hide (show Grow w w1 from hg1)
    have hsz1 : w.heap.size ≤ w1.heap.size := HG1.out.size
    have hq1 : w.heap.size ≤ w1.heap.size := hg1.size
    have HS1 := hide hg1
    clear hb1 hg1
    obtain ⟨cp0, fp0, lp0⟩ := (show Box w1 _ _ from p0.out).rules
    go_wp2
    go_ret
    exact ⟨by rw [HS.out]; rfl, HG1.out⟩
  have n1 : (p.kind == 1) = false := by simpa using hk
  have m1 := hk
  clear hk
  by_cases hk : p.kind = 2
  · have HS := hide (sealB_pulse p l (by omega))
    have k1 : (p.kind == 1) = false := by simp; omega
    have k2 : (p.kind == 2) = true := by simp; omega
    have k3 : (p.kind == 3) = false := by simp; omega
    have k4 : (p.kind == 4) = false := by simp; omega
    have k5 : (p.kind == 5) = false := by simp; omega
    have k6 : (p.kind == 6) = false := by simp; omega
    clear hk
    go_enter Try.func77, Try.ntmps77
    go_wp2_with fail
    refine (pulsegood_any p A l c _ (hl.alloc _)).mono ?_
    rintro r w1 ⟨rfl, hb1⟩
    obtain ⟨p0, hg1⟩ := peel1 hb1
    have p0_ := hide p0
    clear p0
    have p0 := p0_
    clear p0_
    have hl := hl.grow hg1
    have HG1 := hide (show Grow w w1 from hg1)
    have hsz1 : w.heap.size ≤ w1.heap.size := HG1.out.size
    have hq1 : w.heap.size ≤ w1.heap.size := hg1.size
    have HS1 := hide hg1
    clear hb1 hg1
    obtain ⟨cp0, fp0, lp0⟩ := (show Box w1 _ _ from p0.out).rules
    go_wp2
    go_ret
    exact ⟨by rw [HS.out]; rfl, HG1.out⟩
  have n2 : (p.kind == 2) = false := by simpa using hk
  have m2 := hk
  clear hk
  by_cases hk : p.kind = 3
  · have HS := hide (sealB_pulse p l (by omega))
    have k1 : (p.kind == 1) = false := by simp; omega
    have k2 : (p.kind == 2) = false := by simp; omega
    have k3 : (p.kind == 3) = true := by simp; omega
    have k4 : (p.kind == 4) = false := by simp; omega
    have k5 : (p.kind == 5) = false := by simp; omega
    have k6 : (p.kind == 6) = false := by simp; omega
    clear hk
    go_enter Try.func77, Try.ntmps77
    go_wp2_with fail
    refine (pulsegood_any p A l c _ (hl.alloc _)).mono ?_
    rintro r w1 ⟨rfl, hb1⟩
    obtain ⟨p0, hg1⟩ := peel1 hb1
    have p0_ := hide p0
    clear p0
    have p0 := p0_
    clear p0_
    have hl := hl.grow hg1
    have HG1 := hide (show Grow w w1 from hg1)
    have hsz1 : w.heap.size ≤ w1.heap.size := HG1.out.size
    have hq1 : w.heap.size ≤ w1.heap.size := hg1.size
    have HS1 := hide hg1
    clear hb1 hg1
    obtain ⟨cp0, fp0, lp0⟩ := (show Box w1 _ _ from p0.out).rules
    go_wp2
    go_ret
    exact ⟨by rw [HS.out]; rfl, HG1.out⟩
  have n3 : (p.kind == 3) = false := by simpa using hk
  have m3 := hk
  clear hk
  by_cases hk : p.kind = 4
  · have HS := hide (sealB_data p l hk)
    have k1 : (p.kind == 1) = false := by simp; omega
    have k2 : (p.kind == 2) = false := by simp; omega
    have k3 : (p.kind == 3) = false := by simp; omega
    have k4 : (p.kind == 4) = true := by simp; omega
    have k5 : (p.kind == 5) = false := by simp; omega
    have k6 : (p.kind == 6) = false := by simp; omega
    clear hk
    go_enter Try.func77, Try.ntmps77
    go_wp2_with fail
    refine (datagood_any p A l.length c _ hn).mono ?_
    rintro r w1 ⟨rfl, hb1⟩
    obtain ⟨p0, hg1⟩ := peel1 hb1
    have p0_ := hide p0
    clear p0
    have p0 := p0_
    clear p0_
    have hl := hl.grow hg1
    have HG1 := hide (show Grow w w1 from hg1)
    have hsz1 : w.heap.size ≤ w1.heap.size := HG1.out.size
    have hq1 : w.heap.size ≤ w1.heap.size := hg1.size
    have HS1 := hide hg1
    clear hb1 hg1
    obtain ⟨cp0, fp0, lp0⟩ := (show Box w1 _ _ from p0.out).rules
    go_wp2
    go_ret
    exact ⟨by rw [HS.out]; rfl, HG1.out⟩
  have n4 : (p.kind == 4) = false := by simpa using hk
  have m4 := hk
  clear hk
  by_cases hk : p.kind = 5
  · have HS := hide (sealB_att p l hk)
    have k1 : (p.kind == 1) = false := by simp; omega
    have k2 : (p.kind == 2) = false := by simp; omega
    have k3 : (p.kind == 3) = false := by simp; omega
    have k4 : (p.kind == 4) = false := by simp; omega
    have k5 : (p.kind == 5) = true := by simp; omega
    have k6 : (p.kind == 6) = false := by simp; omega
    clear hk
    go_enter Try.func77, Try.ntmps77
    go_wp2_with fail
    refine (attgood_any p A l c _ (hl.alloc _)).mono ?_
    rintro r w1 ⟨rfl, hb1⟩
    obtain ⟨p0, hg1⟩ := peel1 hb1
    have p0_ := hide p0
    clear p0
    have p0 := p0_
    clear p0_
    have hl := hl.grow hg1
    have HG1 := hide (show Grow w w1 from hg1)
    have hsz1 : w.heap.size ≤ w1.heap.size := HG1.out.size
    have hq1 : w.heap.size ≤ w1.heap.size := hg1.size
    have HS1 := hide hg1
    clear hb1 hg1
    obtain ⟨cp0, fp0, lp0⟩ := (show Box w1 _ _ from p0.out).rules
    go_wp2
    go_ret
    exact ⟨by rw [HS.out]; rfl, HG1.out⟩
  have n5 : (p.kind == 5) = false := by simpa using hk
  have m5 := hk
  clear hk
  by_cases hk : p.kind = 6
  · have HS := hide (sealB_chunk p l hk)
    have k1 : (p.kind == 1) = false := by simp; omega
    have k2 : (p.kind == 2) = false := by simp; omega
    have k3 : (p.kind == 3) = false := by simp; omega
    have k4 : (p.kind == 4) = false := by simp; omega
    have k5 : (p.kind == 5) = false := by simp; omega
    have k6 : (p.kind == 6) = true := by simp; omega
    clear hk
    go_enter Try.func77, Try.ntmps77
    go_wp2_with fail
    refine (chunkgood_any p A l.length c _ hn).mono ?_
    rintro r w1 ⟨rfl, hb1⟩
    obtain ⟨p0, hg1⟩ := peel1 hb1
    have p0_ := hide p0
    clear p0
    have p0 := p0_
    clear p0_
    have hl := hl.grow hg1
    have HG1 := hide (show Grow w w1 from hg1)
    have hsz1 : w.heap.size ≤ w1.heap.size := HG1.out.size
    have hq1 : w.heap.size ≤ w1.heap.size := hg1.size
    have HS1 := hide hg1
    clear hb1 hg1
    obtain ⟨cp0, fp0, lp0⟩ := (show Box w1 _ _ from p0.out).rules
    go_wp2
    go_ret
    exact ⟨by rw [HS.out]; rfl, HG1.out⟩
  have n6 : (p.kind == 6) = false := by simpa using hk
  have m6 := hk
  clear hk
  have HS := hide (sealB_none p l (by omega))
  clear m1 m2 m3 m4 m5 m6
  go_enter Try.func77, Try.ntmps77
  go_wp2
  go_ret
  exact ⟨by rw [HS.out]; rfl, (Grow.refl w).alloc _⟩
set_option maxRecDepth 100000 in
set_option maxHeartbeats 2000000 in
theorem refsealgood_any (p : Pkt) (A : Option Addr) (l : List UInt8) (c : Nat) (w : World) (hl : Bytes w A l) (hn : l.length ≤ 1000000000000) :
    Calls Try.prog 78 #[pv p A l.length c] w fun e w' => e = .returned (.bool (sealB p l)) ∧ Grow w w' := by
  have HS := hide (show sealB p l = (pulseB p l || (dataB p l.length || (attB p l || chunkB p l.length))) from rfl)
  have H1 := hide (fun W h => refpulsegood_any p A l c W h)
  have H2 := hide (fun W h => refdatagood_any p A l c W h)
  have H3 := hide (fun W h => refattgood_any p A l c W h)
  have H4 := hide (fun W => refchunkgood_any p A l.length c W hn)
  generalize pulseB p l = b1 at *
  generalize dataB p l.length = b2 at *
  generalize attB p l = b3 at *
  generalize chunkB p l.length = b4 at *
  go_enter Try.func78, Try.ntmps78
  go_wp2_with fail
  refine (H1.out _ (hl.alloc _)).mono ?_
  rintro r w1 ⟨rfl, hb1⟩
  obtain ⟨p0, hg1⟩ := peel1 hb1
  have p0_ := hide p0
  clear p0
  have p0 := p0_
  clear p0_
  have hl := hl.grow hg1
  have HG1 := hide (show Grow w w1 from hg1)
  have hsz1 : w.heap.size ≤ w1.heap.size := HG1.out.size
  have hq1 : w.heap.size ≤ w1.heap.size := hg1.size
  have HS1 := hide hg1
  clear hb1 hg1
  obtain ⟨cp0, fp0, lp0⟩ := (show Box w1 _ _ from p0.out).rules
  cases b1 with
  | true =>
    go_wp2
    go_ret
    exact ⟨by rw [HS.out]; rfl, HG1.out⟩
  | false =>
    go_wp2_with fail
    refine (H2.out _ hl).mono ?_
    rintro r w2 ⟨rfl, hb2⟩
    clear cp0 fp0 lp0
    have hg2 := hb2
    have p0_ := hide ((show Box w1 _ _ from p0.out).grow hg2)
    clear p0
    have p0 := p0_
    clear p0_
    have hl := hl.grow hg2
    have HG2 := hide (Grow.trans (show Grow w w1 from HG1.out) hg2)
    clear HG1
    have hsz2 : w.heap.size ≤ w2.heap.size := HG2.out.size
    have hq2 : w1.heap.size ≤ w2.heap.size := hg2.size
    have HS2 := hide hg2
    clear hb2 hg2
    obtain ⟨cp0, fp0, lp0⟩ := (show Box w2 _ _ from p0.out).rules
    cases b2 with
    | true =>
      go_wp2
      go_ret
      exact ⟨by rw [HS.out]; rfl, HG2.out⟩
    | false =>
      go_wp2_with fail
      refine (H3.out _ hl).mono ?_
      rintro r w3 ⟨rfl, hb3⟩
      clear cp0 fp0 lp0
      have hg3 := hb3
      have p0_ := hide ((show Box w2 _ _ from p0.out).grow hg3)
      clear p0
      have p0 := p0_
      clear p0_
      have hl := hl.grow hg3
      have HG3 := hide (Grow.trans (show Grow w w2 from HG2.out) hg3)
      clear HG2
      have hsz3 : w.heap.size ≤ w3.heap.size := HG3.out.size
      have hq3 : w2.heap.size ≤ w3.heap.size := hg3.size
      have HS3 := hide hg3
      clear hb3 hg3
      obtain ⟨cp0, fp0, lp0⟩ := (show Box w3 _ _ from p0.out).rules
      cases b3 with
      | true =>
        go_wp2
        go_ret
        exact ⟨by rw [HS.out]; rfl, HG3.out⟩
      | false =>
        go_wp2_with fail
        refine (H4.out _).mono ?_
        rintro r w4 ⟨rfl, hb4⟩
        clear cp0 fp0 lp0
        have hg4 := hb4
        have p0_ := hide ((show Box w3 _ _ from p0.out).grow hg4)
        clear p0
        have p0 := p0_
        clear p0_
        have hl := hl.grow hg4
        have HG4 := hide (Grow.trans (show Grow w w3 from HG3.out) hg4)
        clear HG3
        have hsz4 : w.heap.size ≤ w4.heap.size := HG4.out.size
        have hq4 : w3.heap.size ≤ w4.heap.size := hg4.size
        have HS4 := hide hg4
        clear hb4 hg4
        obtain ⟨cp0, fp0, lp0⟩ := (show Box w4 _ _ from p0.out).rules
        go_wp2
        go_ret
        exact ⟨by rw [HS.out]; rfl, HG4.out⟩
set_option maxRecDepth 100000 in
set_option maxHeartbeats 4000000 in
theorem sealput_any (B p : Nat) (A : Option Addr) (c : Nat) (e : Int) (b : List UInt8) (most : Int) (q : Pkt) (A2 : Option Addr) (l : List UInt8) (c2 : Nat) (w : World) (h : Wr w B p A c e b most) (hl : Bytes w A2 l) (hb : b.length ≤ 999999999000) (hll : l.length ≤ 1000000)
    (hB : B ≤ w.heap.size) (hd : l ≠ [] → ∀ g, blk A2 = some g → g ≠ p ∧ blk A ≠ some g ∧ g < w.heap.size) (hk : 1 ≤ q.kind ∧ q.kind ≤ 6) :
    Calls Try.prog 122 #[.pointer (some ⟨p, 0, none⟩), pv q A2 l.length c2] w fun r w' => r = .returned (.tuple #[]) ∧ Wrote w w' B p A (bodyS most (headS most (e, b) q) q l) most := by
  have hlt := h.lt
  have P0 := Putting.start h (pcells q A2 l.length c2) 65
  have hpx := P0.box
  unfold Holds at hpx
  have HS := hide (show bodyS most (headS most (e, b) q) q l = if q.kind = 4 then Buf.wput most (headS most (e, b) q) (Buf.sevens l.length ++ l) else if q.kind = 5 then Buf.wput most (headS most (e, b) q) (Buf.sevens (u64of q.no)) else if q.kind = 6 then chunkS most (headS most (e, b) q) q l else pulseS most (headS most (e, b) q) q from rfl)
  generalize bodyS most (headS most (e, b) q) q l = X at *
  obtain ⟨hk1, hk2⟩ := hk
  by_cases hk : q.kind = 4
  · rw [if_pos hk] at HS
    have k4 : (q.kind == 4) = true := by simp; omega
    have k5 : (q.kind == 5) = false := by simp; omega
    have k6 : (q.kind == 6) = false := by simp; omega
    clear hk hk1 hk2
    go_enter Try.func122, Try.ntmps122
    go_wp2_with fail
    refine (headput_any B p A c e b most q A2 l.length c2 _ P0.wr (by omega) (by simp; omega)).mono ?_
    rintro r w1 ⟨rfl, hw1⟩
    obtain ⟨A1, c1, P1⟩ := P0.step hlt (Nat.le_refl _) (by simp) (Grow.refl _) hw1
    have hb1 : (headS most (e, b) q).2.length ≤ b.length + 30 := headS_len most (e, b) q
    generalize headS most (e, b) q = s1 at P1 hb1 HS
    have hB1 : B ≤ w1.heap.size := Nat.le_trans hB P1.kept.size
    clear hw1 P0 hpx h
    have hpx := P1.box
    have hz1 : w.heap.size < w1.heap.size := P1.box.lt (by simp)
    unfold Holds at hpx
    have hl1 : Bytes w1 A2 l := fun hne => hl.kept P1.kept (fun g hg hm => by
      obtain ⟨h1, h2, _⟩ := hd hne g hg
      rcases List.mem_cons.1 hm with e | e
      · exact h1 e
      · exact h2 (by simpa using e)) hne
    have hd1 : l ≠ [] → ∀ g, blk A2 = some g → g ≠ p ∧ blk A1 ≠ some g ∧ g < w1.heap.size := fun hne g hg => by
      obtain ⟨h1, h2, h3⟩ := hd hne g hg
      refine ⟨h1, fun hm => ?_, by omega⟩
      rcases P1.orig g hm with e | e
      · exact h2 e
      · omega
    go_wp2_with fail
    refine (dataput_any B p A1 c1 s1.1 s1.2 most q A2 l c2 _ P1.wr hl1 (by omega) (by omega) hB1 (fun hne g hg => (hd1 hne g hg).2.1)).mono ?_
    rintro r w2 ⟨rfl, hw2⟩
    obtain ⟨A3, c3, P3⟩ := P1.step hlt (Nat.le_refl _) (by simp) (Grow.refl _) hw2
    go_wp2
    go_end0
    refine ⟨rfl, ?_⟩
    rw [HS.out]
    exact P3.wrote
  rw [if_neg hk] at HS
  have m4 := hk
  clear hk
  by_cases hk : q.kind = 5
  · rw [if_pos hk] at HS
    have k4 : (q.kind == 4) = false := by simp; omega
    have k5 : (q.kind == 5) = true := by simp; omega
    have k6 : (q.kind == 6) = false := by simp; omega
    clear hk hk1 hk2
    go_enter Try.func122, Try.ntmps122
    go_wp2_with fail
    refine (headput_any B p A c e b most q A2 l.length c2 _ P0.wr (by omega) (by simp; omega)).mono ?_
    rintro r w1 ⟨rfl, hw1⟩
    obtain ⟨A1, c1, P1⟩ := P0.step hlt (Nat.le_refl _) (by simp) (Grow.refl _) hw1
    have hb1 : (headS most (e, b) q).2.length ≤ b.length + 30 := headS_len most (e, b) q
    generalize headS most (e, b) q = s1 at P1 hb1 HS
    have hB1 : B ≤ w1.heap.size := Nat.le_trans hB P1.kept.size
    clear hw1 P0 hpx h
    have hpx := P1.box
    have hz1 : w.heap.size < w1.heap.size := P1.box.lt (by simp)
    unfold Holds at hpx
    have hl1 : Bytes w1 A2 l := fun hne => hl.kept P1.kept (fun g hg hm => by
      obtain ⟨h1, h2, _⟩ := hd hne g hg
      rcases List.mem_cons.1 hm with e | e
      · exact h1 e
      · exact h2 (by simpa using e)) hne
    have hd1 : l ≠ [] → ∀ g, blk A2 = some g → g ≠ p ∧ blk A1 ≠ some g ∧ g < w1.heap.size := fun hne g hg => by
      obtain ⟨h1, h2, h3⟩ := hd hne g hg
      refine ⟨h1, fun hm => ?_, by omega⟩
      rcases P1.orig g hm with e | e
      · exact h2 e
      · omega
    go_wp2_with fail
    refine (attput_any B p A1 c1 s1.1 s1.2 most q A2 l.length c2 _ P1.wr (by omega) hB1).mono ?_
    rintro r w2 ⟨rfl, hw2⟩
    obtain ⟨A3, c3, P3⟩ := P1.step hlt (Nat.le_refl _) (by simp) (Grow.refl _) hw2
    go_wp2
    go_end0
    refine ⟨rfl, ?_⟩
    rw [HS.out]
    exact P3.wrote
  rw [if_neg hk] at HS
  have m5 := hk
  clear hk
  by_cases hk : q.kind = 6
  · rw [if_pos hk] at HS
    have k4 : (q.kind == 4) = false := by simp; omega
    have k5 : (q.kind == 5) = false := by simp; omega
    have k6 : (q.kind == 6) = true := by simp; omega
    clear hk hk1 hk2
    go_enter Try.func122, Try.ntmps122
    go_wp2_with fail
    refine (headput_any B p A c e b most q A2 l.length c2 _ P0.wr (by omega) (by simp; omega)).mono ?_
    rintro r w1 ⟨rfl, hw1⟩
    obtain ⟨A1, c1, P1⟩ := P0.step hlt (Nat.le_refl _) (by simp) (Grow.refl _) hw1
    have hb1 : (headS most (e, b) q).2.length ≤ b.length + 30 := headS_len most (e, b) q
    generalize headS most (e, b) q = s1 at P1 hb1 HS
    have hB1 : B ≤ w1.heap.size := Nat.le_trans hB P1.kept.size
    clear hw1 P0 hpx h
    have hpx := P1.box
    have hz1 : w.heap.size < w1.heap.size := P1.box.lt (by simp)
    unfold Holds at hpx
    have hl1 : Bytes w1 A2 l := fun hne => hl.kept P1.kept (fun g hg hm => by
      obtain ⟨h1, h2, _⟩ := hd hne g hg
      rcases List.mem_cons.1 hm with e | e
      · exact h1 e
      · exact h2 (by simpa using e)) hne
    have hd1 : l ≠ [] → ∀ g, blk A2 = some g → g ≠ p ∧ blk A1 ≠ some g ∧ g < w1.heap.size := fun hne g hg => by
      obtain ⟨h1, h2, h3⟩ := hd hne g hg
      refine ⟨h1, fun hm => ?_, by omega⟩
      rcases P1.orig g hm with e | e
      · exact h2 e
      · omega
    go_wp2_with fail
    refine (chunkput_any B p A1 c1 s1.1 s1.2 most q A2 l c2 _ P1.wr hl1 (by omega) (by omega) hB1 hd1).mono ?_
    rintro r w2 ⟨rfl, hw2⟩
    obtain ⟨A3, c3, P3⟩ := P1.step hlt (Nat.le_refl _) (by simp) (Grow.refl _) hw2
    go_wp2
    go_end0
    refine ⟨rfl, ?_⟩
    rw [HS.out]
    exact P3.wrote
  rw [if_neg hk] at HS
  have m6 := hk
  clear hk
  have hk : q.kind = 1 ∨ q.kind = 2 ∨ q.kind = 3 := by omega
  have k4 : (q.kind == 4) = false := by simp; omega
  have k5 : (q.kind == 5) = false := by simp; omega
  have k6 : (q.kind == 6) = false := by simp; omega
  have hk := hide hk
  clear hk1 hk2 m4 m5 m6
  go_enter Try.func122, Try.ntmps122
  go_wp2_with fail
  refine (headput_any B p A c e b most q A2 l.length c2 _ P0.wr (by omega) (by simp; omega)).mono ?_
  rintro r w1 ⟨rfl, hw1⟩
  obtain ⟨A1, c1, P1⟩ := P0.step hlt (Nat.le_refl _) (by simp) (Grow.refl _) hw1
  have hb1 : (headS most (e, b) q).2.length ≤ b.length + 30 := headS_len most (e, b) q
  generalize headS most (e, b) q = s1 at P1 hb1 HS
  have hB1 : B ≤ w1.heap.size := Nat.le_trans hB P1.kept.size
  clear hw1 P0 hpx h
  have hpx := P1.box
  have hz1 : w.heap.size < w1.heap.size := P1.box.lt (by simp)
  unfold Holds at hpx
  have hl1 : Bytes w1 A2 l := fun hne => hl.kept P1.kept (fun g hg hm => by
    obtain ⟨h1, h2, _⟩ := hd hne g hg
    rcases List.mem_cons.1 hm with e | e
    · exact h1 e
    · exact h2 (by simpa using e)) hne
  have hd1 : l ≠ [] → ∀ g, blk A2 = some g → g ≠ p ∧ blk A1 ≠ some g ∧ g < w1.heap.size := fun hne g hg => by
    obtain ⟨h1, h2, h3⟩ := hd hne g hg
    refine ⟨h1, fun hm => ?_, by omega⟩
    rcases P1.orig g hm with e | e
    · exact h2 e
    · omega
  go_wp2_with fail
  refine (pulseput_any B p A1 c1 s1.1 s1.2 most q A2 l.length c2 _ P1.wr (by omega) hB1 hk.out).mono ?_
  rintro r w2 ⟨rfl, hw2⟩
  obtain ⟨A3, c3, P3⟩ := P1.step hlt (Nat.le_refl _) (by simp) (Grow.refl _) hw2
  go_wp2
  go_end0
  refine ⟨rfl, ?_⟩
  rw [HS.out]
  exact P3.wrote
set_option maxRecDepth 100000 in
set_option maxHeartbeats 2000000 in
theorem encode_no (p : Pkt) (A : Option Addr) (l : List UInt8) (c : Nat) (w : World) (hl : Bytes w A l) (hn : l.length ≤ 1000000) (h : sealB p l = false) :
    Calls Try.prog 76 #[pv p A l.length c] w fun r w' => r = .returned (.tuple #[.slice none 0 0, .int .i64 1]) ∧ Grow w w' := by
  have HG := hide (fun W h => sealgood_any p A l c W h (by omega))
  rw [h] at HG
  go_enter Try.func76, Try.ntmps76
  go_wp2_with fail
  refine (HG.out _ (hl.alloc _)).mono ?_
  rintro r w1 ⟨rfl, hb1⟩
  obtain ⟨p0, hg1⟩ := peel1 hb1
  have p0_ := hide p0
  clear p0
  have p0 := p0_
  clear p0_
  have hl := hl.grow hg1
  have HG1 := hide (show Grow w w1 from hg1)
  have hsz1 : w.heap.size ≤ w1.heap.size := HG1.out.size
  have hq1 : w.heap.size ≤ w1.heap.size := hg1.size
  have HS1 := hide hg1
  clear hb1 hg1
  obtain ⟨cp0, fp0, lp0⟩ := (show Box w1 _ _ from p0.out).rules
  go_wp2
  go_ret2
  exact ⟨rfl, HG1.out⟩
set_option maxRecDepth 100000 in
set_option maxHeartbeats 2000000 in
theorem encode_yes (p : Pkt) (A : Option Addr) (l : List UInt8) (c : Nat) (w : World) (hl : Bytes w A l) (hn : l.length ≤ 1000000) (hA : l ≠ [] → ∀ g, blk A = some g → g < w.heap.size) (h : sealB p l = true) :
    Calls Try.prog 76 #[pv p A l.length c] w fun r w' => (∃ A c, r = .returned (.tuple #[.slice A (frameOf p l).length c, .int .i64 0]) ∧ Own w' w.heap.size A c (frameOf p l)) ∧ Grow w w' := by
  have HG := hide (fun W h => sealgood_any p A l c W h (by omega))
  rw [h] at HG
  have hS := hide (bodyS_ok p l h)
  obtain ⟨hbl, hll⟩ := body_len p l h
  have hhl := headBytes_len p
  have hP := hide (fun (g : Nat) (W : World) (hwr : Wr W g g none 0 0 [] 1096) h1 h2 h3 => sealput_any g g none 0 0 [] 1096 p A l c W hwr h1 (by simp) hn h2 h3 (sealB_range p l h))
  rw [hS.out] at hP
  have hC := hide (fun A c W h1 h2 => seal_any A (headBytes p ++ bodyBytes p l) c W (by rw [List.length_append]; omega) h1 h2)
  have HF := hide (show frameOf p l = Crc.seal_ (headBytes p ++ bodyBytes p l) from rfl)
  have hsl : (headBytes p ++ bodyBytes p l).length ≤ 1051 := by rw [List.length_append]; omega
  generalize frameOf p l = fr at *
  generalize Crc.seal_ (headBytes p ++ bodyBytes p l) = fr2 at *
  generalize headBytes p ++ bodyBytes p l = s at *
  clear h hbl hhl hS
  go_enter Try.func76, Try.ntmps76
  go_wp2_with fail
  refine (HG.out _ (hl.alloc _)).mono ?_
  rintro r w1 ⟨rfl, hb1⟩
  obtain ⟨p0, hg1⟩ := peel1 hb1
  have p0_ := hide p0
  clear p0
  have p0 := p0_
  clear p0_
  have hl := hl.grow hg1
  have HG1 := hide (show Grow w w1 from hg1)
  have hsz1 : w.heap.size ≤ w1.heap.size := HG1.out.size
  have hq1 : w.heap.size ≤ w1.heap.size := hg1.size
  have HS1 := hide hg1
  clear hb1 hg1
  obtain ⟨cp0, fp0, lp0⟩ := (show Box w1 _ _ from p0.out).rules
  go_wp2_with fail
  have hp1 := lp0
  refine (new_at 1096 w1.heap.size _ (by decide) (by decide) rfl).mono ?_
  rintro r w2 ⟨rfl, hwr, hb2⟩
  clear cp0 fp0 lp0
  have hg2 := hb2
  have p0_ := hide ((show Box w1 _ _ from p0.out).grow hg2)
  clear p0
  have p0 := p0_
  clear p0_
  have hl := hl.grow hg2
  have HG2 := hide (Grow.trans (show Grow w w1 from HG1.out) hg2)
  clear HG1
  have hsz2 : w.heap.size ≤ w2.heap.size := HG2.out.size
  have hq2 : w1.heap.size ≤ w2.heap.size := hg2.size
  have HS2 := hide hg2
  clear hb2 hg2
  obtain ⟨cp0, fp0, lp0⟩ := (show Box w2 _ _ from p0.out).rules
  go_wp2_with fail
  refine (hP.out _ _ hwr hl HS2.out.size (fun hne k hk => by have := hA hne k hk; exact ⟨by omega, by simp [blk], by omega⟩)).mono ?_
  rintro r w3 ⟨rfl, A3, c3, hwr3, hb3, _⟩
  simp only [foot, blk, Option.map_none, Option.toList_none] at hb3
  clear cp0 fp0 lp0
  have hg3 := hb3
  have p0_ := hide ((show Box w2 _ _ from p0.out).kept hg3 (by simp; try omega))
  clear p0
  have p0 := p0_
  clear p0_
  have HG3 := hide (Kept.fresh1 hg3 (show Grow w w2 from HG2.out) (by omega))
  clear HG2
  have hsz3 : w.heap.size ≤ w3.heap.size := HG3.out.size
  have hq3 : w2.heap.size ≤ w3.heap.size := hg3.size
  have HS3 := hide hg3
  clear hb3 hg3
  obtain ⟨cp0, fp0, lp0⟩ := (show Box w3 _ _ from p0.out).rules
  go_wp2_with fail
  refine (done_ok _ _ A3 c3 _ 1096 _ hwr3 (by show s.length ≤ _; omega)).mono ?_
  rintro r w4 ⟨A4, c4, rfl, hown4, hb4⟩
  have hs4 := hown4.bytes
  have hc4 := hown4.le
  clear hwr hwr3 hown4
  clear cp0 fp0 lp0
  have hg4 := hb4
  have p0_ := hide ((show Box w3 _ _ from p0.out).grow hg4)
  clear p0
  have p0 := p0_
  clear p0_
  have HG4 := hide (Grow.trans (show Grow w w3 from HG3.out) hg4)
  clear HG3
  have hsz4 : w.heap.size ≤ w4.heap.size := HG4.out.size
  have hq4 : w3.heap.size ≤ w4.heap.size := hg4.size
  have HS4 := hide hg4
  clear hb4 hg4
  obtain ⟨cp0, fp0, lp0⟩ := (show Box w4 _ _ from p0.out).rules
  go_wp2_with fail
  refine (hC.out _ _ _ hc4.1 hs4).mono ?_
  rintro r w5 ⟨A5, c5, rfl, hown5, hb5⟩
  have hge := fun q h => hown5.base (q := q) h
  clear cp0 fp0 lp0
  have hg5 := hb5
  have p0_ := hide ((show Box w4 _ _ from p0.out).grow hg5)
  clear p0
  have p0 := p0_
  clear p0_
  have hs4 := hs4.grow hg5
  have HG5 := hide (Grow.trans (show Grow w w4 from HG4.out) hg5)
  clear HG4
  have hsz5 : w.heap.size ≤ w5.heap.size := HG5.out.size
  have hq5 : w4.heap.size ≤ w5.heap.size := hg5.size
  have HS5 := hide hg5
  clear hb5 hg5
  obtain ⟨cp0, fp0, lp0⟩ := (show Box w5 _ _ from p0.out).rules
  go_wp2
  go_ret2
  rw [HF.out]
  exact ⟨⟨A5, c5, rfl, hown5.mono hsz4⟩, HG5.out⟩
set_option maxRecDepth 100000 in
set_option maxHeartbeats 2000000 in
theorem size_no (p : Pkt) (A : Option Addr) (l : List UInt8) (c : Nat) (w : World) (hl : Bytes w A l) (hn : l.length ≤ 1000000) (h : sealB p l = false) :
    Calls Try.prog 79 #[pv p A l.length c] w fun r w' => r = .returned (.int .i64 0) ∧ Grow w w' := by
  go_enter Try.func79, Try.ntmps79
  go_wp2_with fail
  refine (encode_no p A l c _ (hl.alloc _) hn h).mono ?_
  rintro r w1 ⟨rfl, hb1⟩
  obtain ⟨p0, hg1⟩ := peel1 hb1
  have p0_ := hide p0
  clear p0
  have p0 := p0_
  clear p0_
  have HG1 := hide (show Grow w w1 from hg1)
  have hsz1 : w.heap.size ≤ w1.heap.size := HG1.out.size
  have hq1 : w.heap.size ≤ w1.heap.size := hg1.size
  have HS1 := hide hg1
  clear hb1 hg1
  obtain ⟨cp0, fp0, lp0⟩ := (show Box w1 _ _ from p0.out).rules
  go_wp2
  go_ret
  exact ⟨rfl, HG1.out⟩
set_option maxRecDepth 100000 in
set_option maxHeartbeats 2000000 in
theorem size_yes (p : Pkt) (A : Option Addr) (l : List UInt8) (c : Nat) (w : World) (hl : Bytes w A l) (hn : l.length ≤ 1000000) (hA : l ≠ [] → ∀ g, blk A = some g → g < w.heap.size) (h : sealB p l = true) :
    Calls Try.prog 79 #[pv p A l.length c] w fun r w' => r = .returned (.int .i64 (frameOf p l).length) ∧ Grow w w' := by
  go_enter Try.func79, Try.ntmps79
  go_wp2_with fail
  refine (encode_yes p A l c _ (hl.alloc _) hn (fun hne g hg => by have := hA hne g hg; simp; omega) h).mono ?_
  rintro r w1 ⟨⟨A1, c1, rfl, _⟩, hb1⟩
  obtain ⟨p0, hg1⟩ := peel1 hb1
  have p0_ := hide p0
  clear p0
  have p0 := p0_
  clear p0_
  have HG1 := hide (show Grow w w1 from hg1)
  have hsz1 : w.heap.size ≤ w1.heap.size := HG1.out.size
  have hq1 : w.heap.size ≤ w1.heap.size := hg1.size
  have HS1 := hide hg1
  clear hb1 hg1
  obtain ⟨cp0, fp0, lp0⟩ := (show Box w1 _ _ from p0.out).rules
  go_wp2
  go_ret
  exact ⟨rfl, HG1.out⟩
end Go.Proofs.Ytpobjcdcimcdnaa
