/- The walk of the statement SealBursts. -/
import Derived.Test.YtpobjcdcimcdnaaSlD
namespace Go.Proofs.Ytpobjcdcimcdnaa
open Go.RowKit
set_option maxRecDepth 100000 in
set_option maxHeartbeats 2000000 in
theorem sealBursts_no (p : Pkt) (A : Option Addr) (l : List UInt8) (c : Nat) (pos bits : Nat) (w : World) (ok : p.Ok) (hl : l.length ≤ c) (hc : c ≤ 9223372036854775807) (hb : Bytes w A l) (hpos : pos < 65536) (hbits : bits < 4294967296) (h : sealB p (l.take 1030) = false) :
    Calls Try.prog 21 #[pv p A l.length c, .int .u16 pos, .int .u32 bits] w fun e w' => e = .returned (.bool true) ∧ Grow w w' := by
  go_enter Try.func21, Try.ntmps21
  go_wp2_with fail
  refine (cut14_any p A l c _ hl hc (hb.alloc _)).mono ?_
  rintro r w1 ⟨A1, c1, rfl, hown, hb1⟩
  have hlb := hown.bytes
  have hlc := hown.le
  have hlt1 := fun q h => hown.lt (q := q) h
  have hln : (l.take 1030).length ≤ 1030 := by rw [List.length_take]; omega
  have hlo : ∀ q, blk A1 = some q → q ∉ [w.heap.size] := fun q hq => by have := hown.base hq; simp at this; simp; omega
  clear hown hb
  generalize l.take 1030 = m at *
  obtain ⟨p0, hg1⟩ := peel1 hb1
  have p0_ := hide p0
  clear p0
  have p0 := p0_
  clear p0_
  have HG1 := hide (show Grow w w1 from hg1)
  have hsz1 : w.heap.size ≤ w1.heap.size := HG1.out.size
  have hq1 : w.heap.size ≤ w1.heap.size := hg1.size
  have HS1 := hide hg1
  clear hb1 hg1
  obtain ⟨cp0, fp0, lp0⟩ := (show Box w1 _ _ from p0.out).rules
  have HR := hide (fun W hh => refsealgood_any p A1 m c1 W hh (by omega))
  rw [h] at HR
  have hE := hide (fun W hh => encode_no p A1 m c1 W hh (by omega) h)
  clear h
  go_wp2_with fail
  clear cp0 fp0 lp0
  generalize hW2 : (World.setCell (World.setCell (World.setCell (World.setCell (World.setCell (World.setCell (World.setCell (World.setCell (World.setCell (World.setCell (World.setCell (World.setCell w1 _ _) _ _) _ _) _ _) _ _) _ _) _ _) _ _) _ _) _ _) _ _) _ _) = w2
  have np0 := Box.store12 (show Box w1 _ _ from p0.out) hW2
  have hb2 := Kept.store12 hW2
  clear hW2 p0
  have hg2 := hb2
  have hlb := hlb.kept hg2 hlo
  have HG2 := hide (Kept.fresh1 hg2 (show Grow w w1 from HG1.out) (by omega))
  clear HG1
  have hsz2 : w.heap.size ≤ w2.heap.size := HG2.out.size
  have hq2 : w1.heap.size ≤ w2.heap.size := hg2.size
  have HS2 := hide hg2
  clear hb2 hg2
  have p0 := hide np0
  clear np0
  obtain ⟨cp0, fp0, lp0⟩ := (show Box w2 _ _ from p0.out).rules
  refine (hE.out _ hlb).mono ?_
  rintro r w3 ⟨rfl, hb3⟩
  clear cp0 fp0 lp0
  have hg3 := hb3
  have p0_ := hide ((show Box w2 _ _ from p0.out).grow hg3)
  clear p0
  have p0 := p0_
  clear p0_
  have hlb := hlb.grow hg3
  have HG3 := hide (Grow.trans (show Grow w w2 from HG2.out) hg3)
  clear HG2
  have hsz3 : w.heap.size ≤ w3.heap.size := HG3.out.size
  have hq3 : w2.heap.size ≤ w3.heap.size := hg3.size
  have HS3 := hide hg3
  clear hb3 hg3
  obtain ⟨cp0, fp0, lp0⟩ := (show Box w3 _ _ from p0.out).rules
  go_wp2_with fail
  refine (HR.out _ hlb).mono ?_
  rintro r w4 ⟨rfl, hb4⟩
  clear cp0 fp0 lp0
  have hg4 := hb4
  have p0_ := hide ((show Box w3 _ _ from p0.out).grow hg4)
  clear p0
  have p0 := p0_
  clear p0_
  have hlb := hlb.grow hg4
  have HG4 := hide (Grow.trans (show Grow w w3 from HG3.out) hg4)
  clear HG3
  have hsz4 : w.heap.size ≤ w4.heap.size := HG4.out.size
  have hq4 : w3.heap.size ≤ w4.heap.size := hg4.size
  have HS4 := hide hg4
  clear hb4 hg4
  obtain ⟨cp0, fp0, lp0⟩ := (show Box w4 _ _ from p0.out).rules
  go_wp2_with fail
  refine (works14_any _).mono ?_
  rintro r w5 ⟨rfl, hb5⟩
  clear cp0 fp0 lp0
  have hg5 := hb5
  have p0_ := hide ((show Box w4 _ _ from p0.out).grow hg5)
  clear p0
  have p0 := p0_
  clear p0_
  have hlb := hlb.grow hg5
  have HG5 := hide (Grow.trans (show Grow w w4 from HG4.out) hg5)
  clear HG4
  have hsz5 : w.heap.size ≤ w5.heap.size := HG5.out.size
  have hq5 : w4.heap.size ≤ w5.heap.size := hg5.size
  have HS5 := hide hg5
  clear hb5 hg5
  obtain ⟨cp0, fp0, lp0⟩ := (show Box w5 _ _ from p0.out).rules
  go_wp2
  go_ret
  exact ⟨rfl, HG5.out⟩
set_option maxRecDepth 100000 in
set_option maxHeartbeats 2000000 in
theorem sealBursts_yes (p : Pkt) (A : Option Addr) (l : List UInt8) (c : Nat) (pos bits : Nat) (w : World) (ok : p.Ok) (hl : l.length ≤ c) (hc : c ≤ 9223372036854775807) (hb : Bytes w A l) (hpos : pos < 65536) (hbits : bits < 4294967296) (h : sealB p (l.take 1030) = true) :
    Calls Try.prog 21 #[pv p A l.length c, .int .u16 pos, .int .u32 bits] w fun e w' => e = .returned (.bool true) ∧ Grow w w' := by
  go_enter Try.func21, Try.ntmps21
  go_wp2_with fail
  refine (cut14_any p A l c _ hl hc (hb.alloc _)).mono ?_
  rintro r w1 ⟨A1, c1, rfl, hown, hb1⟩
  have hlb := hown.bytes
  have hlc := hown.le
  have hlt1 := fun q h => hown.lt (q := q) h
  have hln : (l.take 1030).length ≤ 1030 := by rw [List.length_take]; omega
  have hlo : ∀ q, blk A1 = some q → q ∉ [w.heap.size] := fun q hq => by have := hown.base hq; simp at this; simp; omega
  clear hown hb
  generalize l.take 1030 = m at *
  obtain ⟨p0, hg1⟩ := peel1 hb1
  have p0_ := hide p0
  clear p0
  have p0 := p0_
  clear p0_
  have HG1 := hide (show Grow w w1 from hg1)
  have hsz1 : w.heap.size ≤ w1.heap.size := HG1.out.size
  have hq1 : w.heap.size ≤ w1.heap.size := hg1.size
  have HS1 := hide hg1
  clear hb1 hg1
  obtain ⟨cp0, fp0, lp0⟩ := (show Box w1 _ _ from p0.out).rules
  obtain ⟨q, hdq, hsq⟩ := dec_frame p m ok h
  have hfl : (frameOf p m).length ≤ 1055 ∧ 5 ≤ (frameOf p m).length := by have := frame_len p m; have := headBytes_len p; have := headBytes_pos p; have := (body_len p m h).1; omega
  have hgd : Crc.good (frameOf p m) = true := Crc.good_seal _
  have hE := hide (fun W hh h2 => encode_yes p A1 m c1 W hh (by omega) h2 h)
  generalize frameOf p m = s at *
  clear h hsq
  have hlt8 : pos % (8 * s.length) < 8 * s.length := Nat.mod_lt _ (by omega)
  have hT := hide (fun A c W h => turn_any A s c (pos % (8 * s.length)) bits W (by omega) h (by omega) hbits)
  have htl : (Crc.turn s (pos % (8 * s.length)) bits 32).length = s.length := Crc.turn_length _ _ _ _
  have hbu := Crc.burst s (by omega) hgd (pos % (8 * s.length)) bits
  have hD := hide (fun A c W h h1 h2 => decode_any A (Crc.turn s (pos % (8 * s.length)) bits 32) c W h h1 h2)
  have hmodI : ((pos : Int)).tmod (8 * (s.length : Int)) = ((pos % (8 * s.length) : Nat) : Int) := by rw [Int.tmod_eq_emod_of_nonneg (by omega)]; simp
  generalize Crc.turn s (pos % (8 * s.length)) bits 32 = u at *
  generalize pos % (8 * s.length) = pm at *
  go_wp2_with fail
  clear cp0 fp0 lp0
  generalize hW2 : (World.setCell (World.setCell (World.setCell (World.setCell (World.setCell (World.setCell (World.setCell (World.setCell (World.setCell (World.setCell (World.setCell (World.setCell w1 _ _) _ _) _ _) _ _) _ _) _ _) _ _) _ _) _ _) _ _) _ _) _ _) = w2
  have np0 := Box.store12 (show Box w1 _ _ from p0.out) hW2
  have hb2 := Kept.store12 hW2
  clear hW2 p0
  have hg2 := hb2
  have hlb := hlb.kept hg2 hlo
  have HG2 := hide (Kept.fresh1 hg2 (show Grow w w1 from HG1.out) (by omega))
  clear HG1
  have hsz2 : w.heap.size ≤ w2.heap.size := HG2.out.size
  have hq2 : w1.heap.size ≤ w2.heap.size := hg2.size
  have HS2 := hide hg2
  clear hb2 hg2
  have p0 := hide np0
  clear np0
  obtain ⟨cp0, fp0, lp0⟩ := (show Box w2 _ _ from p0.out).rules
  refine (hE.out _ hlb (fun g hg => by have := hlt1 g hg; omega)).mono ?_
  rintro r w3 ⟨⟨A3, c3, rfl, hown3⟩, hb3⟩
  have h3 := hown3.bytes
  clear hown3
  clear cp0 fp0 lp0
  have hg3 := hb3
  have p0_ := hide ((show Box w2 _ _ from p0.out).grow hg3)
  clear p0
  have p0 := p0_
  clear p0_
  have hlb := hlb.grow hg3
  have HG3 := hide (Grow.trans (show Grow w w2 from HG2.out) hg3)
  clear HG2
  have hsz3 : w.heap.size ≤ w3.heap.size := HG3.out.size
  have hq3 : w2.heap.size ≤ w3.heap.size := hg3.size
  have HS3 := hide hg3
  clear hb3 hg3
  obtain ⟨cp0, fp0, lp0⟩ := (show Box w3 _ _ from p0.out).rules
  have h55 : ¬ ((s.length : Int) < 5) := by omega
  have h80 : ¬ (8 * (s.length : Int) = 0) := by omega
  go_wp2_with fail
  refine (hT.out _ _ _ h3).mono ?_
  rintro r w4 ⟨A4, c4, rfl, hown4, hb4⟩
  have h4 := hown4.bytes
  have hc4 := hown4.le
  clear hown4
  clear cp0 fp0 lp0
  have hg4 : Grow w3 w4 := hb4
  have p0_ := hide ((show Box w3 _ _ from p0.out).grow hg4)
  clear p0
  have p0 := p0_
  clear p0_
  have h3 := h3.grow hg4
  have HG4 := hide (Grow.trans (show Grow w w3 from HG3.out) hg4)
  clear HG3
  have hsz4 : w.heap.size ≤ w4.heap.size := HG4.out.size
  have HS4 := hide hg4
  clear hb4 hg4
  obtain ⟨cp0, fp0, lp0⟩ := (show Box w4 _ _ from p0.out).rules
  have hDD := hide (fun W h => hD.out A4 c4 W h hc4.1 hc4.2)
  clear hT hD hE
  by_cases hus : u = s
  · subst hus
    rw [hdq] at hDD
    dsimp only at hDD
    clear hbu hdq
    go_wp2_with fail
    refine (hDD.out _ h4).mono ?_
    rintro r w5 ⟨⟨A5, c5, rfl, _, _, hx⟩, hb5⟩
    clear cp0 fp0 lp0
    have hg5 := hb5
    have p0_ := hide ((show Box w4 _ _ from p0.out).grow hg5)
    clear p0
    have p0 := p0_
    clear p0_
    have h3 := h3.grow hg5
    have h4 := h4.grow hg5
    have HG5 := hide (Grow.trans (show Grow w w4 from HG4.out) hg5)
    clear HG4 hb5 hg5
    have hsz5 : w.heap.size ≤ w5.heap.size := HG5.out.size
    obtain ⟨cp0, fp0, lp0⟩ := (show Box w5 _ _ from p0.out).rules
    have V3 := fun o => conv_any c3 (h3.alloc o)
    have V4 := fun o => conv_any c4 (h4.alloc o)
    go_wp2_with fail
    refine (works14_any _).mono ?_
    rintro r w6 ⟨rfl, hb6⟩
    have HG6 := hide (Grow.trans HG5.out (Grow.trans ((Grow.refl w5).alloc _) hb6))
    clear cp0 fp0 lp0 V3 V4
    go_wp2
    go_ret
    exact ⟨rfl, HG6.out⟩
  · have hgu : Crc.good u = false := by rw [hbu]; simpa using hus
    rw [dec_bad u (by omega) (by omega) hgu] at hDD
    dsimp only at hDD
    have hne : ¬ s = u := fun e => hus e.symm
    clear hbu hdq hgu hus htl
    go_wp2_with fail
    refine (hDD.out _ h4).mono ?_
    rintro r w5 ⟨⟨A5, c5, rfl, _, _, hx⟩, hb5⟩
    clear cp0 fp0 lp0
    have hg5 := hb5
    have p0_ := hide ((show Box w4 _ _ from p0.out).grow hg5)
    clear p0
    have p0 := p0_
    clear p0_
    have h3 := h3.grow hg5
    have h4 := h4.grow hg5
    have HG5 := hide (Grow.trans (show Grow w w4 from HG4.out) hg5)
    clear HG4 hb5 hg5
    have hsz5 : w.heap.size ≤ w5.heap.size := HG5.out.size
    obtain ⟨cp0, fp0, lp0⟩ := (show Box w5 _ _ from p0.out).rules
    have V3 := fun o => conv_any c3 (h3.alloc o)
    have V4 := fun o => conv_any c4 (h4.alloc o)
    have hneS : ¬ ((⟨s.toArray⟩ : ByteArray) = ⟨u.toArray⟩) := fun e => hne (by simpa using e)
    have HS := hide (fun W h1 h2 => refsame_any noP noP A5 none [] [] c5 0 W h1 h2)
    rw [sameB_refl, beq_self_eq_true, Bool.true_and] at HS
    simp only [List.length_nil] at HS
    go_wp2_with fail
    all_goals
      first
      | (refine (HS.out _ (hx.alloc _) (Bytes.nil _ _)).mono ?_
         rintro r w6 ⟨rfl, hb6⟩
         have HG6 := hide (Grow.trans HG5.out (Grow.trans ((Grow.refl w5).alloc _) hb6))
         clear cp0 fp0 lp0 V3 V4
         go_wp2_with fail
         refine (works14_any _).mono ?_
         rintro r w7 ⟨rfl, hb7⟩
         have HG7 := hide (Grow.trans HG6.out hb7)
         go_wp2
         go_ret
         exact ⟨rfl, HG7.out⟩)
      | (exfalso; rename_i hh; exact hne (by simpa using hh))
      | (exfalso; rename_i hh _; exact hne (by simpa using hh))
      | (exfalso; simp_all)
theorem sealBursts_any (p : Pkt) (A : Option Addr) (l : List UInt8) (c : Nat) (pos bits : Nat) (w : World) (ok : p.Ok) (hl : l.length ≤ c) (hc : c ≤ 9223372036854775807) (hb : Bytes w A l) (hpos : pos < 65536) (hbits : bits < 4294967296) :
    Calls Try.prog 21 #[pv p A l.length c, .int .u16 pos, .int .u32 bits] w fun e w' => e = .returned (.bool true) ∧ Grow w w' := by
  cases h : sealB p (l.take 1030) with
  | false => exact sealBursts_no p A l c pos bits w ok hl hc hb hpos hbits h
  | true => exact sealBursts_yes p A l c pos bits w ok hl hc hb hpos hbits h
theorem sealBursts_int (p : Pkt) (A : Option Addr) (l : List UInt8) (c : Nat) (n1 n2 : Int) (w : World) (ok : p.Ok) (hl : l.length ≤ c) (hc : c ≤ 9223372036854775807) (hb : Bytes w A l) (h1 : (Lit.int .u16 n1).wf = true) (h2 : (Lit.int .u32 n2).wf = true) :
    Calls Try.prog 21 #[pv p A l.length c, .int .u16 n1, .int .u32 n2] w fun e w' => e = .returned (.bool true) ∧ Grow w w' := by
  have b1 := bounds_u16 h1
  have b2 := bounds_u32 h2
  obtain ⟨pos, rfl⟩ : ∃ k : Nat, n1 = (k : Int) := ⟨n1.toNat, by omega⟩
  obtain ⟨bits, rfl⟩ : ∃ k : Nat, n2 = (k : Int) := ⟨n2.toNat, by omega⟩
  exact sealBursts_any p A l c pos bits w ok hl hc hb (by omega) (by omega)
end Go.Proofs.Ytpobjcdcimcdnaa
