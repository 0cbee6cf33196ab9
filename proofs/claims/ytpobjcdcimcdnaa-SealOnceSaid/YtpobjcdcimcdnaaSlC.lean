/- The walks of the document of frames. -/
import Derived.Test.YtpobjcdcimcdnaaSlB
namespace Go.Proofs.Ytpobjcdcimcdnaa
open Go.RowKit
theorem stopCond {P : Program} {x : Operand} {c1 c2 : Code} {Q : Exit → Act → World → Prop} {a : Act} {w : World} (h : Hid ((Code.cond x c1 c2).wp P Q a w)) : (Code.cond x c1 c2).wp P Q a w := h.out
theorem Box.grown {w w' : World} {g : Nat} {cs : Array Value} {row : Option Nat} (h : Box w g cs) (hg : w.grownBy w' row) (hne : ∀ q, row = some q → q ≠ g) : Box w' g cs := h.keep (hg.block g h.lt (fun e => hne g e.symm rfl))
set_option maxRecDepth 100000 in
set_option maxHeartbeats 20000000 in
theorem refsealbytes_any (p : Pkt) (A : Option Addr) (l : List UInt8) (c : Nat) (w : World) (hl : Bytes w A l) (h : sealB p l = true) :
    Calls Try.prog 82 #[pv p A l.length c] w fun r w' => ∃ A c, r = .returned (.slice A (frameOf p l).length c) ∧ Own w' w.heap.size A c (frameOf p l) ∧ Grow w w' := by
  obtain ⟨hk1, hk2⟩ := sealB_range p l h
  obtain ⟨hbl, hll⟩ := body_len p l h
  have hhl := headBytes_len p
  have HF := hide (show frameOf p l = Crc.seal_ (headBytes p ++ bodyBytes p l) from rfl)
  have hC := hide (fun A c W h2 => refseal_any A (headBytes p ++ bodyBytes p l) c W (by rw [List.length_append]; omega) h2)
  have hH := hide (fun W => refheadbytes_any p A l.length c W)
  have HB := hide (show bodyBytes p l = if p.kind = 4 then Buf.sevens l.length ++ l else if p.kind = 5 then Buf.sevens (u64of p.no) else if p.kind = 6 then chunkBytes p l else pulseBytes p from rfl)
  have H4 := hide (fun W h => refdatabytes_any p A l c W h (by omega))
  have H5 := hide (fun W => refattbytes_any p A l.length c W)
  have H6 := hide (fun W h => refchunkbytes_any p A l c W h (by omega))
  have H1 := hide (fun W hk => refpulsebytes_any p A l.length c W hk)
  generalize frameOf p l = fr at *
  generalize headBytes p = s1 at *
  generalize hX : bodyBytes p l = s2 at *
  clear hX h hll
  by_cases hk : p.kind = 4
  · obtain rfl : s2 = Buf.sevens l.length ++ l := HB.out.trans (if_pos hk)
    generalize Buf.sevens l.length ++ l = s2 at *
    have hkk := hk
    clear HB
    have k4 : (p.kind == 4) = true := by simp; omega
    have k5 : (p.kind == 5) = false := by simp; omega
    have k6 : (p.kind == 6) = false := by simp; omega
    have k3 : 4 ≤ p.kind := by omega
    clear hk1 hk2 hk hkk
    go_enter Try.func82, Try.ntmps82
    go_wp2_with fail
    refine (hH.out _).mono ?_
    rintro r w1 ⟨A1, c1, rfl, hown1, hb1⟩
    have hge1 := fun q h => hown1.base (q := q) h
    have hx1 := hb1.size
    obtain ⟨p0, hg1⟩ := peel1 hb1
    have p0_ := hide p0
    clear p0
    have p0 := p0_
    clear p0_
    have hl := hl.grow hg1
    have HG1 := hide (show Grow w w1 from hg1)
    have hsz1 : w.heap.size ≤ w1.heap.size := HG1.out.size
    have hq1 : w.heap.size ≤ w1.heap.size := hg1.size
    have HS1 := hide hg1
    clear hb1 hg1
    obtain ⟨cp0, fp0, lp0⟩ := (show Box w1 _ _ from p0.out).rules
    go_wp2_with fail
    refine (H4.out _ hl).mono ?_
    rintro r w2 ⟨A2, c2, rfl, hown2, hb2⟩
    have hown1 := hown1.below (show Below w1.heap.size w1 w2 from hb2)
    clear cp0 fp0 lp0
    have hg2 := hb2
    have p0_ := hide ((show Box w1 _ _ from p0.out).grow hg2)
    clear p0
    have p0 := p0_
    clear p0_
    have hl := hl.grow hg2
    have HG2 := hide (Grow.trans (show Grow w w1 from HG1.out) hg2)
    clear HG1
    have hsz2 : w.heap.size ≤ w2.heap.size := HG2.out.size
    have hq2 : w1.heap.size ≤ w2.heap.size := hg2.size
    have HS2 := hide hg2
    clear hb2 hg2
    obtain ⟨cp0, fp0, lp0⟩ := (show Box w2 _ _ from p0.out).rules
    go_wp2_with (at_builtin; refine wpList_append_bytes byteT rfl (.tmp 16) (.tmp 18) rfl hown1 hown2.bytes rfl rfl ?_ ?_ ?_)
    · omega
    · simp; omega
    intro A3 c3 l3 w3 HL3 hown3 hg3 _
    have hG3 : Grow w w3 := Below.grown HG2.out hg3 (by omega) (fun q hq => by have := hge1 q hq; (try simp at this); omega)
    have hp3 : Box w3 w.heap.size (pcells p A l.length c) := Box.grown (show Box w2 _ _ from p0.out) hg3 (fun q hq => by have := hge1 q hq; (try simp at this); omega)
    clear cp0 fp0 lp0
    clear HG2 p0 hg3
    have p0 := hide hp3
    clear hp3
    have HG3 := hide hG3
    clear hG3
    have e := HL3.out
    rw [← e] at HF hC
    clear e HL3
    have hsz3 : w.heap.size ≤ w3.heap.size := HG3.out.size
    obtain ⟨cp0, fp0, lp0⟩ := (show Box w3 _ _ from p0.out).rules
    go_wp2_with fail
    refine (hC.out _ _ _ hown3.bytes).mono ?_
    rintro r w4 ⟨A4, c4, rfl, hown4, hb4⟩
    go_wp2
    go_ret
    rw [HF.out]
    exact ⟨A4, c4, rfl, hown4.mono hsz3, Grow.trans HG3.out hb4⟩
  have HB := hide (HB.out.trans (if_neg hk))
  by_cases hk5 : p.kind = 5
  · obtain rfl : s2 = Buf.sevens (u64of p.no) := HB.out.trans (if_pos hk5)
    generalize Buf.sevens (u64of p.no) = s2 at *
    clear HB
    have k4 : (p.kind == 4) = false := by simp; omega
    have k5 : (p.kind == 5) = true := by simp; omega
    have k6 : (p.kind == 6) = false := by simp; omega
    have k3 : 4 ≤ p.kind := by omega
    clear hk1 hk2 hk5
    go_enter Try.func82, Try.ntmps82
    go_wp2_with fail
    refine (hH.out _).mono ?_
    rintro r w1 ⟨A1, c1, rfl, hown1, hb1⟩
    have hge1 := fun q h => hown1.base (q := q) h
    have hx1 := hb1.size
    obtain ⟨p0, hg1⟩ := peel1 hb1
    have p0_ := hide p0
    clear p0
    have p0 := p0_
    clear p0_
    have hl := hl.grow hg1
    have HG1 := hide (show Grow w w1 from hg1)
    have hsz1 : w.heap.size ≤ w1.heap.size := HG1.out.size
    have hq1 : w.heap.size ≤ w1.heap.size := hg1.size
    have HS1 := hide hg1
    clear hb1 hg1
    obtain ⟨cp0, fp0, lp0⟩ := (show Box w1 _ _ from p0.out).rules
    go_wp2_with fail
    refine (H5.out _).mono ?_
    rintro r w2 ⟨A2, c2, rfl, hown2, hb2⟩
    have hown1 := hown1.below (show Below w1.heap.size w1 w2 from hb2)
    clear cp0 fp0 lp0
    have hg2 := hb2
    have p0_ := hide ((show Box w1 _ _ from p0.out).grow hg2)
    clear p0
    have p0 := p0_
    clear p0_
    have hl := hl.grow hg2
    have HG2 := hide (Grow.trans (show Grow w w1 from HG1.out) hg2)
    clear HG1
    have hsz2 : w.heap.size ≤ w2.heap.size := HG2.out.size
    have hq2 : w1.heap.size ≤ w2.heap.size := hg2.size
    have HS2 := hide hg2
    clear hb2 hg2
    obtain ⟨cp0, fp0, lp0⟩ := (show Box w2 _ _ from p0.out).rules
    go_wp2_with (at_builtin; refine wpList_append_bytes byteT rfl (.tmp 23) (.tmp 25) rfl hown1 hown2.bytes rfl rfl ?_ ?_ ?_)
    · omega
    · simp; omega
    intro A3 c3 l3 w3 HL3 hown3 hg3 _
    have hG3 : Grow w w3 := Below.grown HG2.out hg3 (by omega) (fun q hq => by have := hge1 q hq; (try simp at this); omega)
    have hp3 : Box w3 w.heap.size (pcells p A l.length c) := Box.grown (show Box w2 _ _ from p0.out) hg3 (fun q hq => by have := hge1 q hq; (try simp at this); omega)
    clear cp0 fp0 lp0
    clear HG2 p0 hg3
    have p0 := hide hp3
    clear hp3
    have HG3 := hide hG3
    clear hG3
    have e := HL3.out
    rw [← e] at HF hC
    clear e HL3
    have hsz3 : w.heap.size ≤ w3.heap.size := HG3.out.size
    obtain ⟨cp0, fp0, lp0⟩ := (show Box w3 _ _ from p0.out).rules
    go_wp2_with fail
    refine (hC.out _ _ _ hown3.bytes).mono ?_
    rintro r w4 ⟨A4, c4, rfl, hown4, hb4⟩
    go_wp2
    go_ret
    rw [HF.out]
    exact ⟨A4, c4, rfl, hown4.mono hsz3, Grow.trans HG3.out hb4⟩
  have HB := hide (HB.out.trans (if_neg hk5))
  by_cases hk6 : p.kind = 6
  · obtain rfl : s2 = chunkBytes p l := HB.out.trans (if_pos hk6)
    generalize chunkBytes p l = s2 at *
    clear HB
    have k4 : (p.kind == 4) = false := by simp; omega
    have k5 : (p.kind == 5) = false := by simp; omega
    have k6 : (p.kind == 6) = true := by simp; omega
    have k3 : 4 ≤ p.kind := by omega
    clear hk1 hk2 hk6
    go_enter Try.func82, Try.ntmps82
    go_wp2_with fail
    refine (hH.out _).mono ?_
    rintro r w1 ⟨A1, c1, rfl, hown1, hb1⟩
    have hge1 := fun q h => hown1.base (q := q) h
    have hx1 := hb1.size
    obtain ⟨p0, hg1⟩ := peel1 hb1
    have p0_ := hide p0
    clear p0
    have p0 := p0_
    clear p0_
    have hl := hl.grow hg1
    have HG1 := hide (show Grow w w1 from hg1)
    have hsz1 : w.heap.size ≤ w1.heap.size := HG1.out.size
    have hq1 : w.heap.size ≤ w1.heap.size := hg1.size
    have HS1 := hide hg1
    clear hb1 hg1
    obtain ⟨cp0, fp0, lp0⟩ := (show Box w1 _ _ from p0.out).rules
    go_wp2_with fail
    refine (H6.out _ hl).mono ?_
    rintro r w2 ⟨A2, c2, rfl, hown2, hb2⟩
    have hown1 := hown1.below (show Below w1.heap.size w1 w2 from hb2)
    clear cp0 fp0 lp0
    have hg2 := hb2
    have p0_ := hide ((show Box w1 _ _ from p0.out).grow hg2)
    clear p0
    have p0 := p0_
    clear p0_
    have hl := hl.grow hg2
    have HG2 := hide (Grow.trans (show Grow w w1 from HG1.out) hg2)
    clear HG1
    have hsz2 : w.heap.size ≤ w2.heap.size := HG2.out.size
    have hq2 : w1.heap.size ≤ w2.heap.size := hg2.size
    have HS2 := hide hg2
    clear hb2 hg2
    obtain ⟨cp0, fp0, lp0⟩ := (show Box w2 _ _ from p0.out).rules
    go_wp2_with (at_builtin; refine wpList_append_bytes byteT rfl (.tmp 30) (.tmp 32) rfl hown1 hown2.bytes rfl rfl ?_ ?_ ?_)
    · omega
    · simp; omega
    intro A3 c3 l3 w3 HL3 hown3 hg3 _
    have hG3 : Grow w w3 := Below.grown HG2.out hg3 (by omega) (fun q hq => by have := hge1 q hq; (try simp at this); omega)
    have hp3 : Box w3 w.heap.size (pcells p A l.length c) := Box.grown (show Box w2 _ _ from p0.out) hg3 (fun q hq => by have := hge1 q hq; (try simp at this); omega)
    clear cp0 fp0 lp0
    clear HG2 p0 hg3
    have p0 := hide hp3
    clear hp3
    have HG3 := hide hG3
    clear hG3
    have e := HL3.out
    rw [← e] at HF hC
    clear e HL3
    have hsz3 : w.heap.size ≤ w3.heap.size := HG3.out.size
    obtain ⟨cp0, fp0, lp0⟩ := (show Box w3 _ _ from p0.out).rules
    go_wp2_with fail
    refine (hC.out _ _ _ hown3.bytes).mono ?_
    rintro r w4 ⟨A4, c4, rfl, hown4, hb4⟩
    go_wp2
    go_ret
    rw [HF.out]
    exact ⟨A4, c4, rfl, hown4.mono hsz3, Grow.trans HG3.out hb4⟩
  have HB := hide (HB.out.trans (if_neg hk6))
  obtain rfl : s2 = pulseBytes p := HB.out
  have hkp := hide (show p.kind = 1 ∨ p.kind = 2 ∨ p.kind = 3 by omega)
  generalize pulseBytes p = s2 at *
  clear HB
  have k4 : (p.kind == 4) = false := by simp; omega
  have k5 : (p.kind == 5) = false := by simp; omega
  have k6 : (p.kind == 6) = false := by simp; omega
  have k3 : p.kind < 4 := by omega
  clear hk1 hk2
  go_enter Try.func82, Try.ntmps82
  go_wp2_with fail
  refine (hH.out _).mono ?_
  rintro r w1 ⟨A1, c1, rfl, hown1, hb1⟩
  have hge1 := fun q h => hown1.base (q := q) h
  have hx1 := hb1.size
  obtain ⟨p0, hg1⟩ := peel1 hb1
  have p0_ := hide p0
  clear p0
  have p0 := p0_
  clear p0_
  have hl := hl.grow hg1
  have HG1 := hide (show Grow w w1 from hg1)
  have hsz1 : w.heap.size ≤ w1.heap.size := HG1.out.size
  have hq1 : w.heap.size ≤ w1.heap.size := hg1.size
  have HS1 := hide hg1
  clear hb1 hg1
  obtain ⟨cp0, fp0, lp0⟩ := (show Box w1 _ _ from p0.out).rules
  go_wp2_with fail
  refine (H1.out _ hkp.out).mono ?_
  rintro r w2 ⟨A2, c2, rfl, hown2, hb2⟩
  have hown1 := hown1.below (show Below w1.heap.size w1 w2 from hb2)
  clear cp0 fp0 lp0
  have hg2 := hb2
  have p0_ := hide ((show Box w1 _ _ from p0.out).grow hg2)
  clear p0
  have p0 := p0_
  clear p0_
  have hl := hl.grow hg2
  have HG2 := hide (Grow.trans (show Grow w w1 from HG1.out) hg2)
  clear HG1
  have hsz2 : w.heap.size ≤ w2.heap.size := HG2.out.size
  have hq2 : w1.heap.size ≤ w2.heap.size := hg2.size
  have HS2 := hide hg2
  clear hb2 hg2
  obtain ⟨cp0, fp0, lp0⟩ := (show Box w2 _ _ from p0.out).rules
  go_wp2_with (at_builtin; refine wpList_append_bytes byteT rfl (.tmp 9) (.tmp 11) rfl hown1 hown2.bytes rfl rfl ?_ ?_ ?_)
  · omega
  · simp; omega
  intro A3 c3 l3 w3 HL3 hown3 hg3 _
  have hG3 : Grow w w3 := Below.grown HG2.out hg3 (by omega) (fun q hq => by have := hge1 q hq; (try simp at this); omega)
  have hp3 : Box w3 w.heap.size (pcells p A l.length c) := Box.grown (show Box w2 _ _ from p0.out) hg3 (fun q hq => by have := hge1 q hq; (try simp at this); omega)
  clear cp0 fp0 lp0
  clear HG2 p0 hg3
  have p0 := hide hp3
  clear hp3
  have HG3 := hide hG3
  clear hG3
  have e := HL3.out
  rw [← e] at HF hC
  clear e HL3
  have hsz3 : w.heap.size ≤ w3.heap.size := HG3.out.size
  obtain ⟨cp0, fp0, lp0⟩ := (show Box w3 _ _ from p0.out).rules
  go_wp2_with fail
  refine (hC.out _ _ _ hown3.bytes).mono ?_
  rintro r w4 ⟨A4, c4, rfl, hown4, hb4⟩
  go_wp2
  go_ret
  rw [HF.out]
  exact ⟨A4, c4, rfl, hown4.mono hsz3, Grow.trans HG3.out hb4⟩
theorem gotr3_to {B : Option Addr} {b : List UInt8} {A : Option Addr} {r : Ending} {q : Pkt} {rest : List UInt8} {e : Int} (h : GotR3 B b A [] r q [] rest e) : GotPk3 B b r q [] rest e := by
  obtain ⟨A1, c1, A2, c2, h1, h2, h3, h4, h5, h6, h7⟩ := h
  exact ⟨A1, c1, A2, c2, h1, h2, h3, fun _ _ => Bytes.nil _ _, h5, h6, h7⟩
set_option maxRecDepth 100000 in
set_option maxHeartbeats 20000000 in
theorem refdecode_any (B : Option Addr) (b : List UInt8) (cb : Nat) (w : World) (hb : Bytes w B b) (hc : b.length ≤ cb) (hcm : cb ≤ 9223372036854775807) :
    Calls Try.prog 83 #[.slice B b.length cb] w fun r w' => GotD w w' r (dec b).1 (dec b).2.1 (dec b).2.2 := by
  have HQ := hide (show dec b = if 1100 < b.length then (noP, [], 4) else if b.length < 5 then (noP, [], 3) else if Crc.good b = false then (noP, [], 6)
    else if (hg (b.take (b.length - 4))).2.2 ≠ 0 then (noP, [], (hg (b.take (b.length - 4))).2.2)
    else if (gB (hg (b.take (b.length - 4))).2.1 (hg (b.take (b.length - 4))).1).2.2.2 ≠ 0 then (noP, [], (gB (hg (b.take (b.length - 4))).2.1 (hg (b.take (b.length - 4))).1).2.2.2)
    else if (gB (hg (b.take (b.length - 4))).2.1 (hg (b.take (b.length - 4))).1).2.2.1 ≠ [] then (noP, [], 5)
    else ((gB (hg (b.take (b.length - 4))).2.1 (hg (b.take (b.length - 4))).1).1, (gB (hg (b.take (b.length - 4))).2.1 (hg (b.take (b.length - 4))).1).2.1, 0) from rfl)
  generalize dec b = Q at *
  by_cases h1 : 1100 < b.length
  · have HP := hide (HQ.out.trans (if_pos h1))
    clear HQ
    go_enter Try.func83, Try.ntmps83
    go_wp2
    refine bodyPost_ret (v := .tuple #[pv noP none 0 0, .int .i64 4]) (by simp [results, Try.results83, go_sem, noP]) rfl ?_
    rw [HP.out]
    refine gotd_bad ?_
    show Below w.heap.size w _
    repeat (with_reducible refine Below.setCell ?_ (by simp; try omega) _)
    exact (Grow.refl w).alloc _
  rw [if_neg h1] at HQ
  have h11 : b.length ≤ 1100 := by omega
  clear h1
  by_cases h2 : b.length < 5
  · have HP := hide (HQ.out.trans (if_pos h2))
    clear HQ
    go_enter Try.func83, Try.ntmps83
    go_wp2
    refine bodyPost_ret (v := .tuple #[pv noP none 0 0, .int .i64 3]) (by simp [results, Try.results83, go_sem, noP]) rfl ?_
    rw [HP.out]
    refine gotd_bad ?_
    show Below w.heap.size w _
    repeat (with_reducible refine Below.setCell ?_ (by simp; try omega) _)
    exact (Grow.refl w).alloc _
  rw [if_neg h2] at HQ
  have h22 : 5 ≤ b.length := by omega
  clear h2
  have HC := hide (fun W h => refgood_any B b cb W (by omega) hc h)
  cases hgd : Crc.good b with
  | false =>
    have HP := hide (HQ.out.trans (if_pos hgd))
    rw [hgd] at HC
    clear HQ hgd
    go_enter Try.func83, Try.ntmps83
    go_wp2_with fail
    refine (HC.out _ (hb.alloc _)).mono ?_
    rintro r w1 ⟨rfl, hb1⟩
    obtain ⟨q0, hg1⟩ := peel1 hb1
    have q0_ := hide q0
    clear q0
    have q0 := q0_
    clear q0_
    have hb := hb.grow hg1
    have HG1 := hide (show Grow w w1 from hg1)
    have hsz1 : w.heap.size ≤ w1.heap.size := HG1.out.size
    have hq1 : w.heap.size ≤ w1.heap.size := hg1.size
    have HS1 := hide hg1
    clear hb1 hg1
    obtain ⟨cq0, fq0, lq0⟩ := (show Box w1 _ _ from q0.out).rules
    go_wp2
    refine bodyPost_ret (v := .tuple #[pv noP none 0 0, .int .i64 6]) (by simp [results, Try.results83, go_sem, noP, cq0]) rfl ?_
    rw [HP.out]
    refine gotd_bad ?_
    show Below w.heap.size w _
    repeat (with_reducible refine Below.setCell ?_ (by simp; try omega) _)
    exact HG1.out
  | true =>
    rw [if_neg (by rw [hgd]; simp)] at HQ
    rw [hgd] at HC
    clear hgd
    obtain ⟨m, hm⟩ : ∃ m, m = b.take (b.length - 4) := ⟨_, rfl⟩
    have hml : m.length = b.length - 4 := by rw [hm, List.length_take]; omega
    rw [← hm] at HQ
    have hbm := fun (W : World) (h : Bytes W B b) => hm ▸ h.take (b.length - 4)
    have hm4 : (b.length : Int) - 4 = ((m.length : Nat) : Int) := by omega
    have hmc : m.length ≤ cb := by omega
    have hH := hide (fun W h => refheadget_any B m cb W h hmc hcm)
    clear hm
    simp only [hml] at hH
    generalize hg m = T at *
    obtain ⟨p, r1, e1⟩ := T
    dsimp only at *
    have hGB := hide (show gB r1 p = if p.kind = 4 then (gotP (Buf.getBytes r1 1024).2.2 p, (Buf.getBytes r1 1024).1, (Buf.getBytes r1 1024).2.1, (Buf.getBytes r1 1024).2.2)
      else if p.kind = 5 then ((pg3 r1 p).1, [], (pg3 r1 p).2.1, (pg3 r1 p).2.2) else if p.kind = 6 then cg r1 p else ((pg r1 p).1, [], (pg r1 p).2.1, (pg r1 p).2.2) from rfl)
    generalize gB r1 p = U at *
    obtain ⟨q, t, r2, e2⟩ := U
    dsimp only at *
    go_enter Try.func83, Try.ntmps83
    go_wp2_with fail
    refine (HC.out _ (hb.alloc _)).mono ?_
    rintro r w1 ⟨rfl, hb1⟩
    obtain ⟨q0, hg1⟩ := peel1 hb1
    have q0_ := hide q0
    clear q0
    have q0 := q0_
    clear q0_
    have hb := hb.grow hg1
    have HG1 := hide (show Grow w w1 from hg1)
    have hsz1 : w.heap.size ≤ w1.heap.size := HG1.out.size
    have hq1 : w.heap.size ≤ w1.heap.size := hg1.size
    have HS1 := hide hg1
    clear hb1 hg1
    obtain ⟨cq0, fq0, lq0⟩ := (show Box w1 _ _ from q0.out).rules
    have hw01 := lq0
    have hbm1 := hbm _ hb
    go_wp2_with fail
    refine (hH.out _ hbm1).mono ?_
    rintro r w3 ⟨⟨A3, c3, rfl, hc3, hcm3, hr⟩, hb3⟩
    clear cq0 fq0 lq0
    have hg3 := hb3
    have q0_ := hide ((show Box w1 _ _ from q0.out).grow hg3)
    clear q0
    have q0 := q0_
    clear q0_
    have hb := hb.grow hg3
    have HG3 := hide (Grow.trans (show Grow w w1 from HG1.out) hg3)
    clear HG1
    have hsz3 : w.heap.size ≤ w3.heap.size := HG3.out.size
    have hq3 : w1.heap.size ≤ w3.heap.size := hg3.size
    have HS3 := hide hg3
    clear hb3 hg3
    obtain ⟨cq0, fq0, lq0⟩ := (show Box w3 _ _ from q0.out).rules
    by_cases he : e1 = 0
    · rw [if_neg (by simpa using he)] at HQ
      subst he
      have hr1 := hr _ (hbm _ hb)
      by_cases hk : p.kind = 4
      · have hq := hide (hGB.out.trans (if_pos hk))
        have hR := hide (fun W h => refdataget_any A3 r1 c3 p none 0 0 W h hc3 hcm3)
        generalize Buf.getBytes r1 1024 = V at *
        obtain ⟨t', r2', e2'⟩ := V
        obtain ⟨rfl, rfl, rfl, rfl⟩ := (by simpa using hq.out : q = _ ∧ t = _ ∧ r2 = _ ∧ e2 = _)
        dsimp only at hR
        generalize gotP e2 p = q at *
        clear hq hGB
        have k4 : (p.kind == 4) = true := by simp; omega
        have k5 : (p.kind == 5) = false := by simp; omega
        have k6 : (p.kind == 6) = false := by simp; omega
        clear hk
        go_wp2_with fail
        refine (hR.out _ (hr1.alloc _)).mono ?_
        rintro r w4 ⟨⟨A4, c4, A5, c5, rfl, hc4, hcm4, hy, hc5, hcm5, hy2⟩, hb4⟩
        clear cq0 fq0 lq0
        obtain ⟨p0, hg4⟩ := peel1 hb4
        have q0_ := hide ((show Box w3 _ _ from q0.out).grow hg4)
        clear q0
        have q0 := q0_
        clear q0_
        have p0_ := hide p0
        clear p0
        have p0 := p0_
        clear p0_
        have hr1 := hr1.grow hg4
        have HG4 := hide (Grow.trans (show Grow w w3 from HG3.out) hg4)
        clear HG3
        have hsz4 : w.heap.size ≤ w4.heap.size := HG4.out.size
        have hq4 : w3.heap.size ≤ w4.heap.size := hg4.size
        have HS4 := hide hg4
        clear hb4 hg4
        obtain ⟨cq0, fq0, lq0⟩ := (show Box w4 _ _ from q0.out).rules
        obtain ⟨cp0, fp0, lp0⟩ := (show Box w4 _ _ from p0.out).rules
        have hx := hy _ hr1
        have hoff := hx.off_pk (show Box w4 _ (pcells p none 0 0) from p0.out)
        have hoff2 := hx.off_pk (show Box w4 _ (pcells noP none 0 0) from q0.out)
        by_cases he2 : e2 = 0
        · rw [if_neg (by simpa using he2)] at HQ
          subst he2
          go_wp2
          all_goals
            first
            | (have h55 : 0 < r2.length := by first | omega | (simp_all; done)
               have HP := hide (HQ.out.trans (if_pos (by intro h; rw [h] at h55; simp at h55)))
               refine bodyPost_ret (v := .tuple #[pv noP none 0 0, .int .i64 5]) (by simp [results, Try.results83, go_sem, noP, cq0]) rfl ?_
               rw [HP.out]
               refine gotd_bad ?_
               show Below w.heap.size w _
               repeat (with_reducible refine Below.setCell ?_ (by simp; try omega) _)
               exact HG4.out)
            | (have hr20 : r2 = [] := by first | exact List.eq_nil_of_length_eq_zero (by omega) | (simp_all; done)
               have HP := hide (HQ.out.trans (if_neg (by simpa using hr20)))
               refine bodyPost_ret (v := .tuple #[pv q A4 t.length c4, .int .i64 0]) (by simp [results, Try.results83, go_sem, cp0, cq0]) rfl ?_
               rw [HP.out]
               refine ⟨⟨A4, c4, rfl, hc4, hcm4, ?_⟩, ?_⟩
               · by_cases ht : t = []
                 · rw [ht]; exact Bytes.nil _ _
                 · repeat (with_reducible refine Bytes.setAt ?_ ?_ _; rotate_left; · (intro q h; have := hoff ht q h; have := hoff2 ht q h; simp; omega))
                   exact hx
               · show Below w.heap.size w _
                 repeat (with_reducible refine Below.setCell ?_ (by simp; try omega) _)
                 exact HG4.out)
        · have HP := hide (HQ.out.trans (if_pos he2))
          have he2' : (e2 != 0) = true := by simpa using he2
          have he2'' : (e2 == 0) = false := by simpa using he2
          clear he2
          go_wp2
          refine bodyPost_ret (v := .tuple #[pv noP none 0 0, .int .i64 e2]) (by simp [results, Try.results83, go_sem, noP, cq0]) rfl ?_
          rw [HP.out]
          refine gotd_bad ?_
          show Below w.heap.size w _
          repeat (with_reducible refine Below.setCell ?_ (by simp; try omega) _)
          exact HG4.out
      have hGB := hide (hGB.out.trans (if_neg hk))
      by_cases hk5 : p.kind = 5
      · have hq := hide (hGB.out.trans (if_pos hk5))
        have hR := hide (fun W h => refattget_any A3 r1 c3 p none [] 0 W h hc3 hcm3 (by simp) (by decide))
        rw [bodyOf_nil] at hR
        simp only [List.length_nil] at hR
        generalize pg3 r1 p = V at *
        obtain ⟨q', r2', e2'⟩ := V
        obtain ⟨rfl, rfl, rfl, rfl⟩ := (by simpa using hq.out : q = _ ∧ t = _ ∧ r2 = _ ∧ e2 = _)
        dsimp only at hR
        clear hq hGB
        have k4 : (p.kind == 4) = false := by simp; omega
        have k5 : (p.kind == 5) = true := by simp; omega
        have k6 : (p.kind == 6) = false := by simp; omega
        clear hk5
        go_wp2_with fail
        refine (hR.out _ (hr1.alloc _)).mono ?_
        rintro r w4 ⟨hz, hb4⟩
        obtain ⟨A4, c4, A5, c5, rfl, hc4, hcm4, hy, hc5, hcm5, hy2⟩ := gotr3_to hz
        clear cq0 fq0 lq0
        obtain ⟨p0, hg4⟩ := peel1 hb4
        have q0_ := hide ((show Box w3 _ _ from q0.out).grow hg4)
        clear q0
        have q0 := q0_
        clear q0_
        have p0_ := hide p0
        clear p0
        have p0 := p0_
        clear p0_
        have hr1 := hr1.grow hg4
        have HG4 := hide (Grow.trans (show Grow w w3 from HG3.out) hg4)
        clear HG3
        have hsz4 : w.heap.size ≤ w4.heap.size := HG4.out.size
        have hq4 : w3.heap.size ≤ w4.heap.size := hg4.size
        have HS4 := hide hg4
        clear hb4 hg4
        obtain ⟨cq0, fq0, lq0⟩ := (show Box w4 _ _ from q0.out).rules
        obtain ⟨cp0, fp0, lp0⟩ := (show Box w4 _ _ from p0.out).rules
        have hx := hy _ hr1
        have hoff := hx.off_pk (show Box w4 _ (pcells p none 0 0) from p0.out)
        have hoff2 := hx.off_pk (show Box w4 _ (pcells noP none 0 0) from q0.out)
        by_cases he2 : e2 = 0
        · rw [if_neg (by simpa using he2)] at HQ
          subst he2
          go_wp2
          all_goals
            first
            | (have h55 : 0 < r2.length := by first | omega | (simp_all; done)
               have HP := hide (HQ.out.trans (if_pos (by intro h; rw [h] at h55; simp at h55)))
               refine bodyPost_ret (v := .tuple #[pv noP none 0 0, .int .i64 5]) (by simp [results, Try.results83, go_sem, noP, cq0]) rfl ?_
               rw [HP.out]
               refine gotd_bad ?_
               show Below w.heap.size w _
               repeat (with_reducible refine Below.setCell ?_ (by simp; try omega) _)
               exact HG4.out)
            | (have hr20 : r2 = [] := by first | exact List.eq_nil_of_length_eq_zero (by omega) | (simp_all; done)
               have HP := hide (HQ.out.trans (if_neg (by simpa using hr20)))
               refine bodyPost_ret (v := .tuple #[pv q A4 ([] : List UInt8).length c4, .int .i64 0]) (by simp [results, Try.results83, go_sem, cp0, cq0]) rfl ?_
               rw [HP.out]
               refine ⟨⟨A4, c4, rfl, hc4, hcm4, ?_⟩, ?_⟩
               · exact Bytes.nil _ _
               · show Below w.heap.size w _
                 repeat (with_reducible refine Below.setCell ?_ (by simp; try omega) _)
                 exact HG4.out)
        · have HP := hide (HQ.out.trans (if_pos he2))
          have he2' : (e2 != 0) = true := by simpa using he2
          have he2'' : (e2 == 0) = false := by simpa using he2
          clear he2
          go_wp2
          refine bodyPost_ret (v := .tuple #[pv noP none 0 0, .int .i64 e2]) (by simp [results, Try.results83, go_sem, noP, cq0]) rfl ?_
          rw [HP.out]
          refine gotd_bad ?_
          show Below w.heap.size w _
          repeat (with_reducible refine Below.setCell ?_ (by simp; try omega) _)
          exact HG4.out
      have hGB := hide (hGB.out.trans (if_neg hk5))
      by_cases hk6 : p.kind = 6
      · have hq := hide (hGB.out.trans (if_pos hk6))
        have hR := hide (fun W h => refchunkget_any A3 r1 c3 p none 0 0 W h hc3 hcm3)
        generalize cg r1 p = V at *
        obtain ⟨q', t', r2', e2'⟩ := V
        obtain ⟨rfl, rfl, rfl, rfl⟩ := (by simpa using hq.out : q = _ ∧ t = _ ∧ r2 = _ ∧ e2 = _)
        dsimp only at hR
        clear hq hGB
        have k4 : (p.kind == 4) = false := by simp; omega
        have k5 : (p.kind == 5) = false := by simp; omega
        have k6 : (p.kind == 6) = true := by simp; omega
        clear hk6
        go_wp2_with fail
        refine (hR.out _ (hr1.alloc _)).mono ?_
        rintro r w4 ⟨⟨A4, c4, A5, c5, rfl, hc4, hcm4, hy, hc5, hcm5, hy2⟩, hb4⟩
        clear cq0 fq0 lq0
        obtain ⟨p0, hg4⟩ := peel1 hb4
        have q0_ := hide ((show Box w3 _ _ from q0.out).grow hg4)
        clear q0
        have q0 := q0_
        clear q0_
        have p0_ := hide p0
        clear p0
        have p0 := p0_
        clear p0_
        have hr1 := hr1.grow hg4
        have HG4 := hide (Grow.trans (show Grow w w3 from HG3.out) hg4)
        clear HG3
        have hsz4 : w.heap.size ≤ w4.heap.size := HG4.out.size
        have hq4 : w3.heap.size ≤ w4.heap.size := hg4.size
        have HS4 := hide hg4
        clear hb4 hg4
        obtain ⟨cq0, fq0, lq0⟩ := (show Box w4 _ _ from q0.out).rules
        obtain ⟨cp0, fp0, lp0⟩ := (show Box w4 _ _ from p0.out).rules
        have hx := hy _ hr1
        have hoff := hx.off_pk (show Box w4 _ (pcells p none 0 0) from p0.out)
        have hoff2 := hx.off_pk (show Box w4 _ (pcells noP none 0 0) from q0.out)
        by_cases he2 : e2 = 0
        · rw [if_neg (by simpa using he2)] at HQ
          subst he2
          go_wp2
          all_goals
            first
            | (have h55 : 0 < r2.length := by first | omega | (simp_all; done)
               have HP := hide (HQ.out.trans (if_pos (by intro h; rw [h] at h55; simp at h55)))
               refine bodyPost_ret (v := .tuple #[pv noP none 0 0, .int .i64 5]) (by simp [results, Try.results83, go_sem, noP, cq0]) rfl ?_
               rw [HP.out]
               refine gotd_bad ?_
               show Below w.heap.size w _
               repeat (with_reducible refine Below.setCell ?_ (by simp; try omega) _)
               exact HG4.out)
            | (have hr20 : r2 = [] := by first | exact List.eq_nil_of_length_eq_zero (by omega) | (simp_all; done)
               have HP := hide (HQ.out.trans (if_neg (by simpa using hr20)))
               refine bodyPost_ret (v := .tuple #[pv q A4 t.length c4, .int .i64 0]) (by simp [results, Try.results83, go_sem, cp0, cq0]) rfl ?_
               rw [HP.out]
               refine ⟨⟨A4, c4, rfl, hc4, hcm4, ?_⟩, ?_⟩
               · by_cases ht : t = []
                 · rw [ht]; exact Bytes.nil _ _
                 · repeat (with_reducible refine Bytes.setAt ?_ ?_ _; rotate_left; · (intro q h; have := hoff ht q h; have := hoff2 ht q h; simp; omega))
                   exact hx
               · show Below w.heap.size w _
                 repeat (with_reducible refine Below.setCell ?_ (by simp; try omega) _)
                 exact HG4.out)
        · have HP := hide (HQ.out.trans (if_pos he2))
          have he2' : (e2 != 0) = true := by simpa using he2
          have he2'' : (e2 == 0) = false := by simpa using he2
          clear he2
          go_wp2
          refine bodyPost_ret (v := .tuple #[pv noP none 0 0, .int .i64 e2]) (by simp [results, Try.results83, go_sem, noP, cq0]) rfl ?_
          rw [HP.out]
          refine gotd_bad ?_
          show Below w.heap.size w _
          repeat (with_reducible refine Below.setCell ?_ (by simp; try omega) _)
          exact HG4.out
      have hq := hide (hGB.out.trans (if_neg hk6))
      have hR := hide (fun W h => refpulseget_any A3 r1 c3 p none [] 0 W h hc3 hcm3 (by simp) (by decide))
      rw [bodyOf_nil] at hR
      simp only [List.length_nil] at hR
      generalize pg r1 p = V at *
      obtain ⟨q', r2', e2'⟩ := V
      obtain ⟨rfl, rfl, rfl, rfl⟩ := (by simpa using hq.out : q = _ ∧ t = _ ∧ r2 = _ ∧ e2 = _)
      dsimp only at hR
      clear hq hGB
      have k4 : (p.kind == 4) = false := by simp; omega
      have k5 : (p.kind == 5) = false := by simp; omega
      have k6 : (p.kind == 6) = false := by simp; omega
      go_wp2_with fail
      refine (hR.out _ (hr1.alloc _)).mono ?_
      rintro r w4 ⟨hz, hb4⟩
      obtain ⟨A4, c4, A5, c5, rfl, hc4, hcm4, hy, hc5, hcm5, hy2⟩ := gotr3_to hz
      clear cq0 fq0 lq0
      obtain ⟨p0, hg4⟩ := peel1 hb4
      have q0_ := hide ((show Box w3 _ _ from q0.out).grow hg4)
      clear q0
      have q0 := q0_
      clear q0_
      have p0_ := hide p0
      clear p0
      have p0 := p0_
      clear p0_
      have hr1 := hr1.grow hg4
      have HG4 := hide (Grow.trans (show Grow w w3 from HG3.out) hg4)
      clear HG3
      have hsz4 : w.heap.size ≤ w4.heap.size := HG4.out.size
      have hq4 : w3.heap.size ≤ w4.heap.size := hg4.size
      have HS4 := hide hg4
      clear hb4 hg4
      obtain ⟨cq0, fq0, lq0⟩ := (show Box w4 _ _ from q0.out).rules
      obtain ⟨cp0, fp0, lp0⟩ := (show Box w4 _ _ from p0.out).rules
      have hx := hy _ hr1
      have hoff := hx.off_pk (show Box w4 _ (pcells p none 0 0) from p0.out)
      have hoff2 := hx.off_pk (show Box w4 _ (pcells noP none 0 0) from q0.out)
      by_cases he2 : e2 = 0
      · rw [if_neg (by simpa using he2)] at HQ
        subst he2
        go_wp2
        all_goals
          first
          | (have h55 : 0 < r2.length := by first | omega | (simp_all; done)
             have HP := hide (HQ.out.trans (if_pos (by intro h; rw [h] at h55; simp at h55)))
             refine bodyPost_ret (v := .tuple #[pv noP none 0 0, .int .i64 5]) (by simp [results, Try.results83, go_sem, noP, cq0]) rfl ?_
             rw [HP.out]
             refine gotd_bad ?_
             show Below w.heap.size w _
             repeat (with_reducible refine Below.setCell ?_ (by simp; try omega) _)
             exact HG4.out)
          | (have hr20 : r2 = [] := by first | exact List.eq_nil_of_length_eq_zero (by omega) | (simp_all; done)
             have HP := hide (HQ.out.trans (if_neg (by simpa using hr20)))
             refine bodyPost_ret (v := .tuple #[pv q A4 ([] : List UInt8).length c4, .int .i64 0]) (by simp [results, Try.results83, go_sem, cp0, cq0]) rfl ?_
             rw [HP.out]
             refine ⟨⟨A4, c4, rfl, hc4, hcm4, ?_⟩, ?_⟩
             · exact Bytes.nil _ _
             · show Below w.heap.size w _
               repeat (with_reducible refine Below.setCell ?_ (by simp; try omega) _)
               exact HG4.out)
      · have HP := hide (HQ.out.trans (if_pos he2))
        have he2' : (e2 != 0) = true := by simpa using he2
        have he2'' : (e2 == 0) = false := by simpa using he2
        clear he2
        go_wp2
        refine bodyPost_ret (v := .tuple #[pv noP none 0 0, .int .i64 e2]) (by simp [results, Try.results83, go_sem, noP, cq0]) rfl ?_
        rw [HP.out]
        refine gotd_bad ?_
        show Below w.heap.size w _
        repeat (with_reducible refine Below.setCell ?_ (by simp; try omega) _)
        exact HG4.out
    · have HP := hide (HQ.out.trans (if_pos he))
      have he' : (e1 != 0) = true := by simpa using he
      clear he
      go_wp2
      refine bodyPost_ret (v := .tuple #[pv noP none 0 0, .int .i64 e1]) (by simp [results, Try.results83, go_sem, noP, cq0, lq0]) rfl ?_
      rw [HP.out]
      refine gotd_bad ?_
      show Below w.heap.size w _
      repeat (first | (with_reducible refine Below.setCell ?_ (by simp; try omega) _) | (with_reducible refine Below.alloc ?_ (by simp; try omega) _))
      exact HG3.out
end Go.Proofs.Ytpobjcdcimcdnaa
