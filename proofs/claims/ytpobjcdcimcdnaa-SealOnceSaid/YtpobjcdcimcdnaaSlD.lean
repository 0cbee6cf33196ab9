/- Frames: what is encoded is decoded; the example; a packet that is cut short. -/
import Derived.Test.YtpobjcdcimcdnaaSlC
namespace Go.Proofs.Ytpobjcdcimcdnaa
open Go.RowKit
theorem data_base (p : Pkt) (n : Nat) (h : dataB p n = true) : sameB p (base p) = true := by
  rw [data_same] at h
  simp only [Bool.and_eq_true] at h
  have h1 := h.1.1
  have hk := data_kind p n (by rw [data_same]; simp [h.1.1, h.1.2, h.2])
  have hh : p.hops = (dataP p.t p.frm p.seq p.hops).hops := rfl
  simp [sameB, restB, keyEq, base] at h1 ⊢
  exact ⟨⟨⟨⟨⟨h1.1.1.1.1.1.2, h1.1.1.1.1.2⟩, h1.1.1.1.2⟩, h1.1.1.2⟩, h1.1.2⟩, h1.2⟩
/-- what stands behind a head is read as it was -/
theorem body_back (p : Pkt) (l : List UInt8) (ok : p.Ok) (h : sealB p l = true) : ∃ q, gB (bodyBytes p l) (base p) = (q, l, [], 0) ∧ sameB p q = true := by
  obtain ⟨h1, h2⟩ := sealB_range p l h
  obtain ⟨hbl, hll⟩ := body_len p l h
  have hbk : (base p).kind = p.kind := rfl
  unfold gB bodyBytes
  rw [hbk]
  by_cases k4 : p.kind = 4
  · rw [if_pos k4, if_pos k4]
    rw [sealB_data p l k4] at h
    have hg : Buf.getBytes (Buf.sevens l.length ++ l) 1024 = (l, [], 0) := by
      have h := Buf.bytes_get_back l [] 1024 (by omega) (by omega)
      rwa [List.append_nil] at h
    rw [hg]
    exact ⟨base p, rfl, data_base p _ h⟩
  · rw [if_neg k4, if_neg k4]
    by_cases k5 : p.kind = 5
    · rw [if_pos k5, if_pos k5]
      rw [sealB_att p l k5] at h
      obtain ⟨hb, hs, hl⟩ := att_back p l h []
      rw [List.append_nil] at hb
      have hbase : base p = attP p.t p.frm p.seq p.hops 0 := by unfold base; rw [k5]
      rw [hbase, hb, hl]
      exact ⟨_, rfl, hs⟩
    · rw [if_neg k5, if_neg k5]
      by_cases k6 : p.kind = 6
      · rw [if_pos k6, if_pos k6]
        rw [sealB_chunk p l k6] at h
        have hbase : base p = chunkH p := by unfold base; rw [k6]
        rw [hbase]
        exact chunk_back p l h
      · rw [if_neg k6, if_neg k6]
        rw [sealB_pulse p l (by omega)] at h
        obtain ⟨q, hb, hs⟩ := pulse_back p l ok h []
        rw [List.append_nil] at hb
        have hl := (pulse_kind p l h).2.2
        rw [hb, hl]
        exact ⟨q, rfl, hs⟩
theorem seal_head (p : Pkt) (l : List UInt8) (h : sealB p l = true) : headB p = true := by
  unfold sealB at h
  simp only [Bool.or_eq_true] at h
  rcases h with h | h | h | h
  · exact (pulse_kind p l h).2.1
  · simp [dataB] at h; exact h.1.1.2
  · unfold attB at h; simp only [Bool.and_eq_true] at h; exact h.1.2
  · simp [chunkB] at h; exact h.1.2
theorem headBytes_pos (p : Pkt) : 1 ≤ (headBytes p).length := by
  unfold headBytes
  split
  · simp only [List.length_append, List.length_cons, List.length_nil]; omega
  · simp
theorem frame_len (p : Pkt) (l : List UInt8) : (frameOf p l).length = (headBytes p).length + (bodyBytes p l).length + 4 := by
  unfold frameOf
  rw [seal_len, List.length_append]
theorem dec_frame (p : Pkt) (l : List UInt8) (ok : p.Ok) (h : sealB p l = true) : ∃ q, dec (frameOf p l) = (q, l, 0) ∧ sameB p q = true := by
  obtain ⟨q, hq, hs⟩ := body_back p l ok h
  have hL := frame_len p l
  obtain ⟨hbl, hll⟩ := body_len p l h
  have hh := headBytes_len p
  have hp := headBytes_pos p
  have hsq := bounds_u32 ok.seq
  have ht : (frameOf p l).take ((frameOf p l).length - 4) = headBytes p ++ bodyBytes p l := by
    rw [hL, show (headBytes p).length + (bodyBytes p l).length + 4 - 4 = (headBytes p ++ bodyBytes p l).length by rw [List.length_append]; omega]
    unfold frameOf Crc.seal_
    exact List.take_left
  have hd := head_back p hsq.1 (by omega) (seal_head p l h) (bodyBytes p l)
  refine ⟨q, ?_, hs⟩
  unfold dec
  rw [ht, hd, if_neg (by omega), if_neg (by omega), show Crc.good (frameOf p l) = true from Crc.good_seal _, if_neg (by simp), if_neg (by simp)]
  dsimp only
  rw [hq, if_neg (by simp), if_neg (by simp)]
theorem dec_bad (b : List UInt8) (h1 : b.length ≤ 1100) (h2 : 5 ≤ b.length) (h : Crc.good b = false) : dec b = (noP, [], 6) := by
  unfold dec
  rw [if_neg (by omega), if_neg (by omega), if_pos h]
def ex14 : Pkt := { kind := 1, t := 0, frm := 0, seq := 0, hops := 0, no := 0, to := 0, index := 0, total := 0, stamp := 0, value := 0 }
theorem ex14_ok : ex14.Ok := ⟨by decide, by decide, by decide, by decide, by decide, by decide, by decide, by decide, by decide, by decide, by decide⟩
theorem ex14_good : sealB ex14 [] = true := by decide
theorem ex14_len : (frameOf ex14 []).length = 13 := by rw [frame_len]; decide
set_option maxRecDepth 100000 in
set_option maxHeartbeats 2000000 in
theorem works14_any (w : World) : Calls Try.prog 80 #[] w fun e w' => e = .returned (.bool true) ∧ Grow w w' := by
  obtain ⟨q, hq, hs⟩ := dec_frame ex14 [] ex14_ok ex14_good
  have hqk : q.kind = 1 := by simp [sameB, restB, ex14] at hs; omega
  have kB : (q.kind == 1) = true := by rw [hqk]; rfl
  have hqk := hide hqk
  have hE := hide (fun W => encode_yes ex14 none [] 0 W (Bytes.nil _ _) (by simp) (by simp [blk]) ex14_good)
  have hZ := hide (fun W => size_yes ex14 none [] 0 W (Bytes.nil _ _) (by simp) (by simp [blk]) ex14_good)
  have hl13 := hide ex14_len
  have hlB : (((frameOf ex14 []).length : Int) == 13) = true := by rw [ex14_len]; rfl
  have hD := hide (fun A c W h h1 h2 => decode_any A (frameOf ex14 []) c W h h1 h2)
  rw [hq] at hD
  dsimp only at hD
  rw [hl13.out] at hZ
  generalize frameOf ex14 [] = fr at *
  clear hq hs
  go_enter Try.func80, Try.ntmps80
  go_wp2_with fail
  refine (hE.out _).mono ?_
  rintro r w1 ⟨⟨A1, c1, rfl, hown1⟩, hb1⟩
  have h1 := hown1.bytes
  have hc1 := hown1.le
  clear hown1
  obtain ⟨p0, hg1⟩ := peel1 hb1
  have p0_ := hide p0
  clear p0
  have p0 := p0_
  clear p0_
  have HG1 := hide (show Grow w w1 from hg1)
  have hsz1 : w.heap.size ≤ w1.heap.size := HG1.out.size
  have hq1 : w.heap.size ≤ w1.heap.size := hg1.size
  have HS1 := hide hg1
  clear hb1 hg1
  obtain ⟨cp0, fp0, lp0⟩ := (show Box w1 _ _ from p0.out).rules
  go_wp2_with fail
  refine (hD.out _ _ _ h1 hc1.1 hc1.2).mono ?_
  rintro r w2 ⟨⟨A2, c2, rfl, hc2, hcm2, hx⟩, hb2⟩
  clear cp0 fp0 lp0
  have hg2 := hb2
  have p0_ := hide ((show Box w1 _ _ from p0.out).grow hg2)
  clear p0
  have p0 := p0_
  clear p0_
  have h1 := h1.grow hg2
  have HG2 := hide (Grow.trans (show Grow w w1 from HG1.out) hg2)
  clear HG1
  have hsz2 : w.heap.size ≤ w2.heap.size := HG2.out.size
  have hq2 : w1.heap.size ≤ w2.heap.size := hg2.size
  have HS2 := hide hg2
  clear hb2 hg2
  obtain ⟨cp0, fp0, lp0⟩ := (show Box w2 _ _ from p0.out).rules
  go_wp2_with fail
  refine (hZ.out _).mono ?_
  rintro r w3 ⟨rfl, hb3⟩
  clear cp0 fp0 lp0
  obtain ⟨q0, hg3⟩ := peel1 hb3
  have p0_ := hide ((show Box w2 _ _ from p0.out).grow hg3)
  clear p0
  have p0 := p0_
  clear p0_
  have q0_ := hide q0
  clear q0
  have q0 := q0_
  clear q0_
  have h1 := h1.grow hg3
  have HG3 := hide (Grow.trans (show Grow w w2 from HG2.out) hg3)
  clear HG2
  have hsz3 : w.heap.size ≤ w3.heap.size := HG3.out.size
  have hq3 : w2.heap.size ≤ w3.heap.size := hg3.size
  have HS3 := hide hg3
  clear hb3 hg3
  obtain ⟨cp0, fp0, lp0⟩ := (show Box w3 _ _ from p0.out).rules
  obtain ⟨cq0, fq0, lq0⟩ := (show Box w3 _ _ from q0.out).rules
  go_wp2
  go_ret
  exact ⟨by first | rfl | simp [hqk.out, hl13.out], HG3.out⟩
set_option maxRecDepth 100000 in
set_option maxHeartbeats 2000000 in
theorem cut14_any (p : Pkt) (A : Option Addr) (l : List UInt8) (c : Nat) (w : World) (hl : l.length ≤ c) (hc : c ≤ 9223372036854775807) (hb : Bytes w A l) :
    Calls Try.prog 75 #[pv p A l.length c] w fun e w' => ∃ A' c', e = .returned (pv p A' (l.take 1030).length c') ∧ Own w' w.heap.size A' c' (l.take 1030) ∧ Grow w w' := by
  by_cases h : l.length ≤ 1030
  · have HT : Hid (l.take 1030 = l) := hide (List.take_of_length_le h)
    go_enter Try.func75, Try.ntmps75
    go_wp2_with (at_builtin; refine wpList_append_bytes byteT rfl (.tmp 3) (.tmp 10) rfl (Own.made' ((w.alloc (.cells (pcells p A l.length c) 65)).alloc (.cells (pcells noP none 0 0) 65)) w.heap.size (w.heap.size + 1 + 1) (by simp) (by omega)) (((hb.alloc _).alloc _).alloc _) rfl rfl ?_ ?_ ?_)
    · simp; omega
    · simp; omega
    intro A' c' l' w2 HL hown hg hat
    obtain ⟨p0, q0, hg2⟩ := app2 hg rfl
    have hq : ∀ q, blk A' = some q → q ≠ w.heap.size ∧ q ≠ w.heap.size + 1 := fun q hq => by
      rcases hat with h | h
      · rw [h] at hq; simp [blk] at hq; omega
      · rw [h] at hq; simp at hq; omega
    obtain ⟨cp0, fp0, lp0⟩ := p0.rules
    obtain ⟨cq0, fq0, lq0⟩ := q0.rules
    clear hg hat
    go_wp2
    have e : l' = l.take 1030 := by rw [HT.out]; exact HL.out.trans (by simp)
    subst e
    refine bodyPost_ret (v := pv p A' (l.take 1030).length c') (by simp [results, Try.results75, go_sem, cq0]) rfl ?_
    refine ⟨A', c', rfl, ?_, ?_⟩
    · repeat (with_reducible refine Own.setAt ?_ ?_ _; rotate_left; · (intro q h; have := hq q h; simp; omega))
      exact hown
    · show Below w.heap.size w _
      repeat (with_reducible refine Below.setCell ?_ (by simp) _)
      exact hg2
  · have HT : Hid (1030 = (l.take 1030).length) := hide (by rw [List.length_take]; omega)
    have hb' : Bytes w A (l.take 1030) := hb.take 1030
    go_enter Try.func75, Try.ntmps75
    go_wp2_with (at_builtin; refine wpList_append_bytes byteT rfl (.tmp 3) (.tmp 10) rfl (Own.made' ((w.alloc (.cells (pcells p A l.length c) 65)).alloc (.cells (pcells noP none 0 0) 65)) w.heap.size (w.heap.size + 1 + 1) (by simp) (by omega)) (((hb'.alloc _).alloc _).alloc _) rfl (by rw [← HT.out]; rfl) ?_ ?_ ?_)
    · rw [← HT.out]; simp
    · simp; omega
    intro A' c' l' w2 HL hown hg hat
    obtain ⟨p0, q0, hg2⟩ := app2 hg rfl
    have hq : ∀ q, blk A' = some q → q ≠ w.heap.size ∧ q ≠ w.heap.size + 1 := fun q hq => by
      rcases hat with h | h
      · rw [h] at hq; simp [blk] at hq; omega
      · rw [h] at hq; simp at hq; omega
    obtain ⟨cp0, fp0, lp0⟩ := p0.rules
    obtain ⟨cq0, fq0, lq0⟩ := q0.rules
    clear hg hat
    go_wp2
    have e : l' = l.take 1030 := by exact HL.out.trans (by simp)
    subst e
    refine bodyPost_ret (v := pv p A' (l.take 1030).length c') (by simp [results, Try.results75, go_sem, cq0]) rfl ?_
    refine ⟨A', c', rfl, ?_, ?_⟩
    · repeat (with_reducible refine Own.setAt ?_ ?_ _; rotate_left; · (intro q h; have := hq q h; simp; omega))
      exact hown
    · show Below w.heap.size w _
      repeat (with_reducible refine Below.setCell ?_ (by simp) _)
      exact hg2
end Go.Proofs.Ytpobjcdcimcdnaa
