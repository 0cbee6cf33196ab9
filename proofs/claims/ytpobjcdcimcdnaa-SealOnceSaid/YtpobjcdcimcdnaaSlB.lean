/- Frames that are read: the plain law, the walks of seal.get, seal.Decode and of the document. -/
import Derived.Test.YtpobjcdcimcdnaaSlA
namespace Go.Proofs.Ytpobjcdcimcdnaa
open Go.RowKit
/-- what stands behind a head, read by its kind: the packet, the body, the rest, what is wrong -/
def gB (b : List UInt8) (p : Pkt) : Pkt × List UInt8 × List UInt8 × Int :=
  if p.kind = 4 then (gotP (Buf.getBytes b 1024).2.2 p, (Buf.getBytes b 1024).1, (Buf.getBytes b 1024).2.1, (Buf.getBytes b 1024).2.2)
  else if p.kind = 5 then ((pg3 b p).1, [], (pg3 b p).2.1, (pg3 b p).2.2) else if p.kind = 6 then cg b p else ((pg b p).1, [], (pg b p).2.1, (pg b p).2.2)
/-- a frame's packet -/
def dec (b : List UInt8) : Pkt × List UInt8 × Int :=
  if 1100 < b.length then (noP, [], 4) else if b.length < 5 then (noP, [], 3) else if Crc.good b = false then (noP, [], 6)
  else if (hg (b.take (b.length - 4))).2.2 ≠ 0 then (noP, [], (hg (b.take (b.length - 4))).2.2)
  else if (gB (hg (b.take (b.length - 4))).2.1 (hg (b.take (b.length - 4))).1).2.2.2 ≠ 0 then (noP, [], (gB (hg (b.take (b.length - 4))).2.1 (hg (b.take (b.length - 4))).1).2.2.2)
  else if (gB (hg (b.take (b.length - 4))).2.1 (hg (b.take (b.length - 4))).1).2.2.1 ≠ [] then (noP, [], 5)
  else ((gB (hg (b.take (b.length - 4))).2.1 (hg (b.take (b.length - 4))).1).1, (gB (hg (b.take (b.length - 4))).2.1 (hg (b.take (b.length - 4))).1).2.1, 0)
theorem bodyOf_nil (e : Int) : bodyOf e [] = [] := by unfold bodyOf; split <;> rfl
theorem Bytes.off_pk {w : World} {g : Nat} {p : Pkt} {A B : Option Addr} {n c : Nat} {l : List UInt8} (hb : Bytes w B l) (hx : Box w g (pcells p A n c)) : l ≠ [] → ∀ q, blk B = some q → q ≠ g := by
  intro hl q hq e
  obtain ⟨b, o, rfl, hc⟩ := hb.at_ 0 (List.length_pos_iff.2 hl)
  have hbq : b = q := by simpa [blk] using hq
  subst hbq e
  rw [hx.cell] at hc
  match o, hc with
  | 0, hc => simp at hc
  | 1, hc => simp at hc
  | 2, hc => simp at hc
  | 3, hc => simp at hc
  | 4, hc => simp at hc
  | 5, hc => simp at hc
  | 6, hc => simp at hc
  | 7, hc => simp at hc
  | 8, hc => simp at hc
  | 9, hc => simp at hc
  | 10, hc => simp at hc
  | 11, hc => simp at hc
  | k + 12, hc => simp at hc
set_option maxRecDepth 100000 in
set_option maxHeartbeats 2000000 in
theorem sealget_any (N pr : Nat) (b : List UInt8) (p : Pkt) (w : World) (h : Rd w N pr (b, 0)) (hbl : b.length ≤ 1000000) :
    Calls Try.prog 127 #[.pointer (some ⟨pr, 0, none⟩), pv p none 0 0] w fun r w' => GotC w w' r N pr (gB b p).1 (gB b p).2.1 (gB b p).2.2.1 (gB b p).2.2.2 := by
  have hpr : pr < w.heap.size := Nat.lt_of_lt_of_le h.lt h.size
  have hN := h.size
  have hg0 := hide (((Grow.refl w).alloc (.cells (pcells p none 0 0) 65)).alloc (.cells (pcells noP none 0 0) 65))
  have H6 := hide (fun W h => chunkget_any N pr b p none 0 0 W h hbl)
  have H4 := hide (fun W h => dataget_any N pr (b, 0) p none 0 0 W h (by simp; omega))
  have H5 := hide (fun W h => attget_any N pr b p none [] 0 W h (Bytes.nil _ _) (fun e => absurd rfl e) (by simp) (by decide))
  have H1 := hide (fun W h => pulseget_any N pr b p none [] 0 W h (Bytes.nil _ _) (fun e => absurd rfl e) (by simp) (by decide))
  rw [show rbytes 1024 (b, 0) = Buf.getBytes b 1024 from rfl] at H4
  rw [bodyOf_nil] at H5 H1
  simp only [List.length_nil] at H5 H1
  unfold gB
  by_cases hk : p.kind = 4
  · rw [if_pos hk]
    generalize Buf.getBytes b 1024 = T at *
    obtain ⟨t, rest, e1⟩ := T
    dsimp only at *
    generalize gotP e1 p = q at *
    have k4 : (p.kind == 4) = true := by simp; omega
    have k5 : (p.kind == 5) = false := by simp; omega
    have k6 : (p.kind == 6) = false := by simp; omega
    clear hk
    go_enter Try.func127, Try.ntmps127
    go_wp2_with fail
    refine (H4.out _ (h.grow (((Grow.refl w).alloc _).alloc _))).mono ?_
    rintro r w1 ⟨⟨A1, c1, rfl, hc1, hcm1, hx⟩, hr1, hb1⟩
    obtain ⟨p0, q0, hg1⟩ := peelK2 hb1 (by simp; omega) (by simp; omega)
    have p0_ := hide p0
    clear p0
    have p0 := p0_
    clear p0_
    have q0_ := hide q0
    clear q0
    have q0 := q0_
    clear q0_
    have HK1 := hide (show Kept w.heap.size [pr] w w1 from hg1)
    have hsz1 : w.heap.size ≤ w1.heap.size := HK1.out.size
    have hq1 : w.heap.size ≤ w1.heap.size := hg1.size
    have HS1 := hide hg1
    clear hb1 hg1
    obtain ⟨cp0, fp0, lp0⟩ := (show Box w1 _ _ from p0.out).rules
    obtain ⟨cq0, fq0, lq0⟩ := (show Box w1 _ _ from q0.out).rules
    have hoff := hx.off_pk (show Box w1 _ (pcells noP none 0 0) from q0.out)
    go_wp2
    refine bodyPost_ret (v := .tuple #[pv q A1 t.length c1, .int .i64 e1]) (by simp [results, Try.results127, go_sem, cq0]) rfl ?_
    refine ⟨⟨A1, c1, rfl, hc1, hcm1, ?_⟩, fun he => ?_, ?_⟩
    · by_cases ht : t = []
      · rw [ht]; exact Bytes.nil _ _
      · repeat (with_reducible refine Bytes.setAt ?_ ?_ _; rotate_left; · (intro q h; have := hoff ht q h; simp; omega))
        exact hx
    · repeat (with_reducible refine Rd.setOther ?_ (by simp; omega) _)
      exact (he ▸ hr1)
    · repeat (with_reducible refine Kept.setCell ?_ (.inl (by simp; try omega)) _)
      exact HK1.out
  rw [if_neg hk]
  have m4 := hk
  clear hk
  by_cases hk : p.kind = 5
  · rw [if_pos hk]
    generalize pg3 b p = T at *
    obtain ⟨q, rest, e1⟩ := T
    dsimp only at *
    generalize ht0 : ([] : List UInt8) = t at *
    clear ht0
    have k4 : (p.kind == 4) = false := by simp; omega
    have k5 : (p.kind == 5) = true := by simp; omega
    have k6 : (p.kind == 6) = false := by simp; omega
    clear hk
    go_enter Try.func127, Try.ntmps127
    go_wp2_with fail
    refine (H5.out _ (h.grow (((Grow.refl w).alloc _).alloc _))).mono ?_
    rintro r w1 ⟨⟨A1, c1, rfl, hc1, hcm1, hx⟩, hr1, hb1⟩
    obtain ⟨p0, q0, hg1⟩ := peelK2 hb1 (by simp; omega) (by simp; omega)
    have p0_ := hide p0
    clear p0
    have p0 := p0_
    clear p0_
    have q0_ := hide q0
    clear q0
    have q0 := q0_
    clear q0_
    have HK1 := hide (show Kept w.heap.size [pr] w w1 from hg1)
    have hsz1 : w.heap.size ≤ w1.heap.size := HK1.out.size
    have hq1 : w.heap.size ≤ w1.heap.size := hg1.size
    have HS1 := hide hg1
    clear hb1 hg1
    obtain ⟨cp0, fp0, lp0⟩ := (show Box w1 _ _ from p0.out).rules
    obtain ⟨cq0, fq0, lq0⟩ := (show Box w1 _ _ from q0.out).rules
    have hoff := hx.off_pk (show Box w1 _ (pcells noP none 0 0) from q0.out)
    go_wp2
    refine bodyPost_ret (v := .tuple #[pv q A1 t.length c1, .int .i64 e1]) (by simp [results, Try.results127, go_sem, cq0]) rfl ?_
    refine ⟨⟨A1, c1, rfl, hc1, hcm1, ?_⟩, fun he => ?_, ?_⟩
    · by_cases ht : t = []
      · rw [ht]; exact Bytes.nil _ _
      · repeat (with_reducible refine Bytes.setAt ?_ ?_ _; rotate_left; · (intro q h; have := hoff ht q h; simp; omega))
        exact hx
    · repeat (with_reducible refine Rd.setOther ?_ (by simp; omega) _)
      exact (hr1 he)
    · repeat (with_reducible refine Kept.setCell ?_ (.inl (by simp; try omega)) _)
      exact HK1.out
  rw [if_neg hk]
  have m5 := hk
  clear hk
  by_cases hk : p.kind = 6
  · rw [if_pos hk]
    generalize cg b p = T at *
    obtain ⟨q, t, rest, e1⟩ := T
    dsimp only at *
    have k4 : (p.kind == 4) = false := by simp; omega
    have k5 : (p.kind == 5) = false := by simp; omega
    have k6 : (p.kind == 6) = true := by simp; omega
    clear hk
    go_enter Try.func127, Try.ntmps127
    go_wp2_with fail
    refine (H6.out _ (h.grow (((Grow.refl w).alloc _).alloc _))).mono ?_
    rintro r w1 ⟨⟨A1, c1, rfl, hc1, hcm1, hx⟩, hr1, hb1⟩
    obtain ⟨p0, q0, hg1⟩ := peelK2 hb1 (by simp; omega) (by simp; omega)
    have p0_ := hide p0
    clear p0
    have p0 := p0_
    clear p0_
    have q0_ := hide q0
    clear q0
    have q0 := q0_
    clear q0_
    have HK1 := hide (show Kept w.heap.size [pr] w w1 from hg1)
    have hsz1 : w.heap.size ≤ w1.heap.size := HK1.out.size
    have hq1 : w.heap.size ≤ w1.heap.size := hg1.size
    have HS1 := hide hg1
    clear hb1 hg1
    obtain ⟨cp0, fp0, lp0⟩ := (show Box w1 _ _ from p0.out).rules
    obtain ⟨cq0, fq0, lq0⟩ := (show Box w1 _ _ from q0.out).rules
    have hoff := hx.off_pk (show Box w1 _ (pcells noP none 0 0) from q0.out)
    go_wp2
    refine bodyPost_ret (v := .tuple #[pv q A1 t.length c1, .int .i64 e1]) (by simp [results, Try.results127, go_sem, cq0]) rfl ?_
    refine ⟨⟨A1, c1, rfl, hc1, hcm1, ?_⟩, fun he => ?_, ?_⟩
    · by_cases ht : t = []
      · rw [ht]; exact Bytes.nil _ _
      · repeat (with_reducible refine Bytes.setAt ?_ ?_ _; rotate_left; · (intro q h; have := hoff ht q h; simp; omega))
        exact hx
    · repeat (with_reducible refine Rd.setOther ?_ (by simp; omega) _)
      exact (hr1 he)
    · repeat (with_reducible refine Kept.setCell ?_ (.inl (by simp; try omega)) _)
      exact HK1.out
  rw [if_neg hk]
  have m6 := hk
  clear hk
  generalize pg b p = T at *
  obtain ⟨q, rest, e1⟩ := T
  dsimp only at *
  generalize ht0 : ([] : List UInt8) = t at *
  clear ht0
  have k4 : (p.kind == 4) = false := by simp; omega
  have k5 : (p.kind == 5) = false := by simp; omega
  have k6 : (p.kind == 6) = false := by simp; omega
  clear m4 m5 m6
  go_enter Try.func127, Try.ntmps127
  go_wp2_with fail
  refine (H1.out _ (h.grow (((Grow.refl w).alloc _).alloc _))).mono ?_
  rintro r w1 ⟨⟨A1, c1, rfl, hc1, hcm1, hx⟩, hr1, hb1⟩
  obtain ⟨p0, q0, hg1⟩ := peelK2 hb1 (by simp; omega) (by simp; omega)
  have p0_ := hide p0
  clear p0
  have p0 := p0_
  clear p0_
  have q0_ := hide q0
  clear q0
  have q0 := q0_
  clear q0_
  have HK1 := hide (show Kept w.heap.size [pr] w w1 from hg1)
  have hsz1 : w.heap.size ≤ w1.heap.size := HK1.out.size
  have hq1 : w.heap.size ≤ w1.heap.size := hg1.size
  have HS1 := hide hg1
  clear hb1 hg1
  obtain ⟨cp0, fp0, lp0⟩ := (show Box w1 _ _ from p0.out).rules
  obtain ⟨cq0, fq0, lq0⟩ := (show Box w1 _ _ from q0.out).rules
  have hoff := hx.off_pk (show Box w1 _ (pcells noP none 0 0) from q0.out)
  go_wp2
  refine bodyPost_ret (v := .tuple #[pv q A1 t.length c1, .int .i64 e1]) (by simp [results, Try.results127, go_sem, cq0]) rfl ?_
  refine ⟨⟨A1, c1, rfl, hc1, hcm1, ?_⟩, fun he => ?_, ?_⟩
  · by_cases ht : t = []
    · rw [ht]; exact Bytes.nil _ _
    · repeat (with_reducible refine Bytes.setAt ?_ ?_ _; rotate_left; · (intro q h; have := hoff ht q h; simp; omega))
      exact hx
  · repeat (with_reducible refine Rd.setOther ?_ (by simp; omega) _)
    exact (hr1 he)
  · repeat (with_reducible refine Kept.setCell ?_ (.inl (by simp; try omega)) _)
    exact HK1.out
theorem rbyte_len' (s : List UInt8 × Int) : (rbyte s).2.1.length ≤ s.1.length := rbyte_len s
theorem rnum_len (s : List UInt8 × Int) : (rnum s).2.1.length ≤ s.1.length := by
  obtain ⟨b, e⟩ := s
  by_cases he : e = 0
  · subst he; exact Buf.getNum_len b
  · rw [show rnum (b, e) = (0, b, e) from rget_bad _ _ (b, e) he]; exact Nat.le_refl _
theorem rfix_len (n : Int) (s : List UInt8 × Int) : (rfix n s).2.1.length ≤ s.1.length := by
  obtain ⟨b, e⟩ := s
  by_cases he : e = 0
  · subst he; exact Buf.getFixed_len b n
  · rw [show rfix n (b, e) = (0, b, e) from rget_bad _ _ (b, e) he]; exact Nat.le_refl _
theorem hg_len (b : List UInt8) : (hg b).2.1.length ≤ b.length := by
  unfold hg
  split
  · simp
  · split
    · exact rbyte_len (b, 0)
    · split
      · simp
      · split
        · simp
        · split
          · simp
          · exact Nat.le_trans (rfix_len 4 _) (Nat.le_trans (rbyte_len _) (Nat.le_trans (rnum_len _) (Nat.le_trans (rbyte_len _) (rbyte_len (b, 0)))))
/-- what Decode gives -/
def GotD (w w' : World) (r : Ending) (q : Pkt) (l : List UInt8) (e : Int) : Prop := GotPk w' r q l e ∧ Grow w w'
theorem gotd_bad {w w' : World} {e : Int} (hg : Grow w w') : GotD w w' (.returned (.tuple #[pv noP none 0 0, .int .i64 e])) noP [] e := ⟨⟨none, 0, rfl, Nat.le_refl _, by decide, Bytes.nil _ _⟩, hg⟩
set_option maxRecDepth 100000 in
set_option maxHeartbeats 2000000 in
theorem decode_any (B : Option Addr) (b : List UInt8) (cb : Nat) (w : World) (hb : Bytes w B b) (hc : b.length ≤ cb) (hcm : cb ≤ 9223372036854775807) :
    Calls Try.prog 81 #[.slice B b.length cb] w fun r w' => GotD w w' r (dec b).1 (dec b).2.1 (dec b).2.2 := by
  have HQ := hide (show dec b = if 1100 < b.length then (noP, [], 4) else if b.length < 5 then (noP, [], 3) else if Crc.good b = false then (noP, [], 6)
    else if (hg (b.take (b.length - 4))).2.2 ≠ 0 then (noP, [], (hg (b.take (b.length - 4))).2.2)
    else if (gB (hg (b.take (b.length - 4))).2.1 (hg (b.take (b.length - 4))).1).2.2.2 ≠ 0 then (noP, [], (gB (hg (b.take (b.length - 4))).2.1 (hg (b.take (b.length - 4))).1).2.2.2)
    else if (gB (hg (b.take (b.length - 4))).2.1 (hg (b.take (b.length - 4))).1).2.2.1 ≠ [] then (noP, [], 5)
    else ((gB (hg (b.take (b.length - 4))).2.1 (hg (b.take (b.length - 4))).1).1, (gB (hg (b.take (b.length - 4))).2.1 (hg (b.take (b.length - 4))).1).2.1, 0) from rfl)
  generalize dec b = Q at *
  by_cases h1 : 1100 < b.length
  · have HP := hide (HQ.out.trans (if_pos h1))
    clear HQ
    go_enter Try.func81, Try.ntmps81
    go_wp2
    refine bodyPost_ret (v := .tuple #[pv noP none 0 0, .int .i64 4]) (by simp [results, Try.results81, go_sem, noP]) rfl ?_
    rw [HP.out]
    refine gotd_bad ?_
    show Below w.heap.size w _
    repeat (with_reducible refine Below.setCell ?_ (by simp; try omega) _)
    exact (Grow.refl w).alloc _
  rw [if_neg h1] at HQ
  have h11 : b.length ≤ 1100 := by omega
  clear h1
  by_cases h2 : b.length < 5
  · have HP := hide (HQ.out.trans (if_pos h2))
    clear HQ
    go_enter Try.func81, Try.ntmps81
    go_wp2
    refine bodyPost_ret (v := .tuple #[pv noP none 0 0, .int .i64 3]) (by simp [results, Try.results81, go_sem, noP]) rfl ?_
    rw [HP.out]
    refine gotd_bad ?_
    show Below w.heap.size w _
    repeat (with_reducible refine Below.setCell ?_ (by simp; try omega) _)
    exact (Grow.refl w).alloc _
  rw [if_neg h2] at HQ
  have h22 : 5 ≤ b.length := by omega
  clear h2
  have HC := hide (fun W h => good_any B b cb W (by omega) hc h)
  cases hgd : Crc.good b with
  | false =>
    have HP := hide (HQ.out.trans (if_pos hgd))
    rw [hgd] at HC
    clear HQ hgd
    go_enter Try.func81, Try.ntmps81
    go_wp2_with fail
    refine (HC.out _ (hb.alloc _)).mono ?_
    rintro r w1 ⟨rfl, hb1⟩
    obtain ⟨q0, hg1⟩ := peel1 hb1
    have q0_ := hide q0
    clear q0
    have q0 := q0_
    clear q0_
    have hb := hb.grow hg1
    have HG1 := hide (show Grow w w1 from hg1)
    have hsz1 : w.heap.size ≤ w1.heap.size := HG1.out.size
    have hq1 : w.heap.size ≤ w1.heap.size := hg1.size
    have HS1 := hide hg1
    clear hb1 hg1
    obtain ⟨cq0, fq0, lq0⟩ := (show Box w1 _ _ from q0.out).rules
    go_wp2
    refine bodyPost_ret (v := .tuple #[pv noP none 0 0, .int .i64 6]) (by simp [results, Try.results81, go_sem, noP, cq0]) rfl ?_
    rw [HP.out]
    refine gotd_bad ?_
    show Below w.heap.size w _
    repeat (with_reducible refine Below.setCell ?_ (by simp; try omega) _)
    exact HG1.out
  | true =>
    rw [if_neg (by rw [hgd]; simp)] at HQ
    rw [hgd] at HC
    clear hgd
    obtain ⟨m, hm⟩ : ∃ m, m = b.take (b.length - 4) := ⟨_, rfl⟩
    have hml : m.length = b.length - 4 := by rw [hm, List.length_take]; omega
    rw [← hm] at HQ
    have hbm := fun (W : World) (h : Bytes W B b) => hm ▸ h.take (b.length - 4)
    have hm4 : (b.length : Int) - 4 = ((m.length : Nat) : Int) := by omega
    have hmc : m.length ≤ cb := by omega
    have hH := hide (fun N pr W h => headget_any N pr m W h)
    have hHl := hg_len m
    clear hm
    generalize hg m = T at *
    obtain ⟨p, r1, e1⟩ := T
    dsimp only at *
    have hG := hide (fun N pr W h => sealget_any N pr r1 p W h (by omega))
    generalize gB r1 p = U at *
    obtain ⟨q, t, r2, e2⟩ := U
    dsimp only at *
    go_enter Try.func81, Try.ntmps81
    go_wp2_with fail
    refine (HC.out _ (hb.alloc _)).mono ?_
    rintro r w1 ⟨rfl, hb1⟩
    obtain ⟨q0, hg1⟩ := peel1 hb1
    have q0_ := hide q0
    clear q0
    have q0 := q0_
    clear q0_
    have hb := hb.grow hg1
    have HG1 := hide (show Grow w w1 from hg1)
    have hsz1 : w.heap.size ≤ w1.heap.size := HG1.out.size
    have hq1 : w.heap.size ≤ w1.heap.size := hg1.size
    have HS1 := hide hg1
    clear hb1 hg1
    obtain ⟨cq0, fq0, lq0⟩ := (show Box w1 _ _ from q0.out).rules
    have hbm1 := hbm _ hb
    go_wp2_with fail
    have hRd := read_any B m cb _ hbm1 (by omega)
    rw [hml] at hRd
    refine hRd.mono ?_
    rintro r w2 ⟨N, pr, rfl, hr, hpr, hb2⟩
    have hlq1 := lq0
    clear cq0 fq0 lq0
    have hg2 := hb2
    have q0_ := hide ((show Box w1 _ _ from q0.out).grow hg2)
    clear q0
    have q0 := q0_
    clear q0_
    have HG2 := hide (Grow.trans (show Grow w w1 from HG1.out) hg2)
    clear HG1
    have hsz2 : w.heap.size ≤ w2.heap.size := HG2.out.size
    have hq2 : w1.heap.size ≤ w2.heap.size := hg2.size
    have HS2 := hide hg2
    clear hb2 hg2
    obtain ⟨cq0, fq0, lq0⟩ := (show Box w2 _ _ from q0.out).rules
    go_wp2_with fail
    refine (hH.out _ _ _ hr).mono ?_
    rintro r w3 ⟨rfl, hr3, hb3⟩
    clear cq0 fq0 lq0
    have hg3 := hb3
    have q0_ := hide ((show Box w2 _ _ from q0.out).kept hg3 (by simp; try omega))
    clear q0
    have q0 := q0_
    clear q0_
    have HG3 := hide (Kept.fresh1 hg3 (show Grow w w2 from HG2.out) (by omega))
    clear HG2
    have hsz3 : w.heap.size ≤ w3.heap.size := HG3.out.size
    have hq3 : w2.heap.size ≤ w3.heap.size := hg3.size
    have HS3 := hide hg3
    clear hb3 hg3
    obtain ⟨cq0, fq0, lq0⟩ := (show Box w3 _ _ from q0.out).rules
    by_cases he : e1 = 0
    · rw [if_neg (by simpa using he)] at HQ
      have hrd3 := hr3 he
      subst he
      clear hr3
      go_wp2_with fail
      refine (hG.out _ _ _ (hrd3.grow ((Grow.refl w3).alloc _))).mono ?_
      rintro r w4 ⟨⟨A4, c4, rfl, hc4, hcm4, hx⟩, hr4, hb4⟩
      have hpr3 : pr < w3.heap.size := Nat.lt_of_lt_of_le hrd3.lt hrd3.size
      have hN3 := hrd3.size
      clear hrd3
      clear cq0 fq0 lq0
      obtain ⟨p0, hg4⟩ := peelK1 hb4 (by simp; try omega)
      have q0_ := hide ((show Box w3 _ _ from q0.out).kept hg4 (by simp; try omega))
      clear q0
      have q0 := q0_
      clear q0_
      have p0_ := hide p0
      clear p0
      have p0 := p0_
      clear p0_
      have HG4 := hide (Kept.fresh1 hg4 (show Grow w w3 from HG3.out) (by omega))
      clear HG3
      have hsz4 : w.heap.size ≤ w4.heap.size := HG4.out.size
      have hq4 : w3.heap.size ≤ w4.heap.size := hg4.size
      have HS4 := hide hg4
      clear hb4 hg4
      obtain ⟨cq0, fq0, lq0⟩ := (show Box w4 _ _ from q0.out).rules
      obtain ⟨cp0, fp0, lp0⟩ := (show Box w4 _ _ from p0.out).rules
      by_cases he2 : e2 = 0
      · rw [if_neg (by simpa using he2)] at HQ
        have hrd4 := hr4 he2
        subst he2
        clear hr4
        have hoff := hx.off_pk (show Box w4 _ (pcells p none 0 0) from p0.out)
        have hoff2 := hx.off_pk (show Box w4 _ (pcells noP none 0 0) from q0.out)
        have hlp4 := lp0
        have hlq4 := lq0
        go_wp2_with fail
        clear cq0 fq0 lq0 cp0 fp0 lp0
        generalize hW5 : (World.setCell (World.setCell (World.setCell (World.setCell (World.setCell (World.setCell (World.setCell (World.setCell (World.setCell (World.setCell (World.setCell (World.setCell w4 _ _) _ _) _ _) _ _) _ _) _ _) _ _) _ _) _ _) _ _) _ _) _ _) = w5
        have np0 := Box.store12 (show Box w4 _ _ from p0.out) hW5
        have hb5 := Kept.store12 hW5
        have hrd5 : Rd w5 N pr (r2, 0) := by
          rw [← hW5]
          repeat (with_reducible refine Rd.setOther ?_ (by simp; omega) _)
          exact hrd4
        have hx5 : Bytes w5 A4 t := by
          by_cases ht : t = []
          · rw [ht]; exact Bytes.nil _ _
          · rw [← hW5]
            repeat (with_reducible refine Bytes.setAt ?_ ?_ _; rotate_left; · (intro q h; have := hoff ht q h; simp; omega))
            exact hx
        clear hW5 p0
        have hg5 := hb5
        have q0_ := hide ((show Box w4 _ _ from q0.out).kept hg5 (by simp; try omega))
        clear q0
        have q0 := q0_
        clear q0_
        have HG5 := hide (Kept.fresh1 hg5 (show Grow w w4 from HG4.out) (by omega))
        clear HG4
        have hsz5 : w.heap.size ≤ w5.heap.size := HG5.out.size
        have hq5 : w4.heap.size ≤ w5.heap.size := hg5.size
        have HS5 := hide hg5
        clear hb5 hg5
        have p0 := hide np0
        clear np0 hx hrd4
        obtain ⟨cq0, fq0, lq0⟩ := (show Box w5 _ _ from q0.out).rules
        obtain ⟨cp0, fp0, lp0⟩ := (show Box w5 _ _ from p0.out).rules
        have HE := hide (fun W h => end_any N pr (r2, 0) W h)
        refine (HE.out _ hrd5).mono ?_
        rintro r w' ⟨rfl, rfl⟩
        by_cases h5 : r2 = []
        · have HP := hide (HQ.out.trans (if_neg (by simpa using h5)))
          subst h5
          rw [show rend (([] : List UInt8), (0 : Int)) = 0 from rfl]
          go_wp2
          refine bodyPost_ret (v := .tuple #[pv q A4 t.length c4, .int .i64 0]) (by simp [results, Try.results81, go_sem, cp0, cq0]) rfl ?_
          rw [HP.out]
          refine ⟨⟨A4, c4, rfl, hc4, hcm4, ?_⟩, ?_⟩
          · by_cases ht : t = []
            · rw [ht]; exact Bytes.nil _ _
            · repeat (with_reducible refine Bytes.setAt ?_ ?_ _; rotate_left; · (intro q h; have := hoff2 ht q h; simp; omega))
              exact hx5
          · show Below w.heap.size w _
            repeat (with_reducible refine Below.setCell ?_ (by simp; try omega) _)
            exact HG5.out
        · have HP := hide (HQ.out.trans (if_pos h5))
          rw [show rend (r2, (0 : Int)) = 5 from if_pos ⟨rfl, h5⟩]
          clear h5
          go_wp2
          refine bodyPost_ret (v := .tuple #[pv noP none 0 0, .int .i64 5]) (by simp [results, Try.results81, go_sem, noP, cq0]) rfl ?_
          rw [HP.out]
          refine gotd_bad ?_
          show Below w.heap.size w _
          repeat (with_reducible refine Below.setCell ?_ (by simp; try omega) _)
          exact HG5.out
      · have HP := hide (HQ.out.trans (if_pos he2))
        have he2' : (e2 != 0) = true := by simpa using he2
        clear he2 hr4
        go_wp2
        refine bodyPost_ret (v := .tuple #[pv noP none 0 0, .int .i64 e2]) (by simp [results, Try.results81, go_sem, noP, cq0]) rfl ?_
        rw [HP.out]
        refine gotd_bad ?_
        show Below w.heap.size w _
        repeat (with_reducible refine Below.setCell ?_ (by simp; try omega) _)
        exact HG4.out
    · have HP := hide (HQ.out.trans (if_pos he))
      have he' : (e1 != 0) = true := by simpa using he
      clear he hr3
      go_wp2
      refine bodyPost_ret (v := .tuple #[pv noP none 0 0, .int .i64 e1]) (by simp [results, Try.results81, go_sem, noP, cq0, lq0]) rfl ?_
      rw [HP.out]
      refine gotd_bad ?_
      show Below w.heap.size w _
      repeat (first | (with_reducible refine Below.setCell ?_ (by simp; try omega) _) | (with_reducible refine Below.alloc ?_ (by simp; try omega) _))
      exact HG3.out
end Go.Proofs.Ytpobjcdcimcdnaa
