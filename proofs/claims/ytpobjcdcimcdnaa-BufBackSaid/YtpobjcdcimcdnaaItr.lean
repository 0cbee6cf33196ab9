/- Items that are read (chapter 05's law): by the document and by the program. -/
import Derived.Test.YtpobjcdcimcdnaaItm
namespace Go.Proofs.Ytpobjcdcimcdnaa
open Go.RowKit
theorem results_tmp4 {fn : Func} {t u v x : Tmp} (h : fn.results = #[.tmp t, .tmp u, .tmp v, .tmp x]) (tmps : Array Value) (P : Program) (w : World) :
    (results fn tmps).run P w = .ok (.tuple #[tmps.getD t undef, tmps.getD u undef, tmps.getD v undef, tmps.getD x undef]) w := by
  simp [results, h]
/-- an item is read of bytes: the number, the bytes, the rest, what is wrong -/
def itGet (t : Itm) (b : List UInt8) : Nat × List UInt8 × List UInt8 × Int :=
  if t.kind % 5 = 0 then ((Buf.getFixed b 1).1, [], (Buf.getFixed b 1).2)
  else if t.kind % 5 = 1 then ((Buf.getFixed b t.n).1, [], (Buf.getFixed b t.n).2)
  else if t.kind % 5 = 2 ∨ t.kind % 5 = 3 then ((Buf.getNum b).1, [], (Buf.getNum b).2)
  else (0, (Buf.getBytes b t.n).1, (Buf.getBytes b t.n).2)
/-- an item is read of a reader -/
def itRd (t : Itm) (s : List UInt8 × Int) : Nat × List UInt8 × (List UInt8 × Int) :=
  if s.2 = 0 then ((itGet t s.1).1, (itGet t s.1).2.1, (itGet t s.1).2.2) else (0, [], s)
theorem itRd_fix (t : Itm) (s : List UInt8 × Int) (n : Int) (h : t.kind % 5 = 0 ∧ n = 1 ∨ t.kind % 5 = 1 ∧ n = t.n) : itRd t s = ((rfix n s).1, [], (rfix n s).2) := by
  obtain ⟨b, e⟩ := s
  unfold itRd
  dsimp only
  by_cases he : e = 0
  · subst he
    rw [if_pos rfl]
    have e1 : rfix n (b, 0) = Buf.getFixed b n := rfl
    unfold itGet
    rcases h with ⟨h, rfl⟩ | ⟨h, rfl⟩
    · rw [if_pos h, e1]
    · rw [if_neg (by omega), if_pos h, e1]
  · rw [if_neg he, show rfix n (b, e) = (0, (b, e)) from rget_bad _ _ (b, e) he]
theorem itRd_num (t : Itm) (s : List UInt8 × Int) (h : t.kind % 5 = 2 ∨ t.kind % 5 = 3) : itRd t s = ((rnum s).1, [], (rnum s).2) := by
  obtain ⟨b, e⟩ := s
  unfold itRd
  dsimp only
  by_cases he : e = 0
  · subst he
    rw [if_pos rfl]
    have e1 : rnum (b, 0) = Buf.getNum b := rfl
    unfold itGet
    rw [if_neg (by omega), if_neg (by omega), if_pos h, e1]
  · rw [if_neg he, show rnum (b, e) = (0, (b, e)) from rget_bad _ _ (b, e) he]
theorem itRd_bytes (t : Itm) (s : List UInt8 × Int) (h : t.kind % 5 = 4) : itRd t s = (0, (rbytes t.n s).1, (rbytes t.n s).2) := by
  obtain ⟨b, e⟩ := s
  unfold itRd
  dsimp only
  by_cases he : e = 0
  · subst he
    rw [if_pos rfl]
    have e1 : rbytes t.n (b, 0) = Buf.getBytes b t.n := rfl
    unfold itGet
    rw [if_neg (by omega), if_neg (by omega), if_neg (by omega), e1]
  · rw [if_neg he, show rbytes t.n (b, e) = ([], (b, e)) from rget_bad _ _ (b, e) he]
/-- what a read gives -/
def Red (w w' : World) (r : Ending) (N p : Nat) (T : Nat × List UInt8 × (List UInt8 × Int)) : Prop :=
  ∃ A c, r = .returned (.tuple #[.int .u64 (T.1 : Int), .slice A T.2.1.length c]) ∧ Own w' w.heap.size A c T.2.1 ∧ Rd w' N p T.2.2 ∧ Kept w.heap.size [p] w w'
theorem zag_zig (x : Int) : zagI (Buf.zig x) = x := by
  unfold zagI Buf.zig
  by_cases h : x < 0
  · rw [if_pos h, if_pos (by omega)]; omega
  · rw [if_neg h, if_neg (by omega)]; omega
theorem zig_zag (u : Nat) : Buf.zig (zagI u) = u := by
  unfold zagI Buf.zig
  by_cases h : u % 2 = 1
  · rw [if_pos h, if_pos (by omega)]; omega
  · rw [if_neg h, if_neg (by omega)]; omega
theorem zag_bounds (u : Nat) (h : u < 18446744073709551616) : -9223372036854775808 ≤ zagI u ∧ zagI u < 9223372036854775808 := by
  unfold zagI
  split <;> omega
set_option maxHeartbeats 1000000 in
theorem rint_any (N p : Nat) (s : List UInt8 × Int) (w : World) (h : Rd w N p s) :
    Calls Try.prog 42 #[.pointer (some ⟨p, 0, none⟩)] w fun r w' => r = .returned (.int .i64 (zagI (rnum s).1)) ∧ Rd w' N p (rnum s).2 ∧ Kept w.heap.size [p] w w' := by
  have hF := hide (rnum_any N p s w h)
  have hx := hide (rnum_lt s)
  generalize rnum s = T at *
  go_enter Try.func42, Try.ntmps42
  go_wp2_with fail
  refine hF.out.mono ?_
  rintro r w1 ⟨rfl, h1, h2⟩
  go_wp2_with fail
  refine (zag_any T.1 _ hx).mono ?_
  rintro r w' ⟨rfl, rfl⟩
  go_wp2
  go_ret
  exact ⟨rfl, h1, h2⟩
set_option maxRecDepth 100000 in
set_option maxHeartbeats 2000000 in
theorem itread_any (N p : Nat) (s : List UInt8 × Int) (t : Itm) (w : World) (h : Rd w N p s) (ok : t.Ok w) (hs : s.1.length ≤ 1000000000000) :
    Calls Try.prog 33 #[.pointer (some ⟨p, 0, none⟩), iv t] w fun r w' => Red w w' r N p (itRd t s) := by
  have hg0 := (Grow.refl w).alloc (.cells (icells t) 29)
  have hr := hide (h.grow hg0)
  have hgz := hg0.size
  have hF := fun h => itRd_fix t s 1 (.inl ⟨h, rfl⟩)
  have hF1 := fun h => itRd_fix t s t.n (.inr ⟨h, rfl⟩)
  have hN := itRd_num t s
  have hB := itRd_bytes t s
  have hn1 := ok.n1
  obtain ⟨k, x, n, A2, l, c2⟩ := t
  dsimp only at *
  generalize itRd ⟨k, x, n, A2, l, c2⟩ s = T at *
  have hk5 : k % 5 < 5 := Nat.mod_lt _ (by omega)
  rcases (show k % 5 = 0 ∨ k % 5 = 1 ∨ k % 5 = 2 ∨ k % 5 = 3 ∨ k % 5 = 4 by omega) with k0 | k0 | k0 | k0 | k0
  · have hT := hF k0
    subst hT
    have e0 : (k : Int) % 5 = 0 := by omega
    have HC := hide (fun W h => rbyte_any N p s W h)
    have hlt := rbyte_lt s
    unfold rbyte at HC hlt
    generalize rfix 1 s = T at *
    clear hk5 k0 hF hF1 hN hB ok h
    go_enter Try.func33, Try.ntmps33
    go_wp2_with fail
    refine (HC.out _ hr.out).mono ?_
    rintro r w1 ⟨rfl, hr1, hk1⟩
    go_wp2
    go_ret2
    exact ⟨none, 0, rfl, Own.nil_ _ _, hr1, Kept.after hg0 hk1⟩
  · have hT := hF1 k0
    subst hT
    have e0 : (k : Int) % 5 = 1 := by omega
    have HC := hide (fun W h => rfix_any N p s n W h)
    generalize rfix n s = T at *
    clear hk5 k0 hF hF1 hN hB ok h
    go_enter Try.func33, Try.ntmps33
    go_wp2_with fail
    refine (HC.out _ hr.out).mono ?_
    rintro r w1 ⟨rfl, hr1, hk1⟩
    go_wp2
    go_ret2
    exact ⟨none, 0, rfl, Own.nil_ _ _, hr1, Kept.after hg0 hk1⟩
  · have hT := hN (.inl k0)
    subst hT
    have e0 : (k : Int) % 5 = 2 := by omega
    have HC := hide (fun W h => rnum_any N p s W h)
    generalize rnum s = T at *
    clear hk5 k0 hF hF1 hN hB ok h
    go_enter Try.func33, Try.ntmps33
    go_wp2_with fail
    refine (HC.out _ hr.out).mono ?_
    rintro r w1 ⟨rfl, hr1, hk1⟩
    go_wp2
    go_ret2
    exact ⟨none, 0, rfl, Own.nil_ _ _, hr1, Kept.after hg0 hk1⟩
  · have hT := hN (.inr k0)
    subst hT
    have e0 : (k : Int) % 5 = 3 := by omega
    have HC := hide (fun W h => rint_any N p s W h)
    have hx := rnum_lt s
    have hz := zag_bounds _ hx
    have HZ := hide (fun W => refzig_any (zagI (rnum s).1) W (hide hz.1) (hide hz.2))
    rw [zig_zag] at HZ
    generalize rnum s = T at *
    generalize zagI T.1 = z at *
    clear hk5 k0 hF hF1 hN hB ok h
    go_enter Try.func33, Try.ntmps33
    go_wp2_with fail
    refine (HC.out _ hr.out).mono ?_
    rintro r w1 ⟨rfl, hr1, hk1⟩
    go_wp2_with fail
    refine (HZ.out _).mono ?_
    rintro r w' ⟨rfl, rfl⟩
    go_wp2
    go_ret2
    exact ⟨none, 0, rfl, Own.nil_ _ _, hr1, Kept.after hg0 hk1⟩
  · have hT := hB k0
    subst hT
    have e0 : (k : Int) % 5 = 4 := by omega
    have HC := hide (fun W h => rbytes_any N p s n W h hn1 hs)
    generalize rbytes n s = T at *
    clear hk5 k0 hF hF1 hN hB ok h
    go_enter Try.func33, Try.ntmps33
    go_wp2_with fail
    refine (HC.out _ hr.out).mono ?_
    rintro r w1 ⟨A1, c1, rfl, _, _, hown, hr1, hk1⟩
    go_wp2
    go_ret2
    exact ⟨A1, c1, rfl, hown.mono hgz, hr1, Kept.after hg0 hk1⟩
/-- what the document's read gives -/
def Gat (B : Option Addr) (b : List UInt8) (r : Ending) (T : Nat × List UInt8 × List UInt8 × Int) : Prop :=
  ∃ A c A2 c2, r = .returned (.tuple #[.int .u64 (T.1 : Int), .slice A T.2.1.length c, .slice A2 T.2.2.1.length c2, .int .i64 T.2.2.2]) ∧ T.2.2.1.length ≤ c2 ∧ c2 ≤ 9223372036854775807 ∧ (∀ W, Bytes W B b → Bytes W A T.2.1) ∧ ∀ W, Bytes W B b → Bytes W A2 T.2.2.1
set_option maxRecDepth 100000 in
set_option maxHeartbeats 2000000 in
theorem itget_any (B : Option Addr) (b : List UInt8) (cb : Nat) (t : Itm) (w : World) (hb : Bytes w B b) (hbc : b.length ≤ cb) (hcm : cb ≤ 9223372036854775807) (ok : t.Ok w) :
    Calls Try.prog 34 #[.slice B b.length cb, iv t] w fun r w' => Gat B b r (itGet t b) ∧ Grow w w' := by
  have hg0 := (Grow.refl w).alloc (.cells (icells t) 29)
  have hb := hb.grow hg0
  have h0 : t.kind % 5 = 0 → itGet t b = ((Buf.getFixed b 1).1, [], (Buf.getFixed b 1).2) := fun h => by unfold itGet; rw [if_pos h]
  have h1 : t.kind % 5 = 1 → itGet t b = ((Buf.getFixed b t.n).1, [], (Buf.getFixed b t.n).2) := fun h => by unfold itGet; rw [if_neg (by omega), if_pos h]
  have h2 : t.kind % 5 = 2 ∨ t.kind % 5 = 3 → itGet t b = ((Buf.getNum b).1, [], (Buf.getNum b).2) := fun h => by unfold itGet; rw [if_neg (by omega), if_neg (by omega), if_pos h]
  have h4 : t.kind % 5 = 4 → itGet t b = (0, (Buf.getBytes b t.n).1, (Buf.getBytes b t.n).2) := fun h => by unfold itGet; rw [if_neg (by omega), if_neg (by omega), if_neg (by omega)]
  have hn1 := ok.n1
  obtain ⟨k, x, n, A2, l, c2⟩ := t
  dsimp only at *
  generalize itGet ⟨k, x, n, A2, l, c2⟩ b = T at *
  have hk5 : k % 5 < 5 := Nat.mod_lt _ (by omega)
  rcases (show k % 5 = 0 ∨ k % 5 = 1 ∨ k % 5 = 2 ∨ k % 5 = 3 ∨ k % 5 = 4 by omega) with k0 | k0 | k0 | k0 | k0
  · have hT := h0 k0
    subst hT
    have e0 : (k : Int) % 5 = 0 := by omega
    have HC := hide (fun W h => refgetfixed_any B b cb 1 W h hbc hcm)
    generalize Buf.getFixed b 1 = T at *
    obtain ⟨tx, tr, te⟩ := T
    clear hk5 k0 h0 h1 h2 h4 ok
    go_enter Try.func34, Try.ntmps34
    go_wp2_with fail
    refine (HC.out _ hb).mono ?_
    rintro r w1 ⟨⟨A1, c1, rfl, q1, q2, q3⟩, hg1⟩
    go_wp2
    refine bodyPost_ret (results_tmp4 rfl _ _ _) rfl ?_
    exact ⟨⟨none, 0, A1, c1, rfl, q1, q2, fun _ _ => Bytes.nil _ _, q3⟩, Grow.trans hg0 hg1⟩
  · have hT := h1 k0
    subst hT
    have e0 : (k : Int) % 5 = 1 := by omega
    have HC := hide (fun W h => refgetfixed_any B b cb n W h hbc hcm)
    generalize Buf.getFixed b n = T at *
    obtain ⟨tx, tr, te⟩ := T
    clear hk5 k0 h0 h1 h2 h4 ok
    go_enter Try.func34, Try.ntmps34
    go_wp2_with fail
    refine (HC.out _ hb).mono ?_
    rintro r w1 ⟨⟨A1, c1, rfl, q1, q2, q3⟩, hg1⟩
    go_wp2
    refine bodyPost_ret (results_tmp4 rfl _ _ _) rfl ?_
    exact ⟨⟨none, 0, A1, c1, rfl, q1, q2, fun _ _ => Bytes.nil _ _, q3⟩, Grow.trans hg0 hg1⟩
  · have hT := h2 (.inl k0)
    subst hT
    have e0 : (k : Int) % 5 = 2 := by omega
    have HC := hide (fun W h => refgetnum_any B b cb W h hbc hcm)
    generalize Buf.getNum b = T at *
    obtain ⟨tx, tr, te⟩ := T
    clear hk5 k0 h0 h1 h2 h4 ok
    go_enter Try.func34, Try.ntmps34
    go_wp2_with fail
    refine (HC.out _ hb).mono ?_
    rintro r w1 ⟨⟨A1, c1, rfl, q1, q2, q3⟩, hg1⟩
    go_wp2
    refine bodyPost_ret (results_tmp4 rfl _ _ _) rfl ?_
    exact ⟨⟨none, 0, A1, c1, rfl, q1, q2, fun _ _ => Bytes.nil _ _, q3⟩, Grow.trans hg0 hg1⟩
  · have hT := h2 (.inr k0)
    subst hT
    have e0 : (k : Int) % 5 = 3 := by omega
    have HC := hide (fun W h => refgetnum_any B b cb W h hbc hcm)
    generalize Buf.getNum b = T at *
    obtain ⟨tx, tr, te⟩ := T
    clear hk5 k0 h0 h1 h2 h4 ok
    go_enter Try.func34, Try.ntmps34
    go_wp2_with fail
    refine (HC.out _ hb).mono ?_
    rintro r w1 ⟨⟨A1, c1, rfl, q1, q2, q3⟩, hg1⟩
    go_wp2
    refine bodyPost_ret (results_tmp4 rfl _ _ _) rfl ?_
    exact ⟨⟨none, 0, A1, c1, rfl, q1, q2, fun _ _ => Bytes.nil _ _, q3⟩, Grow.trans hg0 hg1⟩
  · have hT := h4 k0
    subst hT
    have e0 : (k : Int) % 5 = 4 := by omega
    have HC := hide (fun W h => refgetbytes_any B b cb n W h hbc hcm hn1)
    generalize Buf.getBytes b n = T at *
    obtain ⟨tx, tr, te⟩ := T
    clear hk5 k0 h0 h1 h2 h4 ok
    go_enter Try.func34, Try.ntmps34
    go_wp2_with fail
    refine (HC.out _ hb).mono ?_
    rintro r w1 ⟨⟨A1, c1, A3, c3, rfl, _, _, q1, q2, q3, q4⟩, hg1⟩
    go_wp2
    refine bodyPost_ret (results_tmp4 rfl _ _ _) rfl ?_
    exact ⟨⟨A1, c1, A3, c3, rfl, q1, q2, q3, q4⟩, Grow.trans hg0 hg1⟩
end Go.Proofs.Ytpobjcdcimcdnaa
