/- snap.Count, snap.Split (chapter 41). -/
import Derived.Test.YtbccbfmgjeknhaaSp
import Derived.Test.YtbccbfmgjeknhaaFewQ
namespace Go.Proofs.Ytbccbfmgjeknhaa
open Go.RowKit
def countR (n s : Int) : Int := if n < 0 ∨ s < 1 then 0 else if n = 0 then 1 else (n - 1) / s + 1
theorem scount_any (n s : Int) (w : World) (h0 : -9223372036854775808 ≤ n) (h1 : n ≤ 9223372036854775807) : Calls Try.prog 15 #[.int .i64 n, .int .i64 s] w fun r w' => r = .returned (.int .i64 (countR n s)) ∧ w = w' := by
  by_cases hn : n < 0
  · have e := hide (show countR n s = 0 from if_pos (.inl hn))
    go_enter Try.func15, Try.ntmps15
    go_wp2
    go_ret
    exact ⟨by rw [e.out]; rfl, rfl⟩
  · by_cases hs : s < 1
    · have e := hide (show countR n s = 0 from if_pos (.inr hs))
      go_enter Try.func15, Try.ntmps15
      go_wp2
      go_ret
      exact ⟨by rw [e.out]; rfl, rfl⟩
    · by_cases hz : n = 0
      · subst hz
        have e := hide (show countR 0 s = 1 from by unfold countR; rw [if_neg (by omega), if_pos rfl])
        go_enter Try.func15, Try.ntmps15
        go_wp2
        go_ret
        exact ⟨by rw [e.out]; rfl, rfl⟩
      · have e := hide (show countR n s = (n - 1) / s + 1 from by unfold countR; rw [if_neg (by omega), if_neg hz])
        have hq : (n - 1).tdiv s = (n - 1) / s := Int.tdiv_eq_ediv_of_nonneg (by omega)
        have hq0 : 0 ≤ (n - 1) / s := Int.ediv_nonneg (by omega) (by omega)
        have hq1 : (n - 1) / s ≤ n - 1 := Int.ediv_le_self _ (by omega)
        have hs0 : ¬ (s = 0) := by omega
        go_enter Try.func15, Try.ntmps15
        go_wp2
        go_ret
        exact ⟨by rw [e.out]; rfl, rfl⟩
theorem count_split (l : List UInt8) (s : Nat) (hs : 1 ≤ s) : countR (l.length : Nat) s = ((splitR s l).length : Nat) := by
  obtain ⟨_, _, h3, h4, h5⟩ := splF_inv s hs l
  rw [splitR_len]
  unfold countR
  rw [if_neg (by omega)]
  by_cases hl : l = []
  · subst hl
    rfl
  · have hp : 0 < l.length := List.length_pos_iff.2 hl
    rw [if_neg (by omega)]
    have h4 := h4 hl
    generalize (splF s l).1.length = a at *
    generalize (splF s l).2.length = b at *
    have e : ((l.length : Int) - 1) = (a : Int) * (s : Int) + ((b : Int) - 1) := by
      have : ((a * s + b : Nat) : Int) = (l.length : Int) := by rw [h5]
      simp only [Int.natCast_add, Int.natCast_mul] at this
      omega
    rw [e, Int.mul_comm, Int.mul_add_ediv_left _ _ (by omega), Int.ediv_eq_zero_of_lt (by omega) (by omega)]
    simp
theorem flat_get (s : Nat) (q : List UInt8) (hq : q.length ≤ s) : ∀ (P : List (List UInt8)), (∀ p, p ∈ P → p.length = s) → ∀ k (hk : k < (P ++ [q]).length), (P ++ [q])[k] = ((P.flatten ++ q).drop (k * s)).take s
  | [], _, k, hk => by
    have : k = 0 := by simpa using hk
    subst this
    simp [List.take_of_length_le hq]
  | p :: P, hP, k, hk => by
    have hp := hP p (by simp)
    cases k with
    | zero => simp [List.take_left' hp]
    | succ k =>
      have ih := flat_get s q hq P (fun x hx => hP x (by simp [hx])) k (by simpa using hk)
      rw [show (p :: P ++ [q])[k + 1] = (P ++ [q])[k]'(by simpa using hk) from rfl, ih]
      congr 1
      rw [List.flatten_cons, List.append_assoc, show (k + 1) * s = p.length + k * s by rw [hp, Nat.add_mul]; omega, ← List.drop_drop, List.drop_left]
theorem splitR_get (s : Nat) (hs : 1 ≤ s) (l : List UInt8) (k : Nat) (hk : k < (splitR s l).length) : (splitR s l)[k] = (l.drop (k * s)).take s := by
  obtain ⟨h1, h2, h3, _, _⟩ := splF_inv s hs l
  have := flat_get s (splF s l).2 h3 (splF s l).1 h2 k hk
  rw [h1] at this
  exact this
theorem OwnV.less {w : World} {b b' : Nat} {v : Value} {Y : List SB} (h : OwnV w b v Y) (hb : b' ≤ b) : OwnV w b' v Y := by
  obtain ⟨h0, h1 | ⟨g, cap, cur, rfl, hbb, h2⟩⟩ := h
  · exact ⟨h0, .inl h1⟩
  · exact ⟨h0, .inr ⟨g, cap, cur, rfl, Nat.le_trans hb hbb, h2⟩⟩
set_option maxRecDepth 100000 in
set_option maxHeartbeats 4000000 in
theorem ssplit_any (A : Option Addr) (l : List UInt8) (c s : Nat) (w : World) (hs : 1 ≤ s) (hs9 : s ≤ 9223372036854775807) (hl : l.length ≤ 1000) (hb : Bytes w A l) :
    Calls Try.prog 12 #[.slice A l.length c, .int .i64 s] w fun r w' => (∃ A' c' Y, r = .returned (.slice A' (splitR s l).length c') ∧ Y.map (·.l) = splitR s l ∧ OwnV w' w.heap.size (.slice A' (splitR s l).length c') Y ∧ ∀ x, x ∈ Y → Bytes w' x.A x.l ∧ x.c = x.l.length) ∧ Grow w w' := by
  obtain ⟨i0, hi0, hz0, hs0, hb0⟩ := info_parts sbInfo
  have HI := hide (And.intro hi0 (And.intro hz0 (And.intro hs0 hb0)))
  clear hi0 hz0 hs0 hb0
  have HC := hide (clone_any A l c w hb (by omega))
  have HN := hide (fun W => scount_any (l.length : Nat) s W (by omega) (by omega))
  rw [count_split l s hs] at HN
  have hget := hide (splitR_get s hs l)
  have hmost := (splitR_most s hs l).1
  generalize splitR s l = S at *
  go_enter Try.func12, Try.ntmps12
  go_wp2_with fail
  refine HC.out.mono ?_
  rintro r0 w2 ⟨A2, c2, rfl, hown2, hg2⟩
  have hb2 := hide hown2.bytes
  have hc2 := hown2.le
  clear hown2 HC hb
  go_wp2_with fail
  refine (HN.out _).mono ?_
  rintro r0 w3 ⟨rfl, rfl⟩
  clear HN
  have hv0 := hide (show OwnV w2 w2.heap.size (.slice none 0 0) [] from World.ownsRow_nil _ _ _ _)
  have hg0 := Grow.refl w2
  have hb20 : Hid (Bytes w2 A2 (l.drop (0 * s))) := hide (by rw [Nat.zero_mul, List.drop_zero]; exact hb2.out)
  go_wp2
  go_loopw [5, 6, 14] (fun v own i wr => ∃ (k : Nat) (Y : List SB) (Ao : Option Addr) (co : Nat) (Ak : Option Addr) (ck : Nat) (R : List UInt8), k ≤ S.length ∧ i = .int .i64 k ∧ v = .slice Ao Y.length co ∧ own = .slice Ak R.length ck ∧ R.length ≤ ck ∧ ck ≤ 9223372036854775807 ∧ Hid (R = l.drop (k * s)) ∧ Hid (Bytes w2 Ak R) ∧
      Hid (OwnV wr w2.heap.size (.slice Ao Y.length co) Y) ∧ Hid (Y.map (·.l) = S.take k) ∧ Hid (∀ x, x ∈ Y → Bytes w2 x.A x.l ∧ x.c = x.l.length) ∧ Y.length = k ∧ Grow w2 wr) (fun _ _ i _ => S.length - (intOf i).toNat)
  case atStart => exact ⟨0, [], none, 0, A2, c2, l, by omega, rfl, rfl, rfl, hc2.1, hc2.2, hide (by simp), hb2, hv0, hide rfl, hide (by simp), rfl, hg0⟩
  case round =>
    clear hv0 hg0 hb20
    obtain ⟨k, Y, Ao, co, Ak, ck, R, hk, rfl, rfl, rfl, hRc, hcm, hR, hbR, hV, hY, hYb, hYl, hgr⟩ := hrel
    by_cases hlt : k < S.length
    · have hki : (k : Int) < (S.length : Int) := by omega
      have hPg := hide (hget.out k hlt)
      obtain ⟨P, hP⟩ : ∃ P, Hid (P = R.take s) := ⟨_, hide rfl⟩
      have hPl : P.length = min s R.length := by rw [hP.out, List.length_take]
      have hPR : P.length ≤ R.length := by omega
      have hYlh := hide hYl
      have hYm : Y.length ≤ 1000 := by omega
      clear hYl
      have hgs := hgr.size
      have hVb : ∀ q, (Value.slice Ao Y.length co).ownBlock = some q → w2.heap.size ≤ q ∧ q < wr.heap.size := by
        obtain ⟨_, _, _, h⟩ := OwnV.form hV.out
        exact h
      rw [blk_own] at hVb
      have hVb := hide hVb
      by_cases hEs : R.length < s
      · have hPE : Hid (P.length = R.length) := hide (by omega)
        clear hPl
        go_wp2_with (at_builtin; refine Hid.out (?_ : Hid _))
        refine hide ?_
        have he : [Value.slice Ak R.length R.length] = [(⟨Ak, P, R.length⟩ : SB)].map sbv := by
          show _ = [Value.slice Ak P.length R.length]
          rw [hPE.out]
        refine (wpList_append_own_at _ rfl (.tmp 20) (.tmp 25) _ rfl w2.heap.size _ i0 _ 1 24 Try.underlying23 HI.out.1 HI.out.2.1 HI.out.2.2.1 HI.out.2.2.2 rfl (by omega) (.slice Ao Y.length co) Y.length (Y.map sbv) rfl (hV.out.grow ((Grow.refl _).alloc _)) ⟨wr.heap.size, 0, none⟩ 1 1 [.slice Ak R.length R.length] rfl rfl (one_news ((Box.new wr #[.slice Ak R.length R.length] 22 rfl).cell 0)) (by simp [Value.oneCell']) (by unfold maxLen; omega) (by omega) (by have := hYlh.out; simp; omega) ?_)
        intro v' w5 hown5 hgb5 _ hat5
        have hown5' : OwnV w5 w2.heap.size v' (Y ++ [⟨Ak, P, R.length⟩]) := by
          unfold OwnV
          rw [List.length_append, List.map_append, ← he]
          exact hown5
        obtain ⟨A5, c5, rfl, hb5⟩ := OwnV.form hown5'
        rw [blk_own] at hb5 hat5 hgb5
        have hg5 : Grow w2 w5 := ngrown (hgr.alloc _) hgb5 (fun q h => (hVb.out q h).1)
        have hl5 : (Y ++ [(⟨Ak, P, R.length⟩ : SB)]).length = Y.length + 1 := by simp
        have hown5 := hide hown5'
        have hY5 : Hid ((Y ++ [(⟨Ak, P, R.length⟩ : SB)]).map (·.l) = S.take (k + 1)) := hide (by
          rw [List.map_append, hY.out, List.take_succ_eq_append_getElem hlt]
          congr 1
          rw [hPg.out, ← hR.out, ← hP.out]
          rfl)
        have hYb5 : Hid (∀ x, x ∈ Y ++ [(⟨Ak, P, R.length⟩ : SB)] → Bytes w2 x.A x.l ∧ x.c = x.l.length) := hide (fun x hx => by
          rcases List.mem_append.1 hx with h | h
          · exact hYb.out x h
          · rw [List.mem_singleton.1 h]
            refine ⟨?_, hPE.out.symm⟩
            rw [hP.out]
            exact hbR.out.take s)
        clear hown5' hV hY hYb hgb5 hat5 hb5 hgr he
        rw [hl5] at hown5
        go_wp2
        refine ⟨⟨k + 1, Y ++ [⟨Ak, P, R.length⟩], A5, c5, (if ck = R.length then Ak else Option.map (fun x => x.add R.length) Ak), ck - R.length, R.drop R.length, by omega, by rw [Int.natCast_add]; rfl, by rw [hl5], by rw [List.length_drop, Nat.sub_self], by rw [List.length_drop]; omega, by omega, hide ?_, hide ?_, by rw [hl5]; exact hown5, hY5, hYb5, by rw [hl5, hYlh.out], hg5⟩, ?_⟩
        · rw [Nat.add_mul, Nat.one_mul, ← List.drop_drop, ← hR.out]
          rw [List.drop_of_length_le (Nat.le_refl _), List.drop_of_length_le (by omega)]
        · split
          · rw [List.drop_of_length_le (by omega)]
            intro h
            exact absurd rfl h
          · exact hbR.out.drop_any _
        · rw [show intOf (Value.int IntKind.i64 ((k : Int) + 1)) = (k : Int) + 1 from rfl, show intOf (Value.int IntKind.i64 (k : Int)) = (k : Int) from rfl]
          omega
      · have hPE : Hid (P.length = s) := hide (by omega)
        clear hPl
        have hsR : s ≤ R.length := by omega
        have hsc : s ≤ ck := by omega
        go_wp2_with (at_builtin; refine Hid.out (?_ : Hid _))
        refine hide ?_
        have he : [Value.slice Ak s s] = [(⟨Ak, P, s⟩ : SB)].map sbv := by
          show _ = [Value.slice Ak P.length s]
          rw [hPE.out]
        refine (wpList_append_own_at _ rfl (.tmp 20) (.tmp 25) _ rfl w2.heap.size _ i0 _ 1 24 Try.underlying23 HI.out.1 HI.out.2.1 HI.out.2.2.1 HI.out.2.2.2 rfl (by omega) (.slice Ao Y.length co) Y.length (Y.map sbv) rfl (hV.out.grow ((Grow.refl _).alloc _)) ⟨wr.heap.size, 0, none⟩ 1 1 [.slice Ak s s] rfl rfl (one_news ((Box.new wr #[.slice Ak s s] 22 rfl).cell 0)) (by simp [Value.oneCell']) (by unfold maxLen; omega) (by omega) (by have := hYlh.out; simp; omega) ?_)
        intro v' w5 hown5 hgb5 _ hat5
        have hown5' : OwnV w5 w2.heap.size v' (Y ++ [⟨Ak, P, s⟩]) := by
          unfold OwnV
          rw [List.length_append, List.map_append, ← he]
          exact hown5
        obtain ⟨A5, c5, rfl, hb5⟩ := OwnV.form hown5'
        rw [blk_own] at hb5 hat5 hgb5
        have hg5 : Grow w2 w5 := ngrown (hgr.alloc _) hgb5 (fun q h => (hVb.out q h).1)
        have hl5 : (Y ++ [(⟨Ak, P, s⟩ : SB)]).length = Y.length + 1 := by simp
        have hown5 := hide hown5'
        have hY5 : Hid ((Y ++ [(⟨Ak, P, s⟩ : SB)]).map (·.l) = S.take (k + 1)) := hide (by
          rw [List.map_append, hY.out, List.take_succ_eq_append_getElem hlt]
          congr 1
          rw [hPg.out, ← hR.out, ← hP.out]
          rfl)
        have hYb5 : Hid (∀ x, x ∈ Y ++ [(⟨Ak, P, s⟩ : SB)] → Bytes w2 x.A x.l ∧ x.c = x.l.length) := hide (fun x hx => by
          rcases List.mem_append.1 hx with h | h
          · exact hYb.out x h
          · rw [List.mem_singleton.1 h]
            refine ⟨?_, hPE.out.symm⟩
            rw [hP.out]
            exact hbR.out.take s)
        clear hown5' hV hY hYb hgb5 hat5 hb5 hgr he
        rw [hl5] at hown5
        go_wp2
        refine ⟨⟨k + 1, Y ++ [⟨Ak, P, s⟩], A5, c5, (if ck = s then Ak else Option.map (fun x => x.add s) Ak), ck - s, R.drop s, by omega, by rw [Int.natCast_add]; rfl, by rw [hl5], by rw [List.length_drop], by rw [List.length_drop]; omega, by omega, hide ?_, hide ?_, by rw [hl5]; exact hown5, hY5, hYb5, by rw [hl5, hYlh.out], hg5⟩, ?_⟩
        · rw [Nat.add_mul, Nat.one_mul, ← List.drop_drop, ← hR.out]
        · split
          · rw [List.drop_of_length_le (by omega)]
            intro h
            exact absurd rfl h
          · exact hbR.out.drop_any _
        · rw [show intOf (Value.int IntKind.i64 ((k : Int) + 1)) = (k : Int) + 1 from rfl, show intOf (Value.int IntKind.i64 (k : Int)) = (k : Int) from rfl]
          omega
    · obtain rfl : k = S.length := by omega
      have hYlh := hide hYl
      clear hYl
      go_wp2
      go_ret
      refine ⟨⟨Ao, co, Y, ?_, ?_, ?_, ?_⟩, hg2.trans hgr⟩
      · rw [hYlh.out]
        rfl
      · rw [hY.out, List.take_length]
      · rw [← hYlh.out]
        exact hV.out.less hg2.size
      · exact fun x hx => ⟨(hYb.out x hx).1.grow hgr, (hYb.out x hx).2⟩
set_option maxHeartbeats 4000000 in
theorem ssplit_none (A : Option Addr) (l : List UInt8) (c : Nat) (s : Int) (w : World) (hs : s < 1) (hl : l.length ≤ 1000) (hb : Bytes w A l) :
    Calls Try.prog 12 #[.slice A l.length c, .int .i64 s] w fun r w' => r = .returned (.slice none 0 0) ∧ Grow w w' := by
  have HC := hide (clone_any A l c w hb (by omega))
  have HN := hide (fun W => scount_any (l.length : Nat) s W (by omega) (by omega))
  rw [show countR (l.length : Nat) s = 0 from if_pos (.inr hs)] at HN
  go_enter Try.func12, Try.ntmps12
  go_wp2_with fail
  refine HC.out.mono ?_
  rintro r0 w2 ⟨A2, c2, rfl, hown2, hg2⟩
  clear hown2 HC hb
  go_wp2_with fail
  refine (HN.out _).mono ?_
  rintro r0 w3 ⟨rfl, rfl⟩
  clear HN
  go_wp2
  go_loopw [5, 6, 14] (fun v own i wr => v = .slice none 0 0 ∧ own = .slice A2 l.length c2 ∧ i = .int .i64 0 ∧ wr = w2) (fun _ _ i _ => (intOf i).toNat)
  case atStart => exact ⟨rfl, rfl, rfl, rfl⟩
  case round =>
    obtain ⟨rfl, rfl, rfl, rfl⟩ := hrel
    go_wp2
    go_ret
    exact ⟨rfl, hg2⟩
end Go.Proofs.Ytbccbfmgjeknhaa
