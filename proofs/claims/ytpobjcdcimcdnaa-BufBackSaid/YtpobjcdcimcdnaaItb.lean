/- The walk of the statement BufBack. -/
import Derived.Test.YtpobjcdcimcdnaaItq
import Derived.RegionTactic
namespace Go.Proofs.Ytpobjcdcimcdnaa
open Go.RowKit
/-- the number that is to come back -/
def itWant (t : Itm) : Nat :=
  if t.kind % 5 = 0 then t.x % 256 else if t.kind % 5 = 1 then t.x % 256 ^ t.n.toNat else if t.kind % 5 = 2 then t.x else if t.kind % 5 = 3 then Buf.zig (wrap64 (t.x : Int)) else 0
def itText (t : Itm) : List UInt8 := if t.kind % 5 = 4 then t.l.take 200 else []
def itBack (t : Itm) : Itm := if t.kind % 5 = 4 then { t with n := 200 } else t
/-- what was written of the first items -/
def BInv (L : List Itm) (S : Int × List UInt8) : Prop := S.1 = 1 ∨ (S = (0, L.flatMap itmBytes) ∧ ∀ t, t ∈ L → itmErr t = 0)
theorem mod8 (x : Nat) (h : x < 18446744073709551616) : x % 256 ^ ((8 : Int)).toNat = x := Nat.mod_eq_of_lt (by
  have : (256 : Nat) ^ ((8 : Int)).toNat = 18446744073709551616 := by decide
  omega)
theorem it_back {w : World} (t : Itm) (r : List UInt8) (ok : t.Ok w) (h : itmErr t = 0) : itGet (itBack t) (itmBytes t ++ r) = (itWant t, itText t, r, 0) := by
  have hx := ok.x
  obtain ⟨k, x, n, A, l, c⟩ := t
  clear ok
  unfold itmErr at h
  unfold itBack itmBytes itWant itText
  dsimp only at *
  rcases (show k % 5 = 0 ∨ k % 5 = 1 ∨ k % 5 = 2 ∨ k % 5 = 3 ∨ k % 5 = 4 by omega) with k0 | k0 | k0 | k0 | k0
  · rw [if_neg (by omega : ¬ k % 5 = 4), if_pos k0, if_pos k0, if_neg (by omega : ¬ k % 5 = 4)]
    unfold itGet
    dsimp only
    rw [if_pos k0]
    have e : [UInt8.ofNat (x % 256)] = Buf.fixed x 1 := by
      have h1 : UInt8.ofNat (x % 256) = UInt8.ofNat x := by rw [← UInt8.toNat_inj, UInt8.toNat_ofNat', UInt8.toNat_ofNat']; omega
      rw [h1]
      rfl
    have hb := Buf.fixed_get_back x 1 r (by omega) (by omega)
    rw [e]
    have e1 : Buf.getFixed (Buf.fixed x 1 ++ r) (1 : Int) = (x % 256 ^ 1, r, 0) := hb
    rw [e1]
  · rw [if_neg (by omega : ¬ k % 5 = 4), if_neg (by omega : ¬ k % 5 = 0), if_pos k0, if_neg (by omega : ¬ k % 5 = 0), if_pos k0, if_neg (by omega : ¬ k % 5 = 4)]
    rw [if_pos k0] at h
    have hn : ¬ (n < 1 ∨ 8 < n) := by intro hn; rw [if_pos hn] at h; cases h
    rw [if_neg hn]
    unfold itGet
    dsimp only
    rw [if_neg (by omega : ¬ k % 5 = 0), if_pos k0]
    obtain ⟨j, rfl⟩ := Int.eq_ofNat_of_zero_le (show 0 ≤ n by omega)
    have hb := Buf.fixed_get_back x j r (by omega) (by omega)
    rw [show ((j : Int)).toNat = j from rfl, hb]
  · rw [if_neg (by omega : ¬ k % 5 = 4), if_neg (by omega : ¬ k % 5 = 0), if_neg (by omega : ¬ k % 5 = 1), if_pos k0, if_neg (by omega : ¬ k % 5 = 0), if_neg (by omega : ¬ k % 5 = 1), if_pos k0, if_neg (by omega : ¬ k % 5 = 4)]
    unfold itGet
    dsimp only
    rw [if_neg (by omega : ¬ k % 5 = 0), if_neg (by omega : ¬ k % 5 = 1), if_pos (Or.inl k0), Buf.sevens_get_back x r hx]
  · rw [if_neg (by omega : ¬ k % 5 = 4), if_neg (by omega : ¬ k % 5 = 0), if_neg (by omega : ¬ k % 5 = 1), if_neg (by omega : ¬ k % 5 = 2), if_pos k0, if_neg (by omega : ¬ k % 5 = 0), if_neg (by omega : ¬ k % 5 = 1), if_neg (by omega : ¬ k % 5 = 2), if_pos k0, if_neg (by omega : ¬ k % 5 = 4)]
    unfold itGet
    dsimp only
    rw [if_neg (by omega : ¬ k % 5 = 0), if_neg (by omega : ¬ k % 5 = 1), if_pos (Or.inr k0), Buf.sevens_get_back _ r (zig_lt _ (wrap64_bounds _).1 (wrap64_bounds _).2)]
  · rw [if_pos k0, if_neg (by omega : ¬ k % 5 = 0), if_neg (by omega : ¬ k % 5 = 1), if_neg (by omega : ¬ k % 5 = 2), if_neg (by omega : ¬ k % 5 = 3), if_neg (by omega : ¬ k % 5 = 0), if_neg (by omega : ¬ k % 5 = 1), if_neg (by omega : ¬ k % 5 = 2), if_neg (by omega : ¬ k % 5 = 3), if_pos k0]
    unfold itGet
    dsimp only
    have hm : (l.take 200).length ≤ 200 := by rw [List.length_take]; omega
    rw [if_neg (by omega : ¬ k % 5 = 0), if_neg (by omega : ¬ k % 5 = 1), if_neg (by omega), Buf.bytes_get_back (l.take 200) r 200 (by omega) (by omega)]
theorem flat_len (L : List Itm) : (L.flatMap itmBytes).length ≤ 210 * L.length := by
  induction L with
  | nil => simp
  | cons t L ih => have := itm_len t; rw [List.flatMap_cons, List.length_append, List.length_cons]; omega
theorem BInv.step {L : List Itm} {S : Int × List UInt8} (h : BInv L S) (hL : L.length < 40) (t : Itm) : BInv (L ++ [t]) (wstep 16384 S t) := by
  have hl := flat_len L
  have ht := itm_len t
  rcases h with h | ⟨rfl, h⟩
  · left
    rw [wstep_bad _ _ _ (by rw [h]; decide)]
    exact h
  · rcases itmErr_01 t with h0 | h1
    · right
      unfold wstep
      rw [if_neg (by rw [h0]; decide)]
      unfold Buf.wput
      rw [if_neg (by simp), if_neg (by dsimp only; omega)]
      refine ⟨by simp, fun x hx => ?_⟩
      rcases List.mem_append.1 hx with hx | hx
      · exact h x hx
      · rw [List.mem_singleton.1 hx]; exact h0
    · left
      unfold wstep
      rw [if_pos (by rw [h1]; decide)]
      rfl
theorem BInv.len {L : List Itm} {S : Int × List UInt8} (h : BInv L S) : S.1 = 1 ∨ S.2.length ≤ 210 * L.length := by
  rcases h with h | ⟨rfl, _⟩
  · exact .inl h
  · exact .inr (flat_len L)
theorem Items.take {w : World} {A : Option Addr} {L : List Itm} (h : Items w A L) (n : Nat) : Items w A (L.take n) := by
  intro hne
  obtain ⟨b, o, rfl, hc⟩ := h (by rintro rfl; simp at hne)
  refine ⟨b, o, rfl, fun k hk => ?_⟩
  rw [List.length_take] at hk
  have := hc k (by omega)
  rw [List.getElem_take]
  exact this
set_option maxRecDepth 100000 in
set_option maxHeartbeats 8000000 in
theorem bufBack_any (A : Option Addr) (L : List Itm) (c : Nat) (w : World) (hLc : L.length ≤ c) (_hc : c ≤ 9223372036854775807) (hi : Items w A L) :
    Calls Try.prog 6 #[.slice A L.length c] w fun e w' => e = .returned (.bool true) ∧ Grow w w' := by
  obtain ⟨M, hM⟩ : ∃ M, M = L.take 30 := ⟨_, rfl⟩
  have hMM : M.length = min 30 L.length := by rw [hM, List.length_take]
  have hi := hM ▸ hi.take 30
  have hmin : (if 30 < (L.length : Int) then (30 : Int) else (L.length : Int)) = ((M.length : Nat) : Int) := by split <;> omega
  have hmc : M.length ≤ c := by omega
  have hmN : M.length ≤ 30 := by omega
  clear hM hMM
  go_enter Try.func6, Try.ntmps6
  go_wp2_with fail
  refine (new_any 16384 w (by decide)).mono ?_
  rintro r w1 ⟨rfl, hwr, hg1⟩
  rw [show max (16384 : Int) 0 = 16384 by decide] at hwr
  have hlt1 := hwr.lt
  have hwr := hide hwr
  generalize hp : w.heap.size = p at *
  go_wp2
  go_loopw [22] (fun i wr => ∃ (k : Nat) (Aw : Option Addr) (cw : Nat) (S : Int × List UInt8), k ≤ M.length ∧ i = .int .i64 k ∧ Hid (Wr wr p p Aw cw S.1 S.2 16384) ∧ Hid (BInv (M.take k) S) ∧ S.2.length ≤ 210 * k ∧ Grow w wr) (fun i _ => M.length - (intOf i).toNat)
  case atStart => exact ⟨0, none, 0, (0, []), by omega, rfl, hwr, hide (.inr ⟨rfl, by simp⟩), by simp, by rw [← hp] at hg1; exact hg1⟩
  case round =>
    obtain ⟨k, Aw, cw, S, hk, rfl, hW, hB, hS, hgr⟩ := hrel
    clear hwr hg1 hlt1
    by_cases hlt : k < M.length
    · obtain ⟨t, ht⟩ : ∃ t, Hid (t = M[k]) := ⟨_, hide rfl⟩
      obtain ⟨b3, o, rfl, hcs, hok⟩ := (hi.grow hgr).at_ k hlt
      rw [← ht.out] at hcs hok
      have d0 := hcs 0 (by omega)
      have d1 := hcs 1 (by omega)
      have d2 := hcs 2 (by omega)
      have d3 := hcs 3 (by omega)
      simp at d0 d1 d2 d3
      clear hcs
      have hsz := hgr.size
      have hti : t.l ≠ [] → ∀ q, blk t.A = some q → blk Aw ≠ some q := fun hne q hq hm => by
        have h1 := hW.out.own.base hm
        obtain ⟨_, _, _, _, hok0⟩ := hi.at_ k hlt
        rw [← ht.out] at hok0
        have := hok0.bytes.inn hne q hq
        omega
      go_wp2_with fail
      refine (itput_any p p Aw cw S.1 S.2 16384 t _ hW.out hok (by omega) (by omega) hti).mono ?_
      rintro r w3 ⟨rfl, Aw3, cw3, hwr3, hk3, hor3⟩
      have hfoot : ∀ q, q ∈ foot p Aw → p ≤ q := fun q hq => by
        rcases List.mem_cons.1 hq with h | h
        · omega
        · exact hW.out.own.base (by simpa using h)
      have hgr3 : Grow w w3 := Below.trans hgr (Kept.to_below (hk3.mono hgr.size (fun q hlt hm => by have := hfoot q hm; omega)))
      have hB3 : Hid (BInv (M.take (k + 1)) (wstep 16384 (S.1, S.2) t)) := hide (by
        rw [List.take_succ_eq_append_getElem hlt, ← ht.out]
        exact hB.out.step (by rw [List.length_take]; omega) t)
      have hl3 := wstep_len 16384 (S.1, S.2) t
      have hl3' : (wstep 16384 (S.1, S.2) t).2.length ≤ S.2.length + 210 := hl3
      have hwr3 := hide hwr3
      clear d0 d1 d2 d3 hok hti hl3 hk3 hor3 hfoot
      go_wp2
      go_roundw
      case rel => exact ⟨k + 1, Aw3, cw3, wstep 16384 (S.1, S.2) t, by omega, by go_num, hwr3, hB3, by omega, hgr3⟩
      case measure => simp [intOf]; omega
    · obtain rfl : k = M.length := by omega
      clear hlt
      have hBB := hB.out
      rw [List.take_length] at hBB
      rcases hBB with h1 | ⟨rfl, hall⟩
      · obtain ⟨e2, bs⟩ := S
        dsimp only at *
        subst h1
        go_wp2_with fail
        refine (done_bad2 _ _ _ _ _ _ _ _ hW.out (by decide)).mono ?_
        rintro r w8 ⟨rfl, hb8⟩
        go_wp2_with fail
        refine (works05_any _).mono ?_
        rintro r w9 ⟨rfl, hb9⟩
        go_wp2
        go_ret
        exact ⟨rfl, Grow.trans (Grow.trans hgr hb8) hb9⟩
      · dsimp only at *
        have hall := hide hall
        have HFL := hide (show M.flatMap itmBytes = M.flatMap itmBytes from rfl)
        obtain ⟨FL, hFL⟩ : ∃ FL, Hid (FL = M.flatMap itmBytes) := ⟨_, hide rfl⟩
        rw [← hFL.out] at hS hW
        clear hB HFL
        go_wp2_with fail
        refine (done_ok _ _ _ _ _ _ _ hW.out (by omega)).mono ?_
        rintro r w8 ⟨A8, c8, rfl, hown8, hb8⟩
        have hgr8 := Grow.trans hgr hb8
        have h8 := hown8.bytes
        clear hown8 hW
        go_wp2_with fail
        refine (read_any _ _ _ _ h8 (by omega)).mono ?_
        rintro r w9 ⟨N, p2, rfl, hr9, hp9, hb9⟩
        have hgr9 := Grow.trans hgr8 hb9
        have hNp : w.heap.size ≤ p2 := by have := hgr8.size; omega
        have hR0 := hide hr9
        clear h8 hr9 hS
        go_wp2
        go_loopw [48] (fun i wr => ∃ k : Nat, k ≤ M.length ∧ i = .int .i64 k ∧ Hid (Rd wr N p2 ((M.drop k).flatMap itmBytes, 0)) ∧ Grow w wr) (fun i _ => M.length - (intOf i).toNat)
        case atStart => exact ⟨0, by omega, rfl, by rw [List.drop_zero, ← hFL.out]; exact hR0, hgr9⟩
        case round =>
          obtain ⟨k, hk, rfl, hR, hgr⟩ := hrel
          clear hR0 hgr9 hgr8 hb8 hb9
          by_cases hlt : k < M.length
          · obtain ⟨t, ht⟩ : ∃ t, Hid (t = M[k]) := ⟨_, hide rfl⟩
            obtain ⟨b3, o, rfl, hcs, hok⟩ := (hi.grow hgr).at_ k hlt
            rw [← ht.out] at hcs hok
            have hdr : (M.drop k).flatMap itmBytes = itmBytes t ++ (M.drop (k + 1)).flatMap itmBytes := by rw [List.drop_eq_getElem_cons hlt, List.flatMap_cons, ← ht.out]
            have hz : itmErr t = 0 := hall.out t (by rw [ht.out]; exact List.getElem_mem hlt)
            have hQ := it_back t ((M.drop (k + 1)).flatMap itmBytes) hok hz
            have hlen : (itmBytes t ++ (M.drop (k + 1)).flatMap itmBytes).length ≤ 1000000000000 := by
              have h1 := flat_len (M.drop (k + 1))
              have h2 := itm_len t
              rw [List.length_drop] at h1
              rw [List.length_append]
              omega
            obtain ⟨RS, hRS⟩ : ∃ RS, Hid (RS = (M.drop (k + 1)).flatMap itmBytes) := ⟨_, hide rfl⟩
            rw [← hRS.out] at hdr hQ hlen
            rw [hdr] at hR
            generalize itmBytes t = TB at *
            have hQ' : itRd (itBack t) (TB ++ RS, 0) = (itWant t, itText t, (RS, 0)) := by
              unfold itRd
              rw [if_pos rfl, hQ]
            have d0 := hcs 0 (by omega)
            have d1 := hcs 1 (by omega)
            have d2 := hcs 2 (by omega)
            have d3 := hcs 3 (by omega)
            simp at d0 d1 d2 d3
            clear hcs hdr hQ
            have hx := hok.x
            have hn0 := hok.n0
            have hn1 := hok.n1
            have hkk := hok.kind
            have hok := hide hok
            have hQ' := hide hQ'
            have hz := hide hz
            rcases (show t.kind % 5 = 0 ∨ t.kind % 5 = 1 ∨ t.kind % 5 = 2 ∨ t.kind % 5 = 3 ∨ t.kind % 5 = 4 by omega) with k0 | k0 | k0 | k0 | k0
            · have e0 : (t.kind : Int) % 5 = 0 := by omega
              have hbk : itBack t = t := if_neg (by omega)
              have hqq := hQ'.out
              rw [hbk, show itText t = [] from if_neg (by omega)] at hqq
              have hw : ((itWant t : Nat) : Int) = (t.x : Int) % 256 := by rw [show itWant t = t.x % 256 from if_pos k0]; omega
              have HC := fun W h1 h2 => itread_any N p2 (TB ++ RS, 0) t W h1 h2 hlen
              rw [hqq] at HC
              unfold Red at HC
              dsimp only at HC
              rw [hw] at HC
              simp only [List.length_nil] at HC
              have HC := hide HC
              have hg6 := (Grow.refl wr).alloc (.cells (icells t) 29)
              have hok6 : t.Ok (wr.alloc (.cells (icells t) 29)) := ⟨hkk, hx, hn0, hn1, hok.out.len, hok.out.cap, hok.out.bytes.grow hg6⟩
              have hgr6 := Grow.trans hgr hg6
              clear hqq hbk k0
              go_wp2_with fail
              refine (HC.out _ (hR.out.grow hg6) hok6).mono ?_
              rintro r w7 ⟨A9, c9, rfl, _, hr7, hk7⟩
              have hgr7 := Kept.fresh1 hk7 hgr6 hNp
              have hR7 := hide hr7
              rw [hRS.out] at hR7
              have V9 := fun A c W => conv_any (w := W) (A := A) (l := []) c (Bytes.nil _ _)
              simp only [List.length_nil] at V9
              clear hr7 hk7 HC hok6 hgr6 hg6
              go_wp2
              go_roundw
              case rel => exact ⟨k + 1, by omega, by go_num, hR7, hgr7⟩
              case measure => simp [intOf]; omega
            · have e0 : (t.kind : Int) % 5 = 1 := by omega
              have hz1 : ¬ (t.n < 1 ∨ 8 < t.n) := by
                have h := hz.out
                unfold itmErr at h
                rw [if_pos k0] at h
                intro hn
                rw [if_pos hn] at h
                cases h
              by_cases h8 : t.n < 8
              · obtain ⟨q, hq⟩ : ∃ q, q = 256 ^ t.n.toNat := ⟨_, rfl⟩
                have hsh : IntKind.u64.wrap (2 ^ min (IntKind.u64.wrap (8 * IntKind.u64.wrap t.n)).toNat 64) = (q : Int) := by
                  rw [hq]
                  rcases (show t.n = 1 ∨ t.n = 2 ∨ t.n = 3 ∨ t.n = 4 ∨ t.n = 5 ∨ t.n = 6 ∨ t.n = 7 by omega) with h | h | h | h | h | h | h <;> (rw [h]; decide)
                have hq0 : 0 < q := by rw [hq]; exact Nat.pow_pos (by omega)
                have hqe : ((q : Int) == 0) = false := by simp; omega
                have hbk : itBack t = t := if_neg (by omega)
                have hqq := hQ'.out
                rw [hbk, show itText t = [] from if_neg (by omega)] at hqq
                have hw : ((itWant t : Nat) : Int) = (t.x : Int) % (q : Int) := by
                  rw [show itWant t = t.x % q by unfold itWant; rw [if_neg (by omega), if_pos k0, hq]]
                  simp
                clear hq hz1
                have HC := fun W h1 h2 => itread_any N p2 (TB ++ RS, 0) t W h1 h2 hlen
                rw [hqq] at HC
                unfold Red at HC
                dsimp only at HC
                rw [hw] at HC
                simp only [List.length_nil] at HC
                have HC := hide HC
                have hg6 := (Grow.refl wr).alloc (.cells (icells t) 29)
                have hok6 : t.Ok (wr.alloc (.cells (icells t) 29)) := ⟨hkk, hx, hn0, hn1, hok.out.len, hok.out.cap, hok.out.bytes.grow hg6⟩
                have hgr6 := Grow.trans hgr hg6
                clear hqq hbk k0
                go_wp2_with fail
                refine (HC.out _ (hR.out.grow hg6) hok6).mono ?_
                rintro r w7 ⟨A9, c9, rfl, _, hr7, hk7⟩
                have hgr7 := Kept.fresh1 hk7 hgr6 hNp
                have hR7 := hide hr7
                rw [hRS.out] at hR7
                have V9 := fun A c W => conv_any (w := W) (A := A) (l := []) c (Bytes.nil _ _)
                simp only [List.length_nil] at V9
                clear hr7 hk7 HC hok6 hgr6 hg6
                go_wp2
                go_roundw
                case rel => exact ⟨k + 1, by omega, by go_num, hR7, hgr7⟩
                case measure => simp [intOf]; omega

              · have h8' : t.n = 8 := by omega
                have hbk : itBack t = t := if_neg (by omega)
                have hqq := hQ'.out
                rw [hbk, show itText t = [] from if_neg (by omega)] at hqq
                have hw : ((itWant t : Nat) : Int) = (t.x : Int) := by
                  rw [show itWant t = t.x by unfold itWant; rw [if_neg (by omega), if_pos k0, h8']; exact mod8 _ hx]
                clear h8' hz1
                have HC := fun W h1 h2 => itread_any N p2 (TB ++ RS, 0) t W h1 h2 hlen
                rw [hqq] at HC
                unfold Red at HC
                dsimp only at HC
                rw [hw] at HC
                simp only [List.length_nil] at HC
                have HC := hide HC
                have hg6 := (Grow.refl wr).alloc (.cells (icells t) 29)
                have hok6 : t.Ok (wr.alloc (.cells (icells t) 29)) := ⟨hkk, hx, hn0, hn1, hok.out.len, hok.out.cap, hok.out.bytes.grow hg6⟩
                have hgr6 := Grow.trans hgr hg6
                clear hqq hbk k0
                go_wp2_with fail
                refine (HC.out _ (hR.out.grow hg6) hok6).mono ?_
                rintro r w7 ⟨A9, c9, rfl, _, hr7, hk7⟩
                have hgr7 := Kept.fresh1 hk7 hgr6 hNp
                have hR7 := hide hr7
                rw [hRS.out] at hR7
                have V9 := fun A c W => conv_any (w := W) (A := A) (l := []) c (Bytes.nil _ _)
                simp only [List.length_nil] at V9
                clear hr7 hk7 HC hok6 hgr6 hg6
                go_wp2
                go_roundw
                case rel => exact ⟨k + 1, by omega, by go_num, hR7, hgr7⟩
                case measure => simp [intOf]; omega

            · have e0 : (t.kind : Int) % 5 = 2 := by omega
              have hbk : itBack t = t := if_neg (by omega)
              have hqq := hQ'.out
              rw [hbk, show itText t = [] from if_neg (by omega)] at hqq
              have hw : ((itWant t : Nat) : Int) = (t.x : Int) := by unfold itWant; rw [if_neg (by omega), if_neg (by omega), if_pos k0]
              have HC := fun W h1 h2 => itread_any N p2 (TB ++ RS, 0) t W h1 h2 hlen
              rw [hqq] at HC
              unfold Red at HC
              dsimp only at HC
              rw [hw] at HC
              simp only [List.length_nil] at HC
              have HC := hide HC
              have hg6 := (Grow.refl wr).alloc (.cells (icells t) 29)
              have hok6 : t.Ok (wr.alloc (.cells (icells t) 29)) := ⟨hkk, hx, hn0, hn1, hok.out.len, hok.out.cap, hok.out.bytes.grow hg6⟩
              have hgr6 := Grow.trans hgr hg6
              clear hqq hbk k0
              go_wp2_with fail
              refine (HC.out _ (hR.out.grow hg6) hok6).mono ?_
              rintro r w7 ⟨A9, c9, rfl, _, hr7, hk7⟩
              have hgr7 := Kept.fresh1 hk7 hgr6 hNp
              have hR7 := hide hr7
              rw [hRS.out] at hR7
              have V9 := fun A c W => conv_any (w := W) (A := A) (l := []) c (Bytes.nil _ _)
              simp only [List.length_nil] at V9
              clear hr7 hk7 HC hok6 hgr6 hg6
              go_wp2
              go_roundw
              case rel => exact ⟨k + 1, by omega, by go_num, hR7, hgr7⟩
              case measure => simp [intOf]; omega
            · have e0 : (t.kind : Int) % 5 = 3 := by omega
              have hbk : itBack t = t := if_neg (by omega)
              have hqq := hQ'.out
              rw [hbk, show itText t = [] from if_neg (by omega)] at hqq
              have hw : ((itWant t : Nat) : Int) = (Buf.zig (wrap64 (t.x : Int)) : Nat) := by unfold itWant; rw [if_neg (by omega), if_neg (by omega), if_neg (by omega), if_pos k0]
              have HC := fun W h1 h2 => itread_any N p2 (TB ++ RS, 0) t W h1 h2 hlen
              rw [hqq] at HC
              unfold Red at HC
              dsimp only at HC
              rw [hw] at HC
              simp only [List.length_nil] at HC
              have HC := hide HC
              have hg6 := (Grow.refl wr).alloc (.cells (icells t) 29)
              have hok6 : t.Ok (wr.alloc (.cells (icells t) 29)) := ⟨hkk, hx, hn0, hn1, hok.out.len, hok.out.cap, hok.out.bytes.grow hg6⟩
              have hgr6 := Grow.trans hgr hg6
              clear hqq hbk k0
              go_wp2_with fail
              refine (refzig_any (wrap64 (t.x : Int)) _ (hide (wrap64_bounds _).1) (hide (wrap64_bounds _).2)).mono ?_
              rintro r w' ⟨rfl, rfl⟩
              go_wp2_with fail
              refine (HC.out _ (hR.out.grow hg6) hok6).mono ?_
              rintro r w7 ⟨A9, c9, rfl, _, hr7, hk7⟩
              have hgr7 := Kept.fresh1 hk7 hgr6 hNp
              have hR7 := hide hr7
              rw [hRS.out] at hR7
              have V9 := fun A c W => conv_any (w := W) (A := A) (l := []) c (Bytes.nil _ _)
              simp only [List.length_nil] at V9
              clear hr7 hk7 HC hok6 hgr6 hg6
              go_wp2
              go_roundw
              case rel => exact ⟨k + 1, by omega, by go_num, hR7, hgr7⟩
              case measure => simp [intOf]; omega
            · have e0 : (t.kind : Int) % 5 = 4 := by omega
              obtain ⟨m, hm⟩ : ∃ m, m = t.l.take 200 := ⟨_, rfl⟩
              have hmm : m.length = min 200 t.l.length := by rw [hm, List.length_take]
              have hmin : (if 200 < (t.l.length : Int) then (200 : Int) else (t.l.length : Int)) = ((m.length : Nat) : Int) := by split <;> omega
              have hokl := hok.out.len
              have hmc : m.length ≤ t.c := by omega
              have hne : m ≠ [] → t.l ≠ [] := by rintro h hl; rw [hl] at hm; simp at hm; exact h hm
              have hti : t.l ≠ [] → ∀ q, blk t.A = some q → q < w.heap.size := fun hne q hq => by
                obtain ⟨_, _, _, _, hok0⟩ := hi.at_ k hlt
                rw [← ht.out] at hok0
                exact hok0.bytes.inn hne q hq
              have hbm := hide (hm ▸ hok.out.bytes.take 200)
              have hbk : itBack t = { t with n := 200 } := if_pos k0
              have hqq := hQ'.out
              rw [hbk, show itText t = m from (if_pos k0).trans hm.symm] at hqq
              have hw : ((itWant t : Nat) : Int) = 0 := by unfold itWant; rw [if_neg (by omega), if_neg (by omega), if_neg (by omega), if_neg (by omega)]; rfl
              have HC := fun W h1 h2 => itread_any N p2 (TB ++ RS, 0) { t with n := 200 } W h1 h2 hlen
              rw [hqq] at HC
              unfold Red at HC
              dsimp only at HC
              rw [hw] at HC
              have HC := hide HC
              have hg6 := ((Grow.refl wr).alloc (.cells (icells { t with n := 200 }) 29)).drew
              have hok6 : ({ t with n := 200 } : Itm).Ok (wr.alloc (.cells (icells { t with n := 200 }) 29)).drew := ⟨hkk, hx, by dsimp only; omega, by dsimp only; omega, hok.out.len, hok.out.cap, hok.out.bytes.grow hg6⟩
              have hgr6 := Grow.trans hgr hg6
              have hmq := hide hmm
              clear hqq hbk k0 hm
              go_wp2_with fail
              go_region
              all_goals
                go_wp2_with fail
                refine (HC.out _ (hR.out.grow hg6) hok6).mono ?_
                rintro r w7 ⟨A9, c9, rfl, hown9, hr7, hk7⟩
                have hgr7 := Kept.fresh1 hk7 hgr6 hNp
                have hR7 := hide hr7
                rw [hRS.out] at hR7
                have hb7 : Bytes w7 t.A m := fun hn => (Bytes.kept (hbm.out.grow hg6) hk7 (fun q hq hq2 => absurd (hti (hne hn) q hq) (by rw [List.mem_singleton.1 hq2]; omega))) hn
                have V9 := conv_any c9 hown9.bytes
                have V10 := conv_any t.c hb7
                rw [hmq.out] at V9 V10
                clear hr7 hk7 HC hok6 hgr6 hg6
                go_wp2
                go_roundw
                case rel => exact ⟨k + 1, by omega, by go_num, hR7, hgr7⟩
                case measure => simp [intOf]; omega
          · obtain rfl : k = M.length := by omega
            clear hlt
            have hrr := hR.out
            rw [List.drop_length] at hrr
            have HE := hide (end_any N p2 (([] : List Itm).flatMap itmBytes, 0) wr hrr)
            clear hrr hR
            rw [show rend (([] : List Itm).flatMap itmBytes, (0 : Int)) = 0 from rfl] at HE
            go_wp2_with fail
            refine HE.out.mono ?_
            rintro r w' ⟨rfl, rfl⟩
            go_wp2_with fail
            refine (works05_any _).mono ?_
            rintro r w9 ⟨rfl, hb9⟩
            go_wp2
            go_ret
            exact ⟨rfl, Grow.trans hgr hb9⟩
end Go.Proofs.Ytpobjcdcimcdnaa
