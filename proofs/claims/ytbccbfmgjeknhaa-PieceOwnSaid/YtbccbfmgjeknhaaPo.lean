/- The walk of PieceOwn (chapter 42). -/
import Derived.Test.YtbccbfmgjeknhaaPg
namespace Go.Proofs.Ytbccbfmgjeknhaa
open Go.RowKit
theorem ex42o (n : Nat) (h : n ≤ 60) : pcheck 0 0 0 [] (chunkP 0 0 0 1 0 0 1) n = 0 := by
  have hc : chunkB (chunkP 0 0 0 1 0 0 1) n = true := by
    have h64 : n ≤ 64 := by omega
    have e : chunkB (chunkP 0 0 0 1 0 0 1) n = (decide (n ≤ 64)) := by
      have : ∀ b : Bool, ((6 : Int) == 6 && headB (chunkP 0 0 0 1 0 0 1) && ((0 : Int) == 0 && (0 : Int) == 0 && b && numB 1 && nodeB 0 && countsB 0 1)) = b := by decide
      exact this _
    rw [e]
    simpa using h64
  unfold pcheck
  rw [hc]
  decide
theorem ex42w (m : List UInt8) : wholeR [(0, m)] 1 = (m, true) := by
  unfold wholeR
  simp [parts, part, List.range_succ]
theorem bump_own {w w' : World} {base g k : Nat} {c : Nat} {l : List UInt8} {x : UInt8} (h : Own w base (some ⟨g, 0, none⟩) c l) (hW : w.setCell ⟨g, k, none⟩ (.int .u8 (((x.toNat : Int) + 1) % 256)) = w') : Own w' base (some ⟨g, 0, none⟩) c (l.set k (UInt8.ofNat ((x.toNat + 1) % 256))) := by
  have h1 := h.set k (UInt8.ofNat ((x.toNat + 1) % 256))
  have e : u8 (UInt8.ofNat ((x.toNat + 1) % 256)) = .int .u8 (((x.toNat : Int) + 1) % 256) := by
    unfold u8
    rw [UInt8.toNat_ofNat', Nat.mod_eq_of_lt (Nat.mod_lt _ (by omega))]
    simp
  rw [e, hW] at h1
  exact h1
set_option maxRecDepth 100000 in
set_option maxHeartbeats 4000000 in
theorem pieceOwn_any (A : Option Addr) (l : List UInt8) (c : Nat) (w : World) (hl : l.length ≤ c) (hc : c ≤ 9223372036854775807) (hb : Bytes w A l) :
    Calls Try.prog 9 #[.slice A l.length c] w fun e w' => e = .returned (.bool true) ∧ Grow w w' := by
  obtain ⟨m, hm⟩ : ∃ m, m = l.take 60 := ⟨_, rfl⟩
  have hmm : m.length = min 60 l.length := by rw [hm, List.length_take]
  have hb := hm ▸ hb.take 60
  have hmin : (if 60 < (l.length : Int) then (60 : Int) else (l.length : Int)) = ((m.length : Nat) : Int) := by split <;> omega
  have hmc : m.length ≤ c := by omega
  have hmN : m.length ≤ 60 := by omega
  clear hm hmm hl
  go_enter Try.func9, Try.ntmps9
  go_wp2_with (at_builtin; refine wpList_append_fresh byteT rfl (.tmp 11) (.tmp 16) rfl (Own.made' _ (w.heap.size) (w.heap.size) (by simp) (by omega)) (by simp <;> omega) (hb.alloc _) rfl rfl (by omega) ?_)
  intro A1 c1 w1 hown1 hb1
  have hg1 := Grow.trans ((Grow.refl _).alloc _) hb1
  have hc1 := hown1.le
  have V1 : (convert 22 9 (.slice A1 m.length c1)).run Try.prog w1 = .ok (.string ⟨m.toArray⟩) w1 := conv_any c1 hown1.bytes
  clear hb hb1 hmin hmc hc
  have hown1 := hide hown1
  go_wp2_with fail
  refine (pnew_any 0 w1).mono ?_
  rintro r w2 ⟨p, q, rfl, h2, hg12⟩
  have hown2 := hide (hown1.out.below hg12)
  have hlow := h2.low
  have hlt1 := hide (fun g hg => hown1.out.lt (q := g) hg)
  have hpl := h2.box.lt
  have hml := h2.map.lt
  have h2 := hide h2
  have hg2 := Grow.trans hg1 hg12
  clear V1 hown1
  go_wp2_with fail
  refine (refchunknew_any 0 0 0 1 0 0 1 A1 m.length c1 _).mono ?_
  rintro r w3 ⟨rfl, hg23⟩
  have hown3 := hide (hown2.out.below hg23)
  have hg3 := Grow.trans hg2 hg23
  have h12 := hg12.size
  have h23 := hg23.size
  have HN := hide (pnote_any (chunkP 0 0 0 1 0 0 1) A1 m c1 w3 (h2.out.grow hg23) hown3.out.bytes (by omega) (by omega) (fun _ g hg => by have := hlt1.out g hg; omega))
  rw [show ([] : List PE).map kl = [] from rfl, ex42o _ hmN] at HN
  clear hown2 h2 hg23 hg2 hg12
  go_wp2_with fail
  refine HN.out.mono ?_
  rintro r w4 ⟨rfl, _, hz, hk⟩
  obtain ⟨X4, h4, hX4⟩ := hz rfl
  have hX4 : X4.map kl = [(0, m)] := hX4
  have h4 : Pc w4 w1.heap.size p q 0 1 ((1 : Nat) : Int) X4 := h4
  have hown4 : Own w4 w.heap.size A1 c1 m := hown3.out.kept (fun g hg => hk.block g (hown3.out.lt hg) (by have := hlt1.out g hg; simp; omega))
  have hs1 := hg1.size
  have hg4 := hg3.keptS hk (by simp; omega)
  have h4 := hide h4
  have hX4 := hide hX4
  have hk0 := Kept.refl w4.heap.size (blk A1).toList w4
  clear hk hz HN hown3 hg3
  have hg4 := hide hg4
  go_wp2
  go_loopw [29] (fun i wr => ∃ (k : Nat) (l' : List UInt8), k ≤ m.length ∧ i = .int .i64 k ∧ l'.length = m.length ∧ Own wr w.heap.size A1 c1 l' ∧ Kept w4.heap.size (blk A1).toList w4 wr) (fun i _ => m.length - (intOf i).toNat)
  case atStart => exact ⟨0, m, by omega, rfl, rfl, hown4, hk0⟩
  case round =>
    obtain ⟨k, l', hk, rfl, hll, hown, hK⟩ := hrel
    clear hown4 hk0
    by_cases hlt : k < m.length
    · obtain ⟨g, rfl⟩ : ∃ g, A1 = some ⟨g, 0, none⟩ := by
        rcases hown.form with ⟨_, h0, _⟩ | ⟨g, hA, _⟩
        · rw [h0] at hll; simp at hll; omega
        · exact ⟨g, hA⟩
      have hcell := hown.cell k (by omega)
      have hfr := hown.frozen k
      generalize l'[k]'(by omega) = x at hcell
      have hx8 := u8_lt x
      go_wp2
      go_roundw
      case rel => exact ⟨k + 1, l'.set k _, by omega, by go_num, by rw [List.length_set]; exact hll, bump_own hown rfl, hK.setCell (p := ⟨g, k, none⟩) (.inr (by simp [blk])) _⟩
      case measure => simp [intOf]; omega
    · have hkm : k = m.length := by omega
      subst hkm
      have h5 := h4.out.kept hK (fun g hg => hlt1.out g (by simpa using hg))
      have hg5 : Grow w wr := hg4.out.keptS hK (fun g hg => hown.base (by simpa using hg))
      clear hlt hown h4 hll hK
      have HW := hide (fun W h => pwhole_any (T := 1) (X := X4) (N := w1.heap.size) (p := p) (m := q) (sf := 0) (no := 1) W h (by omega) (by rw [hX4.out]; intro x hx; rw [List.mem_singleton.1 hx]; show m.length ≤ 1000; omega))
      rw [hX4.out, ex42w] at HW
      go_wp2_with fail
      refine (HW.out _ h5).mono ?_
      rintro r w6 ⟨⟨A6, c6, rfl, hown6⟩, hg56⟩
      have h6 := hide (h5.grow hg56)
      have hg6 := hide (Grow.trans hg5 hg56)
      have hc6 := hown6.le
      have hs6 := hg56.size
      have hb6 := hg56
      have h5 := hide h5
      clear hg56
      have hg5s := hide hg5
      obtain ⟨w5, hw5⟩ : ∃ w5, w5 = wr := ⟨_, rfl⟩
      subst hw5
      go_wp2
      clear hg5
      go_loopw [46] (fun i wx => ∃ (k : Nat) (l' : List UInt8), k ≤ m.length ∧ i = .int .i64 k ∧ l'.length = m.length ∧ Own wx w5.heap.size A6 c6 l' ∧ Below w5.heap.size w5 wx) (fun i _ => m.length - (intOf i).toNat)
      case atStart => exact ⟨0, m, by omega, rfl, rfl, hown6, hb6⟩
      case round =>
        obtain ⟨k, l', hk, rfl, hll, hown, hK⟩ := hrel
        clear hown6 hb6
        by_cases hlt : k < m.length
        · obtain ⟨g, rfl⟩ : ∃ g, A6 = some ⟨g, 0, none⟩ := by
            rcases hown.form with ⟨_, h0, _⟩ | ⟨g, hA, _⟩
            · rw [h0] at hll; simp at hll; omega
            · exact ⟨g, hA⟩
          have hcell := hown.cell k (by omega)
          have hfr := hown.frozen k
          have hbg := hown.base (q := g) rfl
          generalize l'[k]'(by omega) = x at hcell
          have hx8 := u8_lt x
          go_wp2
          go_roundw
          case rel => exact ⟨k + 1, l'.set k _, by omega, by go_num, by rw [List.length_set]; exact hll, bump_own hown rfl, hK.setCell (p := ⟨g, k, none⟩) hbg _⟩
          case measure => simp [intOf]; omega
        · have hkm : k = m.length := by omega
          subst hkm
          have hg7 : Grow w wr := Grow.trans hg5s.out hK
          have h7 := hide (h5.out.grow hK)
          clear hlt hown hll
          go_wp2_with fail
          refine (HW.out _ h7.out).mono ?_
          rintro r w8 ⟨⟨A8, c8, rfl, hown8⟩, hg78⟩
          have V8 : (convert 22 9 (.slice A8 m.length c8)).run Try.prog w8 = .ok (.string ⟨m.toArray⟩) w8 := conv_any c8 hown8.bytes
          have hg8 := Grow.trans hg7 hg78
          clear hown8 HW
          go_wp2_with fail
          refine (works42_any _).mono ?_
          rintro r w9 ⟨rfl, hg9⟩
          have hg9 := Grow.trans hg8 hg9
          go_wp2
          go_ret
          exact ⟨rfl, hg9⟩
end Go.Proofs.Ytbccbfmgjeknhaa
