/- The walk of SnapOnce (chapter 41). -/
import Derived.Test.YtbccbfmgjeknhaaLu
import Derived.Test.YtbccbfmgjeknhaaLn
namespace Go.Proofs.Ytbccbfmgjeknhaa
open Go.RowKit
set_option maxRecDepth 100000 in
set_option maxHeartbeats 2000000 in
theorem snapOnce_any (B : Option Addr) (b : List UInt8) (cb : Nat) (n : Int) (w : World) (hbl : b.length ≤ cb) (_hbc : cb ≤ 9223372036854775807) (hb : Bytes w B b) :
    Calls Try.prog 7 #[.slice B b.length cb, .int .i64 n] w fun e w' => e = .returned (.bool true) ∧ Grow w w' := by
  obtain ⟨m, hm⟩ : ∃ m, m = b.take 400 := ⟨_, rfl⟩
  have hmm : m.length = min 400 b.length := by rw [hm, List.length_take]
  have hb := hm ▸ hb.take 400
  have hmin : (if 400 < (b.length : Int) then (400 : Int) else (b.length : Int)) = ((m.length : Nat) : Int) := by split <;> omega
  have hmc : m.length ≤ cb := by omega
  have hmN : m.length ≤ 400 := by omega
  clear hm hmm hbl
  go_enter Try.func7, Try.ntmps7
  go_wp2_with (at_builtin; refine wpList_append_fresh byteT rfl (.tmp 9) (.tmp 14) rfl (Own.made' _ (w.heap.size) (w.heap.size) (by simp) (by omega)) (by simp <;> omega) (hb.alloc _) rfl rfl (by omega) ?_)
  intro A1 c1 w1 hown1 hb1
  have hg1 := Grow.trans ((Grow.refl _).alloc _) hb1
  have h1 := hown1.bytes
  have hc1 := hown1.le
  clear hb1 hown1 hb
  go_wp2_with fail
  refine (sdecode_any A1 m c1 n _ h1 (by omega)).mono ?_
  rintro r w2 ⟨rfl, hb2⟩
  have h2 := h1.grow hb2
  have hg2 := Grow.trans hg1 hb2
  have hone := hide (dec_once m n)
  have HE := hide (fun h W => sencode_any (decR m n).1 n W h)
  have hok := decR_Ok m n
  generalize decR m n = D at *
  obtain ⟨x, e⟩ := D
  dsimp only at *
  have hsz := hide (st_size x hok.l.len)
  have hocs := hide (scs_one x)
  have hz : Try.zeroCells42.size = (scs x).length := by rw [zero_st, List.size_toArray, scs_len x hok]; decide
  have hbt := (Box.new w2 Try.zeroCells42 42 rfl).there
  rw [hz] at hbt
  have hg3 : Grow w2 (w2.alloc (.cells Try.zeroCells42 42)) := (Grow.refl w2).alloc _
  have hst : Below w2.heap.size (w2.alloc (.cells Try.zeroCells42 42)) ((w2.alloc (.cells Try.zeroCells42 42)).setCells w2.heap.size 0 (scs x)) := Below.setCells (Nat.le_refl _) _ _ (Below.refl _ _)
  have hg4 := hide (Below.trans hg3 hst)
  have hra := hide (World.rangeAt_setCells_same _ w2.heap.size 0 (scs x) hbt)
  have h2 := hide (h2.grow hg4.out)
  have hg2 := hide (hg2.trans hg4.out)
  clear hz hg3 hst hg4 h1 hg1 hb2
  have HE := hide (HE.out hok)
  have hen : Hid (e = 0 → encS x n = (m, 0)) := hide (fun h0 => by obtain ⟨_, hgd, hsb⟩ := hone.out h0; unfold encS; rw [if_pos hgd, hsb])
  obtain ⟨C, hC⟩ : ∃ C, Hid (scs x = C) := ⟨_, hide rfl⟩
  rw [hC.out] at hsz hocs hbt h2 hg2 hra HE ⊢
  clear hone hok hC
  by_cases he : e = 0
  rotate_left
  · have he' : (e != 0) = true := by simpa using he
    clear he
    go_wp2_with (refine wpList_store_mid rfl 42 (.tmp 5) (.tmp 20) rfl w2.heap.size 0 _ rfl rfl (by rw [List.size_toArray]; exact hbt) (by rw [List.size_toArray]; exact hsz.out) (all_oneCell_toArray hocs.out) ?_)
    generalize (w2.alloc (.cells Try.zeroCells42 42)).setCells w2.heap.size 0 C = W at *
    refine (works41_any _).mono ?_
    rintro r w5 ⟨rfl, hb5⟩
    go_wp2
    go_ret
    exact ⟨rfl, Grow.trans hg2.out hb5⟩
  subst he
  rw [hen.out rfl] at HE
  clear hen
  go_wp2_with (first | refine wpList_store_mid rfl 42 (.tmp 5) (.tmp 20) rfl w2.heap.size 0 _ rfl rfl (by rw [List.size_toArray]; exact hbt) (by rw [List.size_toArray]; exact hsz.out) (all_oneCell_toArray hocs.out) ?_ | refine wpList_load_mid rfl 42 (.tmp 5) rfl w2.heap.size 0 rfl C _ hra.out Try.underlying42 rfl hsz.out ?_)
  generalize (w2.alloc (.cells Try.zeroCells42 42)).setCells w2.heap.size 0 C = W at *
  refine (HE.out _).mono ?_
  rintro r w3 ⟨⟨A3, c3, rfl, hown3⟩, hb3⟩
  have hg3 := Grow.trans hg2.out hb3
  have V : (convert 22 9 (.slice A1 m.length c1)).run Try.prog w3 = .ok (.string ⟨m.toArray⟩) w3 := conv_any c1 (h2.out.grow hb3)
  have V2 : (convert 22 9 (.slice A3 m.length c3)).run Try.prog w3 = .ok (.string ⟨m.toArray⟩) w3 := conv_any c3 hown3.bytes
  clear hown3
  go_wp2_with fail
  refine (works41_any _).mono ?_
  rintro r w5 ⟨rfl, hb5⟩
  go_wp2
  go_ret
  exact ⟨rfl, Grow.trans hg3 hb5⟩
end Go.Proofs.Ytbccbfmgjeknhaa
