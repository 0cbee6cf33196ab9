/- The walk of SnapDecodes (chapter 41). -/
import Derived.Test.YtbccbfmgjeknhaaLz
import Derived.Test.YtbccbfmgjeknhaaLw
import Derived.Test.YtbccbfmgjeknhaaLn
namespace Go.Proofs.Ytbccbfmgjeknhaa
open Go.RowKit
set_option maxRecDepth 100000 in
set_option maxHeartbeats 2000000 in
theorem snapDecodes_any (B : Option Addr) (b : List UInt8) (cb : Nat) (n : Int) (w : World) (hbl : b.length ≤ cb) (_hbc : cb ≤ 9223372036854775807) (hb : Bytes w B b) :
    Calls Try.prog 6 #[.slice B b.length cb, .int .i64 n] w fun e w' => e = .returned (.bool true) ∧ Grow w w' := by
  obtain ⟨m, hm⟩ : ∃ m, m = b.take 400 := ⟨_, rfl⟩
  have hmm : m.length = min 400 b.length := by rw [hm, List.length_take]
  have hb := hm ▸ hb.take 400
  have hmin : (if 400 < (b.length : Int) then (400 : Int) else (b.length : Int)) = ((m.length : Nat) : Int) := by split <;> omega
  have hmc : m.length ≤ cb := by omega
  have hmN : m.length ≤ 400 := by omega
  clear hm hmm hbl
  go_enter Try.func6, Try.ntmps6
  go_wp2_with (at_builtin; refine wpList_append_fresh byteT rfl (.tmp 9) (.tmp 14) rfl (Own.made' _ (w.heap.size) (w.heap.size) (by simp) (by omega)) (by simp <;> omega) (hb.alloc _) rfl rfl (by omega) ?_)
  intro A1 c1 w1 hown1 hb1
  have hg1 := Grow.trans ((Grow.refl _).alloc _) hb1
  have h1 := hown1.bytes
  have hc1 := hown1.le
  clear hb1 hown1 hb
  go_wp2_with fail
  refine (sdecode_any A1 m c1 n _ h1 (by omega)).mono ?_
  rintro r w2 ⟨rfl, hb2⟩
  have h2 := h1.grow hb2
  have hg2 := Grow.trans hg1 hb2
  have HD := hide (fun W h => refdec_any A1 m c1 n W h hc1.1 hc1.2)
  have hok := decR_Ok m n
  generalize decR m n = D at *
  obtain ⟨x, e⟩ := D
  dsimp only at *
  have hsz := hide (st_size x hok.l.len)
  have hsz' := hide (rst_size x hok.l.len)
  have hocs := hide (scs_one x)
  have HS := hide (fun W => same41_any x W hok)
  have hz : Try.zeroCells42.size = (scs x).length := by rw [zero_st, List.size_toArray, scs_len x hok]; decide
  have hz' : Hid (Try.zeroCells36.size = (scs x).length) := hide (by rw [zero_rst, List.size_toArray, scs_len x hok]; decide)
  have hbt := (Box.new w2 Try.zeroCells42 42 rfl).there
  rw [hz] at hbt
  have hg3 : Grow w2 (w2.alloc (.cells Try.zeroCells42 42)) := (Grow.refl w2).alloc _
  have hst : Below w2.heap.size (w2.alloc (.cells Try.zeroCells42 42)) ((w2.alloc (.cells Try.zeroCells42 42)).setCells w2.heap.size 0 (scs x)) := Below.setCells (Nat.le_refl _) _ _ (Below.refl _ _)
  have hg4 := hide (Below.trans hg3 hst)
  have hra := hide (World.rangeAt_setCells_same _ w2.heap.size 0 (scs x) hbt)
  have h2 := hide (h2.grow hg4.out)
  have hg2 := hide (hg2.trans hg4.out)
  clear hz hg3 hst hg4 h1 hg1 hb2
  obtain ⟨C, hC⟩ : ∃ C, Hid (scs x = C) := ⟨_, hide rfl⟩
  rw [hC.out] at hsz hsz' hocs hbt h2 hg2 hra HS HD hz' ⊢
  clear hok hC
  go_wp2_with (refine wpList_store_mid rfl 42 (.tmp 5) (.tmp 20) rfl w2.heap.size 0 _ rfl rfl ?_ ?_ ?_ ?_; (rw [List.size_toArray]; exact hbt); (rw [List.size_toArray]; exact hsz.out); (exact all_oneCell_toArray hocs.out))
  generalize (w2.alloc (.cells Try.zeroCells42 42)).setCells w2.heap.size 0 C = w3 at *
  clear hbt
  refine (HD.out _ h2.out).mono ?_
  rintro r w4 ⟨rfl, hb4⟩
  have hra4 := rangeAt_grow' hra.out hb4
  have hg4 := hg2.out.trans hb4
  have hbt := (Box.new w4 Try.zeroCells36 36 rfl).there
  rw [hz'.out] at hbt
  have hg5 : Grow w4 (w4.alloc (.cells Try.zeroCells36 36)) := (Grow.refl w4).alloc _
  have hst : Below w4.heap.size (w4.alloc (.cells Try.zeroCells36 36)) ((w4.alloc (.cells Try.zeroCells36 36)).setCells w4.heap.size 0 C) := Below.setCells (Nat.le_refl _) _ _ (Below.refl _ _)
  have hg5 := Below.trans hg5 hst
  have hra5 := hide (rangeAt_grow' hra4 hg5)
  have hra6 := hide (World.rangeAt_setCells_same _ w4.heap.size 0 C hbt)
  have hg6 := hide (hg4.trans hg5)
  clear hra hra4 hg4 hg5 hst hb4 h2 hg2 HD hz'
  go_wp2_with (first | (refine wpList_store_mid rfl 36 (.tmp 7) (.tmp 26) rfl w4.heap.size 0 _ rfl rfl ?_ ?_ ?_ ?_; (rw [List.size_toArray]; exact hbt); (rw [List.size_toArray]; exact hsz'.out); (exact all_oneCell_toArray hocs.out)) | (refine wpList_load_want rfl 42 (.tmp 5) rfl w2.heap.size 0 rfl C _ hra5.out Try.underlying42 rfl hsz.out ?_) | (refine wpList_load_want rfl 36 (.tmp 7) rfl w4.heap.size 0 rfl C _ hra6.out Try.underlying36 rfl hsz'.out ?_))
  generalize (w4.alloc (.cells Try.zeroCells36 36)).setCells w4.heap.size 0 C = w6 at *
  refine (HS.out _).mono ?_
  rintro r w7 ⟨rfl, hb7⟩
  go_wp2_with fail
  refine (works41_any _).mono ?_
  rintro r w8 ⟨rfl, hb8⟩
  go_wp2
  go_ret
  exact ⟨rfl, Grow.trans (hg6.out.trans hb7) hb8⟩
end Go.Proofs.Ytbccbfmgjeknhaa
