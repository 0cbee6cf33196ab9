/- The walk of the statement BufOnce. -/
import Derived.Test.YtpobjcdcimcdnaaBufNil
import Derived.Test.YtpobjcdcimcdnaaFew
namespace Go.Proofs.Ytpobjcdcimcdnaa
open Go.RowKit
theorem wput_ok300 (d l : List UInt8) (h : d.length + l.length ≤ 300) : Buf.wput 300 (0, d) l = (0, d ++ l) := by
  unfold Buf.wput
  rw [if_neg (by simp), if_neg (by dsimp only; omega)]
/-- how many bytes a reader at block p has -/
def lenAt (w : World) (p : Nat) : Nat := match w.cell? ⟨p, 1, none⟩ with
  | some (.slice _ n _) => n
  | _ => 0
theorem lenAt_of {w : World} {N p : Nat} {b : List UInt8} (h : Rd w N p (b, 0)) : lenAt w p = b.length := by
  obtain ⟨A, c, l, h1, h2, h3, h4, h5, h6, h7, h8⟩ := h
  unfold lenAt
  rw [cell_of_row w p 1 _ _ (0, 0) h1]
  simp at h2 ⊢
  try simp_all
set_option maxRecDepth 100000 in
set_option maxHeartbeats 2000000 in
theorem bufOnce_any (B : Option Addr) (b : List UInt8) (cb : Nat) (w : World) (hbl : b.length ≤ cb) (hbc : cb ≤ 9223372036854775807) (hb : Bytes w B b) :
    Calls Try.prog 4 #[.slice B b.length cb] w fun e w' => e = .returned (.bool true) ∧ Grow w w' := by
  obtain ⟨m, hm⟩ : ∃ m, m = b.take 200 := ⟨_, rfl⟩
  have hmm : m.length = min 200 b.length := by rw [hm, List.length_take]
  have hb := hm ▸ hb.take 200
  have hmin : (if 200 < (b.length : Int) then (200 : Int) else (b.length : Int)) = ((m.length : Nat) : Int) := by split <;> omega
  have hmc : m.length ≤ cb := by omega
  have hmN : m.length ≤ 200 := by omega
  clear hm hmm hbl
  go_enter Try.func4, Try.ntmps4
  go_wp2_with (at_builtin; refine wpList_append_fresh byteT rfl (.tmp 9) (.tmp 14) rfl (Own.made' _ (w.heap.size) (w.heap.size) (by simp) (by omega)) (by simp <;> omega) (hb.alloc _) rfl rfl (by omega) ?_)
  intro A1 c1 w1 hown1 hb1
  have hb1 := Grow.trans ((Grow.refl _).alloc _) hb1
  have hg1 := hb1
  have hb := hb.grow hg1
  have HG1 := hide (show Grow w w1 from hg1)
  have hsz1 : w.heap.size ≤ w1.heap.size := HG1.out.size
  have hq1 : w.heap.size ≤ w1.heap.size := hg1.size
  have HS1 := hide hg1
  clear hb1 hg1
  have h1 := hown1.bytes
  have hc1 := hown1.le
  have hlt1 := fun q h => hown1.lt (q := q) h
  clear hown1 hb
  go_wp2_with fail
  refine (read_any A1 m c1 _ h1 (by omega)).mono ?_
  rintro r w2 ⟨N, pr, rfl, hr, hpr, hb2⟩
  have hg2 := hb2
  have h1 := h1.grow hg2
  have HG2 := hide (Grow.trans (show Grow w w1 from HG1.out) hg2)
  clear HG1
  have hsz2 : w.heap.size ≤ w2.heap.size := HG2.out.size
  have hq2 : w1.heap.size ≤ w2.heap.size := hg2.size
  have HS2 := hide hg2
  clear hb2 hg2
  go_wp2_with fail
  refine (new_at 300 w2.heap.size _ (by decide) (by decide) rfl).mono ?_
  rintro r w3 ⟨rfl, hwr, hb3⟩
  have hg3 := hb3
  have h1 := h1.grow hg3
  have HG3 := hide (Grow.trans (show Grow w w2 from HG2.out) hg3)
  clear HG2
  have hsz3 : w.heap.size ≤ w3.heap.size := HG3.out.size
  have hq3 : w2.heap.size ≤ w3.heap.size := hg3.size
  have HS3 := hide hg3
  clear hb3 hg3
  have hr3 := hr.grow HS3.out
  have hN2 := hr.size
  have hpN := hr.lt
  have hpw : w.heap.size ≤ pr := by omega
  have hA1 : ∀ q, blk A1 = some q → q < pr := fun q h => by have := hlt1 q h; omega
  clear hr hlt1
  go_wp2
  go_loopw [] (fun wr => ∃ (d rest : List UInt8) (A : Option Addr) (c : Nat), Hid (m = d ++ rest) ∧ Rd wr N pr (rest, 0) ∧ Wr wr w2.heap.size w2.heap.size A c 0 d 300 ∧ Bytes wr A1 m ∧ Grow w wr) (fun wr => lenAt wr pr)
  case atStart => exact ⟨[], m, none, 0, hide rfl, hr3, hwr, h1, HG3.out⟩
  case round =>
    obtain ⟨d, rest, A, c, HM, hrd, hw, hb1, hgr⟩ := hrel
    clear hr3 hwr h1 HG3 HS3
    have HL := hide (left_any N pr (rest, 0) _ hrd)
    dsimp only at HL
    have hdl : d.length + rest.length ≤ 200 := by have := congrArg List.length HM.out; rw [List.length_append] at this; omega
    have hmeas := lenAt_of hrd
    by_cases hz : rest.length = 0
    · have hz0 := List.eq_nil_of_length_eq_zero hz
      subst hz0
      have hmd : d = m := by have := HM.out; rw [List.append_nil] at this; exact this.symm
      subst hmd
      clear HM hz
      go_wp2_with fail
      refine HL.out.mono ?_
      rintro r w' ⟨rfl, rfl⟩
      go_wp2_with fail
      refine (done_ok _ _ A c _ 300 _ hw (by omega)).mono ?_
      rintro r w4 ⟨A4, c4, rfl, hown4, hb4⟩
      have hcv := conv_any c4 hown4.bytes
      have hcv2 := conv_any c1 (hb1.grow hb4)
      have hrd4 := hrd.grow hb4
      have HE := hide (end_any N pr ([], 0) _ hrd4)
      rw [show rend ([], 0) = 0 from rfl] at HE
      have hg4 := hide (Grow.trans hgr hb4)
      clear hown4 hb4 hgr hrd hrd4 hw HL
      go_wp2_with fail
      refine HE.out.mono ?_
      rintro r w' ⟨rfl, rfl⟩
      go_wp2_with fail
      refine (works05_any _).mono ?_
      rintro r w5 ⟨rfl, hb5⟩
      go_wp2
      go_ret
      exact ⟨rfl, Grow.trans hg4.out hb5⟩
    · have hless := hide (fun h => Buf.getNum_less rest h)
      have honce := hide (fun h => Buf.getNum_once rest h)
      have hxlt := hide (rnum_lt (rest, 0))
      have HNm := hide (rnum_any N pr (rest, 0) _ hrd)
      rw [show rnum (rest, 0) = Buf.getNum rest from rfl] at HNm hxlt
      have hEr := hide (fun W h => err_any N pr (Buf.getNum rest).2 W h)
      have hLf := hide (fun W h => left_any N pr (Buf.getNum rest).2 W h)
      generalize Buf.getNum rest = T at *
      obtain ⟨x, r1, e1⟩ := T
      dsimp only at *
      have hz1 : 0 < rest.length := by omega
      clear hz
      go_wp2_with fail
      refine HL.out.mono ?_
      rintro r w' ⟨rfl, rfl⟩
      go_wp2_with fail
      refine HL.out.mono ?_
      rintro r w' ⟨rfl, rfl⟩
      go_wp2_with fail
      refine HNm.out.mono ?_
      rintro r w5 ⟨rfl, hrd5, hk5⟩
      have hsz5 := hk5.size
      have hg5 : Grow w w5 := Kept.fresh1 hk5 hgr hpw
      have hb5 := hb1.kept hk5 (fun q h => by have := hA1 q h; simp; omega)
      have hw5 : Wr w5 w2.heap.size w2.heap.size A c 0 d 300 := hw.keep (hk5.block _ hw.lt (by simp; omega)) (fun q h => hk5.block _ (hw.own.lt h) (by have := hw.own.base h; simp; omega))
      clear hk5 hb1 hw hgr
      go_wp2_with fail
      refine (hEr.out _ hrd5).mono ?_
      rintro r w' ⟨rfl, rfl⟩
      by_cases he : e1 = 0
      rotate_left
      · have he' : (e1 != 0) = true := by simpa using he
        have hg5' := hide hg5
        clear he hg5 hrd5 hw5 hb5 HL HNm hrd
        go_wp2_with fail
        refine (works05_any _).mono ?_
        rintro r w6 ⟨rfl, hb6⟩
        go_wp2
        go_ret
        exact ⟨rfl, Grow.trans hg5'.out hb6⟩
      subst he
      have hless1 := hless.out rfl
      have honce1 := hide (honce.out rfl)
      clear hless honce
      go_wp2_with fail
      refine (hLf.out _ hrd5).mono ?_
      rintro r w' ⟨rfl, rfl⟩
      have hs10 := Buf.sevens_len x
      have HPt := hide (num_any w2.heap.size w2.heap.size A c 0 d 300 x _ hw5 hxlt (by omega) (by have := hw5.lt; omega))
      rw [wput_ok300 d (Buf.sevens x) (by have := congrArg List.length honce1.out; rw [List.length_append] at this; omega)] at HPt
      go_wp2_with fail
      refine HPt.out.mono ?_
      rintro r w6 ⟨rfl, hw6⟩
      have hlo : ∀ q, blk A = some q → w2.heap.size ≤ q := fun q h => hw5.own.base h
      have hg6 : Grow w w6 := Wrote.fresh hw6 hg5 (by omega) (fun q h => by have := hlo q h; omega)
      obtain ⟨A6, c6, hwr6, hk6, ho6⟩ := hw6
      have hfoot : ∀ q, q ∈ foot w2.heap.size A → w2.heap.size ≤ q := fun q hq => by
        rcases List.mem_cons.1 hq with e | e
        · omega
        · exact hlo q (by simpa using e)
      have hbe6 : Below N w5 w6 := Kept.to_below (hk6.mono (by have := hrd5.size; omega) (fun k hk hm => by have := hfoot k hm; omega))
      have hrd6 := hrd5.below hbe6
      have hb6 := hb5.kept hk6 (fun q h hm => by have h1 := hA1 q h; have h2 := hfoot q hm; omega)
      have hm6 := lenAt_of hrd6
      have HM6 : Hid (m = (d ++ Buf.sevens x) ++ r1) := hide (by rw [List.append_assoc, ← honce1.out]; exact HM.out)
      clear HPt hk6 hbe6 hrd5 hw5 hb5 hg5 HL HNm hrd hlo hfoot
      go_wp2
      go_roundw
      case rel => exact ⟨d ++ Buf.sevens x, r1, A6, c6, HM6, hrd6, hwr6, hb6, hg6⟩
      case measure => rw [hm6, hmeas]; exact hless1
end Go.Proofs.Ytpobjcdcimcdnaa
