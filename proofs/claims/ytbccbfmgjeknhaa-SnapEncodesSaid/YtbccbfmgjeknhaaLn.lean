/- angeluslaw41.works. -/
import Derived.Test.YtbccbfmgjeknhaaSp
import Derived.Test.YtbccbfmgjeknhaaLl
import Derived.Test.YtbccbfmgjeknhaaLm
import Derived.Test.YtbccbfmgjeknhaaFewQ
namespace Go.Proofs.Ytbccbfmgjeknhaa
open Go.RowKit
theorem OwnV.at {w : World} {base n c : Nat} {A : Option Addr} {Y : List SB} (h : OwnV w base (.slice A n c) Y) (hne : Y ≠ []) : ∃ g, A = some ⟨g, 0, none⟩ ∧ base ≤ g ∧ ∀ j (hj : j < Y.length), w.cell? ⟨g, j, none⟩ = some (sbv Y[j]) := by
  obtain ⟨h0, ⟨he, h1⟩ | ⟨g, cap, cur, he, hbb, hg, h1, h2, h3, h4⟩⟩ := h
  · have : Y = [] := List.eq_nil_of_length_eq_zero h1
    exact absurd this hne
  · obtain ⟨rfl, _, _⟩ : A = some ⟨g, 0, none⟩ ∧ n = Y.length ∧ c = cap := by simpa using he
    refine ⟨g, rfl, hbb, fun j hj => ?_⟩
    rw [cell_of_row w g _ _ _ (0, 0) hg]
    have h5 : (cur.toList.take (Y.length * 1))[j]? = (Y.map sbv)[j]? := by rw [h4]
    rw [List.getElem?_take_of_lt (by omega), List.getElem?_map, List.getElem?_eq_getElem hj] at h5
    simpa using h5
def exSt : St := ⟨2, 3, ⟨0, 0, List.replicate 64 0⟩⟩
theorem exSt_ok : exSt.Ok := ⟨by decide, by decide, by decide, ⟨by decide, by decide, by decide, by decide, by decide⟩⟩
theorem exSt_enc : (encS exSt 2).2 = 0 ∧ (encS exSt 2).1.length = 33 ∧ (splitR 16 (encS exSt 2).1).map (·.length) = [16, 16, 1] := by decide +kernel
set_option maxRecDepth 100000 in
set_option maxHeartbeats 4000000 in
theorem works41_any (w : World) : Calls Try.prog 14 #[] w fun e w' => e = .returned (.bool true) ∧ Grow w w' := by
  have HE := hide (fun W => sencode_any exSt 2 W exSt_ok)
  obtain ⟨h1, h2, h3⟩ := exSt_enc
  rw [h1] at HE
  clear h1
  generalize (encS exSt 2).1 = B at *
  have HS := hide (fun A c W hb => ssplit_any A B c 16 W (by decide) (by decide) (by omega) hb)
  have HN := hide (fun W => scount_any 33 16 W (by decide) (by decide))
  generalize splitR 16 B = S at *
  have h4 : S.length = 3 := by have := congrArg List.length h3; simpa using this
  have h3 := hide h3
  go_enter Try.func14, Try.ntmps14
  go_wp2_with fail
  refine (HE.out _).mono ?_
  rintro r0 w2 ⟨⟨A2, c2, rfl, hown2⟩, hg2⟩
  have hb2 := hide hown2.bytes
  clear hown2 HE
  rw [h2] at HS ⊢
  go_wp2_with fail
  refine (HS.out _ _ _ hb2.out).mono ?_
  rintro r0 w3 ⟨⟨A3, c3, Y, rfl, hYS, hV, hYb⟩, hg3⟩
  clear HS
  have hYl : Y.length = 3 := by rw [← h4, ← hYS]; simp
  obtain ⟨g3, rfl, _, hcell⟩ := hV.at (by intro e; rw [e] at hYl; cases hYl)
  have hc2 := hcell 2 (by omega)
  have hl2 : (Y[2]'(by omega)).l.length = 1 := by
    have := h3.out
    rw [← hYS, List.map_map] at this
    have h5 := congrArg (fun l => l[2]?) this
    simpa [hYl] using h5
  have hgl3 := World.block_lt_of_cell? w3 _ hc2
  rw [show sbv (Y[2]'(by omega)) = .slice (Y[2]'(by omega)).A 1 (Y[2]'(by omega)).c from by unfold sbv; rw [hl2]] at hc2
  generalize (Y[2]'(by omega)).A = A5 at *
  generalize (Y[2]'(by omega)).c = c5 at *
  rw [h4]
  clear hYS hV hYb hcell h3 hYl hl2 h4
  go_wp2_with fail
  refine (HN.out _).mono ?_
  rintro r0 w4 ⟨rfl, rfl⟩
  go_wp2
  go_ret
  exact ⟨rfl, hg2.trans hg3⟩
end Go.Proofs.Ytbccbfmgjeknhaa
