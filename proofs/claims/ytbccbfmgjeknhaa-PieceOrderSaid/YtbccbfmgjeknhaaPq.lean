/- The walk of PieceOrder (chapter 42). -/
import Derived.Test.YtbccbfmgjeknhaaPg
import Derived.Test.YtbccbfmgjeknhaaSp
namespace Go.Proofs.Ytbccbfmgjeknhaa
open Go.RowKit
/-- the parts that came, in their order -/
def ordL (S : List (List UInt8)) (K : List Nat) : List (Nat × List UInt8) := K.map (fun k => (k, S.getD k []))
theorem ordL_any (S : List (List UInt8)) (K : List Nat) (k : Nat) : (ordL S K).any (fun x => x.1 == k) = K.contains k := by
  unfold ordL
  induction K with
  | nil => rfl
  | cons a K ih =>
    rw [List.map_cons, List.any_cons, ih, List.contains_cons]
    congr 1
    exact Bool.beq_comm
theorem ordL_part (S : List (List UInt8)) (K : List Nat) (k : Nat) (h : K.contains k = true) : part (ordL S K) k = S.getD k [] := by
  unfold ordL part
  induction K with
  | nil => simp at h
  | cons a K ih =>
    rw [List.map_cons, List.find?_cons]
    by_cases e : a = k
    · simp [e]
    · have e2 : (a == k) = false := by simpa using e
      simp only [e2]
      refine ih ?_
      rw [List.contains_cons] at h
      have e3 : (k == a) = false := by simpa using Ne.symm e
      rw [e3, Bool.false_or] at h
      exact h
theorem count_add (K : List Nat) (k : Nat) (hk : K.contains k = false) : ∀ n, (List.range n).countP (fun j => (K ++ [k]).contains j) = (List.range n).countP (fun j => K.contains j) + (if k < n then 1 else 0)
  | 0 => by simp
  | n + 1 => by
    have ih := count_add K k hk n
    rw [List.range_succ, List.countP_append, List.countP_append, ih]
    have e : ∀ j, (K ++ [k]).contains j = (K.contains j || j == k) := by intro j; rw [Bool.eq_iff_iff]; simp
    simp only [List.countP_cons, List.countP_nil, e]
    by_cases hn : n = k
    · subst hn
      rw [hk]
      simp
    · have : (n == k) = false := by simpa using hn
      rw [this, Bool.or_false]
      by_cases h1 : k < n
      · rw [if_pos h1, if_pos (show k < n + 1 by omega)]; omega
      · rw [if_neg h1, if_neg (show ¬ k < n + 1 by omega)]; omega
theorem count_full (K : List Nat) (n : Nat) (h : (List.range n).countP (fun j => K.contains j) = n) : ∀ j, j < n → K.contains j = true := by
  have h1 : (List.range n).countP (fun j => K.contains j) = (List.range n).length := by rw [List.length_range]; exact h
  have h2 := List.countP_eq_length.1 h1
  intro j hj
  exact h2 j (List.mem_range.2 hj)
/-- all that came, together -/
theorem ord_whole (S : List (List UInt8)) (K : List Nat) (hK : K ≠ []) (hc : K.length = (List.range S.length).countP (fun j => K.contains j)) : wholeR (ordL S K) S.length = if K.length < S.length then ([], false) else (S.flatten, true) := by
  have hl : (ordL S K).length = K.length := by simp [ordL]
  have h0 : 0 < K.length := List.length_pos_iff.2 hK
  have hle : K.length ≤ S.length := by
    have := List.countP_le_length (p := fun j => K.contains j) (l := List.range S.length)
    rw [List.length_range] at this
    omega
  unfold wholeR
  rw [hl]
  by_cases h : K.length < S.length
  · rw [if_pos (.inr h), if_pos h]
  · rw [if_neg (by omega), if_neg h]
    have hall := count_full K S.length (by omega)
    have : parts (ordL S K) S.length = S := by
      apply List.ext_getElem
      · rw [parts_len]
      · intro j h1 h2
        have e : (parts (ordL S K) S.length)[j] = part (ordL S K) j := by simp [parts]
        rw [e, ordL_part S K j (hall j h2), List.getD_eq_getElem?_getD, List.getElem?_eq_getElem h2]
        rfl
    rw [this]
theorem ord_check (S : List (List UInt8)) (K : List Nat) (i k : Nat) (hi : i < 500) (hk : k < S.length) (hS : S.length ≤ 255) (n : Nat) (hn : n ≤ 64) :
    pcheck 1 (if K = [] then 0 else 9) (if K = [] then 0 else (S.length : Int)) (ordL S K) (chunkP i (i % 5 : Nat) 0 9 1 k S.length) n = if K.contains k = true then 12 else 0 := by
  have hB : chunkB (chunkP i (i % 5 : Nat) 0 9 1 k S.length) n = true := by
    have h5 : i % 5 < 5 := Nat.mod_lt _ (by omega)
    simp [chunkB, headB, floodB, hopsB, keyB, chunkN, numB, nodeB, countsB]
    omega
  unfold pcheck
  rw [hB, if_neg (by simp), if_neg (by simp)]
  by_cases hK : K = []
  · subst hK
    rw [if_pos (.inl rfl)]
    simp
  · have e : ordL S K ≠ [] := by simpa [ordL] using hK
    simp only [hK, if_false]
    rw [if_neg (by rintro (h | h); exact e h; simp at h), if_neg (by simp), if_neg (by simp)]
    have := ordL_any S K k
    rw [show ((chunkP i (i % 5 : Nat) 0 9 1 k S.length).index.toNat) = k from by simp, this]
theorem boolInfo : (Try.prog.info? 4).map (fun i => (i.zero, i.size, i.bytes)) = some (some (.bool false), 1, 1) := by kernel_rfl
abbrev OwnB (w : World) (base : Nat) (v : Value) (n : Nat) (K : List Nat) : Prop := w.ownsRow base 4 1 v n ((List.range n).map (fun j => Value.bool (K.contains j)))
theorem OwnB.cell {w : World} {base g n c : Nat} {K : List Nat} (h : OwnB w base (.slice (some ⟨g, 0, none⟩) n c) n K) (k : Nat) (hk : k < n) : w.cell? ⟨g, k, none⟩ = some (.bool (K.contains k)) := by
  rw [World.ownsRow.cellAt h k (by omega), List.getElem?_map, List.getElem?_range hk]
  rfl
theorem OwnB.set {w : World} {base g n c : Nat} {K : List Nat} (h : OwnB w base (.slice (some ⟨g, 0, none⟩) n c) n K) (k : Nat) (hk : k < n) : OwnB (w.setCell ⟨g, k, none⟩ (.bool true)) base (.slice (some ⟨g, 0, none⟩) n c) n (K ++ [k]) := by
  have h1 := (World.ownsRow.stored h k (.bool true)).1
  have e : ((List.range n).map (fun j => Value.bool (K.contains j))).set k (.bool true) = (List.range n).map (fun j => Value.bool ((K ++ [k]).contains j)) := by
    apply List.ext_getElem
    · simp
    · intro j h1 h2
      have hj : j < n := by simpa using h2
      rw [List.getElem_set]
      simp only [List.getElem_map, List.getElem_range]
      by_cases hjk : k = j
      · subst hjk; simp
      · rw [if_neg hjk]
        have : (K ++ [k]).contains j = K.contains j := by
          rw [Bool.eq_iff_iff]
          simp
          exact fun e => absurd e.symm hjk
        rw [this]
  unfold OwnB
  rw [← e]
  exact h1
theorem OwnB.keep {w w' : World} {base g n c : Nat} {K : List Nat} (h : OwnB w base (.slice (some ⟨g, 0, none⟩) n c) n K) (hb : w'.heap[g]? = w.heap[g]?) : OwnB w' base (.slice (some ⟨g, 0, none⟩) n c) n K := by
  obtain ⟨h0, h1 | ⟨g', cap, cur, he, hbb, hg, h1, h2, h3, h4⟩⟩ := h
  · exact ⟨h0, .inl h1⟩
  · obtain rfl : g = g' := by simp at he; exact he.1
    exact ⟨h0, .inr ⟨g, cap, cur, he, hbb, hb.trans hg, h1, h2, h3, h4⟩⟩
theorem Pc.setCell {w : World} {N p m : Nat} {sf no tot : Int} {X : List PE} (h : Pc w N p m sf no tot X) (g i : Nat) (v : Value) (hp : g ≠ p) (hm : g ≠ m) (hX : ∀ x, x ∈ X → blk x.A ≠ some g) : Pc (w.setCell ⟨g, i, none⟩ v) N p m sf no tot X := by
  refine ⟨h.box.set_ne (p := ⟨g, i, none⟩) (by simpa using hp) v, h.map.keep (Below.heap_setCell _ _ _ _ (Ne.symm hm)), h.low, fun x hx => ?_⟩
  obtain ⟨h1, h2⟩ := h.own x hx
  refine ⟨h1.setAt (p := ⟨g, i, none⟩) (fun q hq e => hX x hx (by rw [hq]; exact congrArg some e)) v, fun q hq => ?_⟩
  have := h2 q hq
  simp [World.setCell]
  exact this
theorem made_bool (n : Nat) : (madeCells (Value.bool false).cells (n * 1)).toList = (List.range n).map (fun j => Value.bool (([] : List Nat).contains j)) := by
  apply List.ext_getElem
  · simp [madeCells]
  · intro j h1 h2
    simp [madeCells, Value.cells, Nat.mod_one]
theorem OwnB.lt {w : World} {base g n c : Nat} {K : List Nat} (h : OwnB w base (.slice (some ⟨g, 0, none⟩) n c) n K) : g < w.heap.size := (World.ownsRow.lt h g rfl).2
set_option maxRecDepth 100000 in
set_option maxHeartbeats 8000000 in
theorem pieceOrder_any (A : Option Addr) (l : List UInt8) (c s8 : Nat) (A2 : Option Addr) (lo : List UInt8) (c2 : Nat) (w : World) (hl : l.length ≤ c) (hc : c ≤ 9223372036854775807) (hb : Bytes w A l) (hs8 : s8 < 256) (hl2 : lo.length ≤ c2) (hc2 : c2 ≤ 9223372036854775807) (hb2 : Bytes w A2 lo) (hsum : lo.length + (splitR (s8 % 40 + 1) (l.take 200)).length ≤ 9223372036854775807) :
    Calls Try.prog 8 #[.slice A l.length c, .int .u8 s8, .slice A2 lo.length c2] w fun e w' => e = .returned (.bool true) ∧ Grow w w' := by
  obtain ⟨m, hm⟩ : ∃ m, m = l.take 200 := ⟨_, rfl⟩
  rw [← hm] at hsum
  have hmm : m.length = min 200 l.length := by rw [hm, List.length_take]
  have hb := hm ▸ hb.take 200
  have hmin : (if 200 < (l.length : Int) then (200 : Int) else (l.length : Int)) = ((m.length : Nat) : Int) := by split <;> omega
  have hmc : m.length ≤ c := by omega
  have hmN : m.length ≤ 200 := by omega
  clear hm hmm hl
  have htm : ((s8 : Int).tmod 40) = ((s8 % 40 : Nat) : Int) := by rw [Int.tmod_eq_emod_of_nonneg (by omega)]; omega
  have hr40 : s8 % 40 < 40 := Nat.mod_lt _ (by omega)
  generalize s8 % 40 = r at *
  go_enter Try.func8, Try.ntmps8
  go_wp2_with (at_builtin; refine wpList_append_fresh byteT rfl (.tmp 16) (.tmp 21) rfl (Own.made' _ (w.heap.size) (w.heap.size) (by simp) (by omega)) (by simp <;> omega) (hb.alloc _) rfl rfl (by omega) ?_)
  intro A1 c1 w1 hown1 hb1
  have hg1 := Grow.trans ((Grow.refl _).alloc _) hb1
  have hby1 := hown1.bytes
  have hc1 := hown1.le
  clear hown1 hb1 hmin hmc hc hb
  have HSp := hide (refsplit_any A1 m c1 (r + 1) w1 (by omega) (by omega) hby1)
  have hfl := hide (splitR_flat (r + 1) (by omega) m)
  have hlen : Hid (∀ z, ((splitR (r + 1) m).getD z []).length ≤ 1000) := hide (fun z => by
    rw [List.getD_eq_getElem?_getD]
    cases h : (splitR (r + 1) m)[z]? with
    | none => simp
    | some y => have := splitR_part (r + 1) (by omega) m y (List.mem_of_getElem? h); simp; omega)
  have hpt := hide (splitR_part (r + 1) (by omega) m)
  have hmo := (splitR_most (r + 1) (by omega) m)
  have hpos : 1 ≤ (splitR (r + 1) m).length := by rw [splitR_len]; omega
  have hle : (splitR (r + 1) m).length ≤ 200 := by
    by_cases h : m = []
    · have := hmo.1; rw [h] at this ⊢; simp at this; omega
    · have := hmo.2 h; omega
  generalize splitR (r + 1) m = S at *
  clear hmo
  rw [show ((r + 1 : Nat) : Int) = (r : Int) + 1 by simp] at HSp
  go_wp2_with fail
  refine HSp.out.mono ?_
  rintro r0 w2 ⟨⟨B, cB, rfl, hS2⟩, hg12⟩
  have hg2 := Grow.trans hg1 hg12
  have hby2 := hby1.grow hg12
  have hlo2 := hb2.grow hg2
  clear HSp hg12 hby1 hg1 hb2 htm
  go_wp2_with fail
  refine (pnew_any 1 w2).mono ?_
  rintro r0 w3 ⟨p, q, rfl, h3, hg23⟩
  obtain ⟨l1, l2, l3⟩ := h3.low
  have hpl := h3.box.lt
  have hql := h3.map.lt
  have h3 := hide h3
  obtain ⟨i0, hi0, hz0, hs0, hb0⟩ := info_parts boolInfo
  have hs23 := hg23.size
  go_wp2_with (at_make; refine Hid.out (?_ : Hid _))
  refine hide ?_
  refine (wpList_make_full _ rfl _ _ 53 rfl w2.heap.size 4 i0 _ 1 Try.underlying53 hi0 hz0 hs0 .i64 .i64 (S.length : Int) (S.length : Int) S.length rfl rfl rfl rfl (by rw [hb0]; omega) (by unfold maxLen; omega) hs23 ?_)
  intro w4 hown4 hgb4
  have hg34 : Grow w3 w4 := ngrown (Grow.refl w3) hgb4 (by simp)
  rw [made_bool] at hown4
  have hB4 : Hid (OwnB w4 w2.heap.size (.slice (some ⟨w3.heap.size, 0, none⟩) S.length S.length) S.length []) := hide hown4
  have h4 : Hid (Pc w4 w2.heap.size p q 1 (if ([] : List Nat) = [] then 0 else 9) (if ([] : List Nat) = [] then 0 else (S.length : Int)) []) := hide (h3.out.grow hg34)
  have hg24 := Grow.trans hg23 hg34
  have hgp : w3.heap.size ≠ p := by omega
  have hgq : w3.heap.size ≠ q := by omega
  have hg3s : w3.heap.size < w4.heap.size := (OwnB.lt hown4)
  clear hown4 hgb4 hi0 hz0 hs0 hb0 h3 hg23 hg34
  obtain ⟨g, hgd⟩ : ∃ g, g = w3.heap.size := ⟨_, rfl⟩
  have hgw2 : w2.heap.size ≤ g := by omega
  rw [← hgd] at hB4 hgp hgq hg3s ⊢
  clear hgd hpl hql hs23
  have hn200 : ¬ ((200 : Int) < (S.length : Int)) := by omega
  have hn1 : ¬ ((S.length : Int) < 1) := by omega
  have hcnt0 : Hid (([] : List Nat).length = (List.range S.length).countP (fun j => ([] : List Nat).contains j)) := hide (by simp)
  go_wp2
  clear hn200 hn1
  go_loopw [10, 11] (fun left i wr => ∃ (k : Nat) (K : List Nat) (X : List PE), k ≤ lo.length + S.length ∧ k ≤ 500 ∧ i = .int .i64 k ∧ left = .int .i64 ((S.length : Int) - (K.length : Int)) ∧
      Hid (Pc wr w2.heap.size p q 1 (if K = [] then 0 else 9) (if K = [] then 0 else (S.length : Int)) X) ∧ Hid (X.map kl = ordL S K) ∧ Hid (OwnB wr w2.heap.size (.slice (some ⟨g, 0, none⟩) S.length S.length) S.length K) ∧ Hid (K.length = (List.range S.length).countP (fun j => K.contains j)) ∧ K.length ≤ S.length ∧ Hid (∀ x, x ∈ X → blk x.A ≠ some g) ∧ g < wr.heap.size ∧ Grow w2 wr) (fun _ i _ => 500 - (intOf i).toNat)
  case atStart => exact ⟨0, [], [], by omega, by omega, rfl, by simp, h4, hide rfl, hB4, hcnt0, by simp, hide (by simp), hg3s, hg24⟩
  case round =>
    clear h4 hB4 hcnt0 hg3s hg24
    obtain ⟨k, K, X, hk, hk5, rfl, rfl, hP, hX, hB, hcnt, hKl, hXg, hgs, hgr⟩ := hrel
    by_cases hlt : k < lo.length + S.length ∧ k < 500
    · obtain ⟨hlt1, hlt2⟩ := hlt
      have hki : (k : Int) < (lo.length : Int) + (S.length : Int) := by omega
      have hk5i : (k : Int) < 500 := by omega
      have ht5 : ((k : Int).tmod 5) = ((k % 5 : Nat) : Int) := by rw [Int.tmod_eq_emod_of_nonneg (by omega)]; omega
      have hgs2 := hgr.size
      by_cases ho : k < lo.length
      · have hoi : (k : Int) < (lo.length : Int) := by omega
        obtain ⟨b2, o2, hA2, hcell0⟩ := hlo2.at_ k ho
        subst hA2
        have hcell := Grow.cell' hgr hcell0
        generalize lo[k] = x at hcell
        clear hcell0
        have hx8 := u8_lt x
        have hn0 : ¬ ((S.length : Int) = 0) := by omega
        have htn : ((x.toNat : Int).tmod (S.length : Int)) = ((x.toNat % S.length : Nat) : Int) := by rw [Int.tmod_eq_emod_of_nonneg (by omega)]; omega
        have hkk : x.toNat % S.length < S.length := Nat.mod_lt _ (by omega)
        generalize x.toNat % S.length = kk at *
        have hkki : (kk : Int) < (S.length : Int) := by omega
        obtain ⟨bS, oS, hBS, hcS⟩ := (hS2.grow hgr) (by rintro rfl; simp at hkk)
        subst hBS
        obtain ⟨Ak, ck, hcellk, hbyk⟩ := hcS kk hkk
        have hAk2 : ∀ a, S[kk] ≠ [] → blk Ak = some a → a < w2.heap.size := by
          intro a hne ha
          obtain ⟨b', o', hB2, hc2'⟩ := hS2 (by rintro rfl; simp at hkk)
          obtain ⟨A', c', hcl, hb'⟩ := hc2' kk hkk
          injection hB2 with hB2
          have e1 : bS = b' := congrArg Addr.block hB2
          have e2 : oS = o' := congrArg Addr.off hB2
          subst e1 e2
          have e3 := (Grow.cell' hgr hcl).symm.trans hcellk
          have e4 : A' = Ak := by injection e3 with e3; injection e3
          subst e4
          exact hb'.inn5 hne a ha
        have hPk : S[kk].length ≤ 64 := by have := hpt.out _ (List.getElem_mem hkk); omega
        have hPd : Hid (S.getD kk [] = S[kk]) := hide (by rw [List.getD_eq_getElem?_getD, List.getElem?_eq_getElem hkk]; rfl)
        generalize S[kk] = P at *
        clear hcS
        go_wp2_with fail
        refine (refchunknew_any (k : Int) ((k % 5 : Nat) : Int) 0 9 1 (kk : Int) (S.length : Int) Ak P.length ck _).mono ?_
        rintro r0 w5 ⟨rfl, hg5⟩
        have hg25 := Grow.trans hgr hg5
        have hs5 := hg5.size
        have HN := hide (pnote_any (chunkP (k : Int) ((k % 5 : Nat) : Int) 0 9 1 (kk : Int) (S.length : Int)) Ak P ck w5 (hP.out.grow hg5) (hbyk.grow hg5) (by omega) (by omega) (fun hne a ha => by have := hAk2 a hne ha; omega))
        rw [hX.out, ord_check S K k kk hlt2 hkk (by omega) P.length hPk] at HN
        have hB5 := hide (hB.out.keep (w' := w5) (hg5.block g hgs))
        have hKn := hide (count_add K kk)
        clear hcellk hbyk hP hB hAk2
        cases hc : K.contains kk with
        | true =>
          rw [hc] at HN
          simp only [if_true] at HN
          have hKne : K ≠ [] := by rintro rfl; simp at hc
          go_wp2_with fail
          refine HN.out.mono ?_
          rintro r0 w6 ⟨rfl, hz, _, hk6⟩
          have h6 := hz (by decide)
          have hB6 := hB5.out.keep (w' := w6) (hk6.block g (by omega) (by simp; omega))
          have hcm := hB6.cell kk hkk
          rw [hc] at hcm
          have h6 : Pc w6 w2.heap.size p q 1 9 ((S.length : Nat) : Int) X := by simpa [hKne] using h6
          have hg26 : Grow w2 w6 := hg25.keptS hk6 (by simp; omega)
          have hs6 := hk6.size
          have HW := hide (pwhole_any (T := S.length) w6 h6 (by omega) (by rw [hX.out]; intro y hy; unfold ordL at hy; obtain ⟨z, _, rfl⟩ := List.mem_map.1 hy; exact hlen.out z))
          rw [hX.out, ord_whole S K hKne hcnt.out, hfl.out] at HW
          have h6r : Hid (Pc w6 w2.heap.size p q 1 (if K = [] then 0 else 9) (if K = [] then 0 else (S.length : Int)) X) := hide (by simpa [hKne] using h6)
          have hB6 := hide hB6
          have hKne := hide hKne
          clear h6 hk6 hz HN hg25 hg5 hB5 hc hKn
          go_wp2_with fail
          refine HW.out.mono ?_
          rintro r0 w8 ⟨⟨A8, c8, rfl, hown8⟩, hg8⟩
          have hg28 := Grow.trans hg26 hg8
          have h8 := hide (h6r.out.grow hg8)
          have hB8 := hide (hB6.out.keep (w' := w8) (hg8.block g (by omega)))
          have hgs8 : g < w8.heap.size := by have := hg8.size; omega
          clear HW h6r hB6 hg26 hg8 hcm
          by_cases hfull : K.length < S.length
          · have hz1 : ((S.length : Int) - (K.length : Int) == 0) = false := by simp; omega
            simp only [hfull, if_true] at hown8 ⊢
            clear hfull hown8
            go_wp2
            go_roundw
            case rel => exact ⟨k + 1, K, X, by omega, by omega, by go_num, rfl, h8, hX, hB8, hcnt, hKl, hXg, hgs8, hg28⟩
            case measure => simp [intOf]; omega
          · have hz1 : ((S.length : Int) - (K.length : Int) == 0) = true := by simp; omega
            simp only [hfull, if_false] at hown8 ⊢
            have V8 : (convert 22 9 (.slice A8 m.length c8)).run Try.prog w8 = .ok (.string ⟨m.toArray⟩) w8 := conv_any c8 hown8.bytes
            have V1 : (convert 22 9 (.slice A1 m.length c1)).run Try.prog w8 = .ok (.string ⟨m.toArray⟩) w8 := conv_any c1 (hby2.grow hg28)
            clear hfull hown8
            go_wp2
            go_roundw
            case rel => exact ⟨k + 1, K, X, by omega, by omega, by go_num, rfl, h8, hX, hB8, hcnt, hKl, hXg, hgs8, hg28⟩
            case measure => simp [intOf]; omega
        | false =>
          rw [hc] at HN
          simp only [Bool.false_eq_true, if_false] at HN
          go_wp2_with fail
          refine HN.out.mono ?_
          rintro r0 w6 ⟨rfl, _, hz, hk6⟩
          obtain ⟨X6, h6, hX6, hX6g⟩ := hz rfl
          have hB6 := hB5.out.keep (w' := w6) (hk6.block g (by omega) (by simp; omega))
          have hcm := hB6.cell kk hkk
          rw [hc] at hcm
          have hfr := World.ownsRow.frozenAt hB6 kk
          have h6 : Pc w6 w2.heap.size p q 1 9 ((S.length : Nat) : Int) X6 := h6
          have hg26 : Grow w2 w6 := hg25.keptS hk6 (by simp; omega)
          have hs6 := hk6.size
          have hX6k : X6.map kl = ordL S (K ++ [kk]) := by
            rw [hX6, hX.out]
            unfold ordL
            rw [List.map_append]
            have hPd2 := hPd.out
            rw [List.getD_eq_getElem?_getD] at hPd2
            by_cases hK0 : K = []
            · subst hK0; simp [hPd2]
            · simp [hK0, hPd2]
          have hXg6 : ∀ y, y ∈ X6 → blk y.A ≠ some g := fun y hy e => by
            rcases hX6g y hy with h | h
            · exact hXg.out y h e
            · have := h g e; omega
          have hcnt6 : Hid ((K ++ [kk]).length = (List.range S.length).countP (fun j => (K ++ [kk]).contains j)) := hide (by rw [hKn.out hc, if_pos hkk, ← hcnt.out]; simp)
          have hKl6 : (K ++ [kk]).length ≤ S.length := by
            rw [hcnt6.out]
            have := List.countP_le_length (p := fun j => (K ++ [kk]).contains j) (l := List.range S.length)
            rw [List.length_range] at this
            exact this
          have hB6 := hide hB6
          have h6 := hide h6
          clear hk6 hz HN hg25 hg5 hB5 hc hKn hX6 hX6g
          go_wp2_with fail
          generalize hW7 : World.setCell w6 _ _ = w7
          have h7 : Pc w7 w2.heap.size p q 1 9 ((S.length : Nat) : Int) X6 := hW7 ▸ h6.out.setCell g kk (.bool true) hgp hgq hXg6
          have hB7 := hide (show OwnB w7 w2.heap.size (.slice (some ⟨g, 0, none⟩) S.length S.length) S.length (K ++ [kk]) from hW7 ▸ hB6.out.set kk hkk)
          have hg27 : Grow w2 w7 := hW7 ▸ Below.setCell hg26 (p := ⟨g, kk, none⟩) hgw2 _
          have hs7 : g < w7.heap.size := by rw [← hW7]; simp [World.setCell]; omega
          have hKs : (K ++ [kk]).length = K.length + 1 := by simp
          have HW := hide (pwhole_any (T := S.length) w7 h7 (by omega) (by rw [hX6k]; intro y hy; unfold ordL at hy; obtain ⟨z, _, rfl⟩ := List.mem_map.1 hy; exact hlen.out z))
          rw [hX6k, ord_whole S (K ++ [kk]) (by simp) hcnt6.out, hfl.out] at HW
          have h7r : Hid (Pc w7 w2.heap.size p q 1 (if K ++ [kk] = [] then 0 else 9) (if K ++ [kk] = [] then 0 else (S.length : Int)) X6) := hide (by simpa using h7)
          have hX6k := hide hX6k
          have hXg6 := hide hXg6
          generalize K ++ [kk] = K7 at *
          clear hW7 h6 hB6 hg26 h7 hcm hfr
          refine HW.out.mono ?_
          rintro r0 w8 ⟨⟨A8, c8, rfl, hown8⟩, hg8⟩
          have hg28 := Grow.trans hg27 hg8
          have h8 := hide (h7r.out.grow hg8)
          have hB8 := hide (hB7.out.keep (w' := w8) (hg8.block g hs7))
          have hgs8 : g < w8.heap.size := by have := hg8.size; omega
          clear HW h7r hB7 hg27 hg8 hs7
          by_cases hfull : K7.length < S.length
          · have hz1 : ((S.length : Int) - (K.length : Int) - 1 == 0) = false := by simp; omega
            simp only [hfull, if_true] at hown8 ⊢
            clear hfull hown8
            have hKs := hide hKs
            go_wp2
            go_roundw
            case rel => exact ⟨k + 1, K7, X6, by omega, by omega, by go_num, by have := hKs.out; go_num, h8, hX6k, hB8, hcnt6, hKl6, hXg6, hgs8, hg28⟩
            case measure => simp [intOf]; omega
          · have hz1 : ((S.length : Int) - (K.length : Int) - 1 == 0) = true := by simp; omega
            simp only [hfull, if_false] at hown8 ⊢
            have V8 : (convert 22 9 (.slice A8 m.length c8)).run Try.prog w8 = .ok (.string ⟨m.toArray⟩) w8 := conv_any c8 hown8.bytes
            have V1 : (convert 22 9 (.slice A1 m.length c1)).run Try.prog w8 = .ok (.string ⟨m.toArray⟩) w8 := conv_any c1 (hby2.grow hg28)
            clear hfull hown8
            have hKs := hide hKs
            go_wp2
            go_roundw
            case rel => exact ⟨k + 1, K7, X6, by omega, by omega, by go_num, by have := hKs.out; go_num, h8, hX6k, hB8, hcnt6, hKl6, hXg6, hgs8, hg28⟩
            case measure => simp [intOf]; omega
      · have hoi : ¬ ((k : Int) < (lo.length : Int)) := by omega
        have hsub : (k : Int) - (lo.length : Int) = ((k - lo.length : Nat) : Int) := by omega
        have hkk : k - lo.length < S.length := by omega
        generalize k - lo.length = kk at *
        have hkki : (kk : Int) < (S.length : Int) := by omega
        obtain ⟨bS, oS, hBS, hcS⟩ := (hS2.grow hgr) (by rintro rfl; simp at hkk)
        subst hBS
        obtain ⟨Ak, ck, hcellk, hbyk⟩ := hcS kk hkk
        have hAk2 : ∀ a, S[kk] ≠ [] → blk Ak = some a → a < w2.heap.size := by
          intro a hne ha
          obtain ⟨b', o', hB2, hc2'⟩ := hS2 (by rintro rfl; simp at hkk)
          obtain ⟨A', c', hcl, hb'⟩ := hc2' kk hkk
          injection hB2 with hB2
          have e1 : bS = b' := congrArg Addr.block hB2
          have e2 : oS = o' := congrArg Addr.off hB2
          subst e1 e2
          have e3 := (Grow.cell' hgr hcl).symm.trans hcellk
          have e4 : A' = Ak := by injection e3 with e3; injection e3
          subst e4
          exact hb'.inn5 hne a ha
        have hPk : S[kk].length ≤ 64 := by have := hpt.out _ (List.getElem_mem hkk); omega
        have hPd : Hid (S.getD kk [] = S[kk]) := hide (by rw [List.getD_eq_getElem?_getD, List.getElem?_eq_getElem hkk]; rfl)
        generalize S[kk] = P at *
        clear hcS
        go_wp2_with fail
        refine (refchunknew_any (k : Int) ((k % 5 : Nat) : Int) 0 9 1 (kk : Int) (S.length : Int) Ak P.length ck _).mono ?_
        rintro r0 w5 ⟨rfl, hg5⟩
        have hg25 := Grow.trans hgr hg5
        have hs5 := hg5.size
        have HN := hide (pnote_any (chunkP (k : Int) ((k % 5 : Nat) : Int) 0 9 1 (kk : Int) (S.length : Int)) Ak P ck w5 (hP.out.grow hg5) (hbyk.grow hg5) (by omega) (by omega) (fun hne a ha => by have := hAk2 a hne ha; omega))
        rw [hX.out, ord_check S K k kk hlt2 hkk (by omega) P.length hPk] at HN
        have hB5 := hide (hB.out.keep (w' := w5) (hg5.block g hgs))
        have hKn := hide (count_add K kk)
        clear hcellk hbyk hP hB hAk2
        cases hc : K.contains kk with
        | true =>
          rw [hc] at HN
          simp only [if_true] at HN
          have hKne : K ≠ [] := by rintro rfl; simp at hc
          go_wp2_with fail
          refine HN.out.mono ?_
          rintro r0 w6 ⟨rfl, hz, _, hk6⟩
          have h6 := hz (by decide)
          have hB6 := hB5.out.keep (w' := w6) (hk6.block g (by omega) (by simp; omega))
          have hcm := hB6.cell kk hkk
          rw [hc] at hcm
          have h6 : Pc w6 w2.heap.size p q 1 9 ((S.length : Nat) : Int) X := by simpa [hKne] using h6
          have hg26 : Grow w2 w6 := hg25.keptS hk6 (by simp; omega)
          have hs6 := hk6.size
          have HW := hide (pwhole_any (T := S.length) w6 h6 (by omega) (by rw [hX.out]; intro y hy; unfold ordL at hy; obtain ⟨z, _, rfl⟩ := List.mem_map.1 hy; exact hlen.out z))
          rw [hX.out, ord_whole S K hKne hcnt.out, hfl.out] at HW
          have h6r : Hid (Pc w6 w2.heap.size p q 1 (if K = [] then 0 else 9) (if K = [] then 0 else (S.length : Int)) X) := hide (by simpa [hKne] using h6)
          have hB6 := hide hB6
          have hKne := hide hKne
          clear h6 hk6 hz HN hg25 hg5 hB5 hc hKn
          go_wp2_with fail
          refine HW.out.mono ?_
          rintro r0 w8 ⟨⟨A8, c8, rfl, hown8⟩, hg8⟩
          have hg28 := Grow.trans hg26 hg8
          have h8 := hide (h6r.out.grow hg8)
          have hB8 := hide (hB6.out.keep (w' := w8) (hg8.block g (by omega)))
          have hgs8 : g < w8.heap.size := by have := hg8.size; omega
          clear HW h6r hB6 hg26 hg8 hcm
          by_cases hfull : K.length < S.length
          · have hz1 : ((S.length : Int) - (K.length : Int) == 0) = false := by simp; omega
            simp only [hfull, if_true] at hown8 ⊢
            clear hfull hown8
            go_wp2
            go_roundw
            case rel => exact ⟨k + 1, K, X, by omega, by omega, by go_num, rfl, h8, hX, hB8, hcnt, hKl, hXg, hgs8, hg28⟩
            case measure => simp [intOf]; omega
          · have hz1 : ((S.length : Int) - (K.length : Int) == 0) = true := by simp; omega
            simp only [hfull, if_false] at hown8 ⊢
            have V8 : (convert 22 9 (.slice A8 m.length c8)).run Try.prog w8 = .ok (.string ⟨m.toArray⟩) w8 := conv_any c8 hown8.bytes
            have V1 : (convert 22 9 (.slice A1 m.length c1)).run Try.prog w8 = .ok (.string ⟨m.toArray⟩) w8 := conv_any c1 (hby2.grow hg28)
            clear hfull hown8
            go_wp2
            go_roundw
            case rel => exact ⟨k + 1, K, X, by omega, by omega, by go_num, rfl, h8, hX, hB8, hcnt, hKl, hXg, hgs8, hg28⟩
            case measure => simp [intOf]; omega
        | false =>
          rw [hc] at HN
          simp only [Bool.false_eq_true, if_false] at HN
          go_wp2_with fail
          refine HN.out.mono ?_
          rintro r0 w6 ⟨rfl, _, hz, hk6⟩
          obtain ⟨X6, h6, hX6, hX6g⟩ := hz rfl
          have hB6 := hB5.out.keep (w' := w6) (hk6.block g (by omega) (by simp; omega))
          have hcm := hB6.cell kk hkk
          rw [hc] at hcm
          have hfr := World.ownsRow.frozenAt hB6 kk
          have h6 : Pc w6 w2.heap.size p q 1 9 ((S.length : Nat) : Int) X6 := h6
          have hg26 : Grow w2 w6 := hg25.keptS hk6 (by simp; omega)
          have hs6 := hk6.size
          have hX6k : X6.map kl = ordL S (K ++ [kk]) := by
            rw [hX6, hX.out]
            unfold ordL
            rw [List.map_append]
            have hPd2 := hPd.out
            rw [List.getD_eq_getElem?_getD] at hPd2
            by_cases hK0 : K = []
            · subst hK0; simp [hPd2]
            · simp [hK0, hPd2]
          have hXg6 : ∀ y, y ∈ X6 → blk y.A ≠ some g := fun y hy e => by
            rcases hX6g y hy with h | h
            · exact hXg.out y h e
            · have := h g e; omega
          have hcnt6 : Hid ((K ++ [kk]).length = (List.range S.length).countP (fun j => (K ++ [kk]).contains j)) := hide (by rw [hKn.out hc, if_pos hkk, ← hcnt.out]; simp)
          have hKl6 : (K ++ [kk]).length ≤ S.length := by
            rw [hcnt6.out]
            have := List.countP_le_length (p := fun j => (K ++ [kk]).contains j) (l := List.range S.length)
            rw [List.length_range] at this
            exact this
          have hB6 := hide hB6
          have h6 := hide h6
          clear hk6 hz HN hg25 hg5 hB5 hc hKn hX6 hX6g
          go_wp2_with fail
          generalize hW7 : World.setCell w6 _ _ = w7
          have h7 : Pc w7 w2.heap.size p q 1 9 ((S.length : Nat) : Int) X6 := hW7 ▸ h6.out.setCell g kk (.bool true) hgp hgq hXg6
          have hB7 := hide (show OwnB w7 w2.heap.size (.slice (some ⟨g, 0, none⟩) S.length S.length) S.length (K ++ [kk]) from hW7 ▸ hB6.out.set kk hkk)
          have hg27 : Grow w2 w7 := hW7 ▸ Below.setCell hg26 (p := ⟨g, kk, none⟩) hgw2 _
          have hs7 : g < w7.heap.size := by rw [← hW7]; simp [World.setCell]; omega
          have hKs : (K ++ [kk]).length = K.length + 1 := by simp
          have HW := hide (pwhole_any (T := S.length) w7 h7 (by omega) (by rw [hX6k]; intro y hy; unfold ordL at hy; obtain ⟨z, _, rfl⟩ := List.mem_map.1 hy; exact hlen.out z))
          rw [hX6k, ord_whole S (K ++ [kk]) (by simp) hcnt6.out, hfl.out] at HW
          have h7r : Hid (Pc w7 w2.heap.size p q 1 (if K ++ [kk] = [] then 0 else 9) (if K ++ [kk] = [] then 0 else (S.length : Int)) X6) := hide (by simpa using h7)
          have hX6k := hide hX6k
          have hXg6 := hide hXg6
          generalize K ++ [kk] = K7 at *
          clear hW7 h6 hB6 hg26 h7 hcm hfr
          refine HW.out.mono ?_
          rintro r0 w8 ⟨⟨A8, c8, rfl, hown8⟩, hg8⟩
          have hg28 := Grow.trans hg27 hg8
          have h8 := hide (h7r.out.grow hg8)
          have hB8 := hide (hB7.out.keep (w' := w8) (hg8.block g hs7))
          have hgs8 : g < w8.heap.size := by have := hg8.size; omega
          clear HW h7r hB7 hg27 hg8 hs7
          by_cases hfull : K7.length < S.length
          · have hz1 : ((S.length : Int) - (K.length : Int) - 1 == 0) = false := by simp; omega
            simp only [hfull, if_true] at hown8 ⊢
            clear hfull hown8
            have hKs := hide hKs
            go_wp2
            go_roundw
            case rel => exact ⟨k + 1, K7, X6, by omega, by omega, by go_num, by have := hKs.out; go_num, h8, hX6k, hB8, hcnt6, hKl6, hXg6, hgs8, hg28⟩
            case measure => simp [intOf]; omega
          · have hz1 : ((S.length : Int) - (K.length : Int) - 1 == 0) = true := by simp; omega
            simp only [hfull, if_false] at hown8 ⊢
            have V8 : (convert 22 9 (.slice A8 m.length c8)).run Try.prog w8 = .ok (.string ⟨m.toArray⟩) w8 := conv_any c8 hown8.bytes
            have V1 : (convert 22 9 (.slice A1 m.length c1)).run Try.prog w8 = .ok (.string ⟨m.toArray⟩) w8 := conv_any c1 (hby2.grow hg28)
            clear hfull hown8
            have hKs := hide hKs
            go_wp2
            go_roundw
            case rel => exact ⟨k + 1, K7, X6, by omega, by omega, by go_num, by have := hKs.out; go_num, h8, hX6k, hB8, hcnt6, hKl6, hXg6, hgs8, hg28⟩
            case measure => simp [intOf]; omega
    · have hk2 : ¬ ((k : Int) < (lo.length : Int) + (S.length : Int)) ∨ ¬ ((k : Int) < 500) := by omega
      have hg := Grow.trans hg2 hgr
      clear hlt
      rcases hk2 with h | h
      · go_wp2_with fail
        refine (works42_any _).mono ?_
        rintro r0 w9 ⟨rfl, hg9⟩
        have hg9 := Grow.trans hg hg9
        go_wp2
        go_ret
        exact ⟨rfl, hg9⟩
      · by_cases h2 : (k : Int) < (lo.length : Int) + (S.length : Int)
        · go_wp2_with fail
          refine (works42_any _).mono ?_
          rintro r0 w9 ⟨rfl, hg9⟩
          have hg9 := Grow.trans hg hg9
          go_wp2
          go_ret
          exact ⟨rfl, hg9⟩
        · go_wp2_with fail
          refine (works42_any _).mono ?_
          rintro r0 w9 ⟨rfl, hg9⟩
          have hg9 := Grow.trans hg hg9
          go_wp2
          go_ret
          exact ⟨rfl, hg9⟩
end Go.Proofs.Ytbccbfmgjeknhaa
