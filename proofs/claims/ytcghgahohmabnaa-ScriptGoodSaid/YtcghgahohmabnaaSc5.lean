/- Acts (chapter 46): a list of them in memory; their bytes; the walk of script.Encode. -/
import Derived.Test.YtcghgahohmabnaaSc2
import Derived.Test.YtcghgahohmabnaaSc4
import Derived.Deep.Slices
namespace Go.Proofs.Ytcghgahohmabnaa
open Go.ChangeShapes Go.WideShapes Go.ChangeAt Go.RowKit
/-- the address A leads to the elements of L, of K cells each -/
def RowsAt {Y : Type} (cellsY : Y → List Value) (okY : World → Y → Prop) (K : Nat) (w : World) (A : Option Addr) (L : List Y) : Prop :=
  L ≠ [] → ∃ b o, A = some ⟨b, o, none⟩ ∧ ∀ k (h : k < L.length), (∀ i, i < K → w.cell? ⟨b, o + k * K + i, none⟩ = (cellsY L[k])[i]?) ∧ okY w L[k]
theorem open_rows {Y H : Type} {P : Program} {cellsY : Y → List Value} {okY : World → Y → Prop} {K : Nat} {t e : TypeId} (ht : P.underlying t = some (.slice e)) (hK : P.cellsOf e = K) (hK0 : 0 < K) (hlen : ∀ y, (cellsY y).length = K)
    {enc : TypeId × Value → H} {W : World} {base : Nat} {spare : Nat → Bool} {held : Bool}
    (hread : ∀ (n : Nat) (cs : List Value) (x : DataW H × List MemPlace), DataW.trod enc P W base spare held n e cs = some x → ∃ y, cs = cellsY y ∧ okY W y)
    {A : Option Addr} {len cap : Nat} {d : DataW H} {p : List MemPlace} (h : DataW.Trod enc P W base spare held t (.slice A len cap) d p) :
    ∃ L : List Y, len = L.length ∧ L.length ≤ cap ∧ cap ≤ 9223372036854775807 ∧ RowsAt cellsY okY K W A L := by
  obtain ⟨fuel, hf⟩ := h
  rcases Go.Deep.open_slice ht hf with ⟨hcs, _⟩ | ⟨a, len', cap', m, n, D, Pl, hcs, _, hl, hm, hmm, hx, hz⟩
  · simp [Value.cells] at hcs
    obtain ⟨rfl, rfl, rfl⟩ := hcs
    exact ⟨[], rfl, Nat.le_refl _, by omega, fun h => absurd rfl h⟩
  · simp [Value.cells] at hcs
    obtain ⟨rfl, rfl, rfl⟩ := hcs
    have hle : len ≤ m := by rw [hmm]; split <;> omega
    have hall : ∀ i, i < len → ∃ y, (∃ cs', W.cells? base (a.add (i * K)) K = some cs' ∧ cs' = cellsY y) ∧ okY W y := by
      intro i hi
      obtain ⟨cs', h1, h2⟩ := hz i (by omega)
      rw [hK] at h1
      obtain ⟨y, hy, ho⟩ := hread _ _ _ h2
      exact ⟨y, ⟨cs', h1, hy⟩, ho⟩
    have hL : ∃ L : List Y, L.length = len ∧ ∀ i (h : i < L.length), (∃ cs', W.cells? base (a.add (i * K)) K = some cs' ∧ cs' = cellsY L[i]) ∧ okY W L[i] := by
      clear hle hz hmm hf hl hx
      induction len with
      | zero => exact ⟨[], rfl, fun i h => by simp at h⟩
      | succ q ih =>
        obtain ⟨L, h1, h2⟩ := ih (fun i hi => hall i (by omega))
        obtain ⟨y, hy, ho⟩ := hall q (by omega)
        refine ⟨L ++ [y], by simp [h1], fun i hi => ?_⟩
        by_cases hlt : i < L.length
        · rw [List.getElem_append_left hlt]; exact h2 i hlt
        · have : i = L.length := by simp at hi; omega
          subst this
          rw [List.getElem_append_right (Nat.le_refl _)]
          simp only [Nat.sub_self, List.getElem_singleton]
          rw [h1]
          exact ⟨hy, ho⟩
    obtain ⟨L, h1, h2⟩ := hL
    subst h1
    refine ⟨L, rfl, hl, hm, fun hne => ?_⟩
    obtain ⟨b, o, spot⟩ := a
    have h0 : 0 < L.length := by
      rcases Nat.eq_zero_or_pos L.length with h | h
      · rw [List.length_eq_zero_iff] at h; exact absurd h hne
      · exact h
    obtain ⟨⟨cs', hc, he⟩, _⟩ := h2 0 h0
    have hc0 : ∃ v, W.cell? (⟨b, o, spot⟩ : Addr) = some v := by
      obtain ⟨_, hl', hcell⟩ := World.cells?_some hc
      have := hcell 0 hK0
      have e0 : ((⟨b, o, spot⟩ : Addr).add (0 * K)).add 0 = ⟨b, o, spot⟩ := by cases spot <;> simp [Addr.add]
      rw [e0] at this
      rw [this]
      subst he
      exact ⟨_, List.getElem?_eq_getElem (by rw [hlen]; exact hK0)⟩
    obtain ⟨v, hv⟩ := hc0
    have hspot : spot = none := by simpa using World.cell?_spot hv
    subst hspot
    refine ⟨b, o, rfl, fun k hk => ?_⟩
    obtain ⟨⟨cs', hc, he⟩, ho⟩ := h2 k hk
    refine ⟨fun i hi => ?_, ho⟩
    obtain ⟨_, hl', hcell⟩ := World.cells?_some hc
    have := hcell i hi
    have e1 : ((⟨b, o, none⟩ : Addr).add (k * K)).add i = ⟨b, o + k * K + i, none⟩ := by
      have e (x y : Nat) : (⟨b, x, none⟩ : Addr).add y = ⟨b, x + y, none⟩ := by unfold Addr.add; split <;> simp_all
      rw [e, e]
    rw [e1] at this
    rw [this, he]
theorem RowsAt.kept {Y : Type} {cellsY : Y → List Value} {okY : World → Y → Prop} {K : Nat} {w w' : World} {A : Option Addr} {L : List Y} {S : List Nat} (h : RowsAt cellsY okY K w A L) (hK : 0 < K) (hlen : ∀ y, (cellsY y).length = K) (hk : Kept w.heap.size S w w')
    (hS : L ≠ [] → ∀ q, blk A = some q → q ∉ S) (hok : ∀ y, y ∈ L → okY w y → okY w' y) : RowsAt cellsY okY K w' A L := by
  intro hne
  obtain ⟨b, o, rfl, hc⟩ := h hne
  have hS := hS hne b rfl
  have h0 : 0 < L.length := List.length_pos_iff.2 hne
  have hlt : b < w.heap.size := by
    have h1 := (hc 0 h0).1 0 hK
    rw [List.getElem?_eq_getElem (by rw [hlen]; exact hK)] at h1
    exact World.block_lt_of_cell? w _ h1
  have hb := hk.block b hlt hS
  refine ⟨b, o, rfl, fun k hkl => ⟨fun i hi => ?_, hok _ (List.getElem_mem hkl) (hc k hkl).2⟩⟩
  rw [← (hc k hkl).1 i hi]
  exact World.cell?_of_block (w := w) hb
theorem RowsAt.in_ {Y : Type} {cellsY : Y → List Value} {okY : World → Y → Prop} {K : Nat} {w : World} {A : Option Addr} {L : List Y} (h : RowsAt cellsY okY K w A L) (hK : 0 < K) (hlen : ∀ y, (cellsY y).length = K) (hne : L ≠ []) (q : Nat) (hq : blk A = some q) : q < w.heap.size := by
  obtain ⟨b, o, rfl, hc⟩ := h hne
  have e : b = q := by simpa [blk] using hq
  subst e
  have h1 := (hc 0 (List.length_pos_iff.2 hne)).1 0 hK
  rw [List.getElem?_eq_getElem (by rw [hlen]; exact hK)] at h1
  exact World.block_lt_of_cell? w _ h1
theorem Bytes.inn {w : World} {A : Option Addr} {l : List UInt8} (h : Bytes w A l) (hne : l ≠ []) (g : Nat) (hg : blk A = some g) : g < w.heap.size := by
  obtain ⟨b, o, rfl, hc⟩ := h hne
  have h0 : 0 < l.length := List.length_pos_iff.2 hne
  have hb := World.block_lt_of_cell? w _ (hc 0 h0)
  have e : b = g := by simpa [blk] using hg
  subst e
  exact hb
/-- an act with its body -/
structure AB where
  p : ActP
  A : Option Addr
  l : List UInt8
  c : Nat
structure AB.Ok (w : World) (x : AB) : Prop where
  n1 : -9223372036854775808 ≤ x.p.n
  n2 : x.p.n < 9223372036854775808
  bytes : Bytes w x.A x.l
  len : x.l.length ≤ 1000000
  cap : x.l.length ≤ x.c
abbrev abc (x : AB) : Array Value := acells x.p x.A x.l.length x.c
abbrev Acts (w : World) (A : Option Addr) (L : List AB) : Prop := RowsAt (fun x => (abc x).toList) AB.Ok 9 w A L
theorem Acts.grow {w w' : World} {A : Option Addr} {L : List AB} (h : Acts w A L) (hg : Grow w w') : Acts w' A L :=
  RowsAt.kept h (by omega) (fun _ => rfl) (Kept.of_below hg []) (by simp) (fun x _ ok => ⟨ok.n1, ok.n2, ok.bytes.grow hg, ok.len, ok.cap⟩)
theorem Acts.at_ {w : World} {A : Option Addr} {L : List AB} (h : Acts w A L) (k : Nat) (hk : k < L.length) : ∃ b o, A = some ⟨b, o, none⟩ ∧ (∀ i, i < 9 → w.cell? ⟨b, o + k * 9 + i, none⟩ = (abc L[k])[i]?) ∧ L[k].Ok w := by
  obtain ⟨b, o, rfl, hc⟩ := h (by rintro rfl; simp at hk)
  exact ⟨b, o, rfl, fun i hi => by rw [(hc k hk).1 i hi]; simp, (hc k hk).2⟩
/-- a good act's bytes -/
def actBytes (p : ActP) (l : List UInt8) : List UInt8 :=
  if p.kind = 1 then [u8of p.kind] ++ [u8of p.n]
  else if p.kind = 3 then [u8of p.kind] ++ fateBytes p.f
  else if p.kind = 2 then ([u8of p.kind] ++ [u8of p.node]) ++ Buf.sevens (Buf.zig p.n)
  else if p.kind = 6 then ([u8of p.kind] ++ [u8of p.node]) ++ (Buf.sevens l.length ++ l)
  else [u8of p.kind] ++ [u8of p.node]
theorem wput_okk (most : Int) (b l : List UInt8) (h : (b.length : Int) + l.length ≤ most) : Buf.wput most (0, b) l = (0, b ++ l) := by
  unfold Buf.wput
  rw [if_neg (by simp), if_neg (by show ¬ most - (b.length : Int) < (l.length : Int); omega)]
theorem wfixed_okk (most : Int) (b : List UInt8) (x : Nat) (h : (b.length : Int) + 4 ≤ most) : Buf.wfixed most (0, b) x 4 = (0, b ++ Buf.fixed x 4) := by
  unfold Buf.wfixed
  rw [if_neg (by omega)]
  exact wput_okk most b _ (by rw [Buf.fixed_length]; exact h)
theorem fateS_okk (most : Int) (b : List UInt8) (f : Fate) (h : (b.length : Int) + 20 ≤ most) : fateS most (0, b) f = (0, b ++ fateBytes f) := by
  unfold fateS fateBytes
  split
  · exact wput_okk most b _ (by simp only [List.length_cons, List.length_nil]; omega)
  split
  · rw [wput_okk most b _ (by simp only [List.length_cons, List.length_nil]; omega), wput_okk most _ _ (by simp only [List.length_append, List.length_cons, List.length_nil]; omega)]
    simp only [List.append_assoc]
  split
  · rw [wput_okk most b _ (by simp only [List.length_cons, List.length_nil]; omega), wput_okk most _ _ (by simp only [List.length_append, List.length_cons, List.length_nil]; omega)]
    simp only [List.append_assoc, List.cons_append, List.nil_append]
  split
  · rw [wput_okk most b _ (by simp only [List.length_cons, List.length_nil]; omega), wput_okk most _ _ (by simp only [List.length_append, List.length_cons, List.length_nil]; omega), wfixed_okk most _ _ (by simp only [List.length_append, List.length_cons, List.length_nil]; omega), wfixed_okk most _ _ (by simp only [List.length_append, List.length_cons, List.length_nil, Buf.fixed_length]; omega)]
    simp only [List.append_assoc]
  · exact wput_okk most b _ (by simp only [List.length_cons, List.length_nil]; omega)
theorem fateBytes_len10 (f : Fate) : (fateBytes f).length ≤ 10 := by
  unfold fateBytes
  split
  · simp
  split
  · simp
  split
  · simp
  split
  · simp [Buf.fixed_length]
  · simp
theorem actBytes_len (p : ActP) (l : List UInt8) (h : actB p l = true) : (actBytes p l).length ≤ 1040 := by
  unfold actBytes
  split
  · simp
  split
  · have := fateBytes_len10 p.f; simp only [List.length_append, List.length_cons, List.length_nil]; omega
  split
  · have := Buf.sevens_len (Buf.zig p.n); simp only [List.length_append, List.length_cons, List.length_nil]; omega
  split
  · rename_i h1 h3 h2 h6
    have hl : l.length ≤ 1024 := by
      unfold actB at h
      rw [if_neg h1, if_neg h3, if_neg h2, if_pos h6] at h
      simp only [Bool.and_eq_true, decide_eq_true_eq] at h
      exact h.1.2
    have := Buf.sevens_len l.length
    simp only [List.length_append, List.length_cons, List.length_nil]; omega
  · simp
theorem actS_okk (most : Int) (b : List UInt8) (p : ActP) (l : List UInt8) (hg : actB p l = true) (h : (b.length : Int) + 1100 ≤ most) : actS most (0, b) p l = (0, b ++ actBytes p l) := by
  have hs1 := Buf.sevens_len (Buf.zig p.n)
  have hs2 := Buf.sevens_len l.length
  have hL := actBytes_len p l hg
  unfold actS
  unfold actBytes at hL ⊢
  split
  · rw [wput_okk most b _ (by simp only [List.length_cons, List.length_nil]; omega), wput_okk most _ _ (by simp only [List.length_append, List.length_cons, List.length_nil]; omega)]
    simp only [List.append_assoc]
  split
  · rw [wput_okk most b _ (by simp only [List.length_cons, List.length_nil]; omega), fateS_okk most _ _ (by simp only [List.length_append, List.length_cons, List.length_nil]; omega)]
    simp only [List.append_assoc]
  split
  · rw [wput_okk most b _ (by simp only [List.length_cons, List.length_nil]; omega), wput_okk most _ _ (by simp only [List.length_append, List.length_cons, List.length_nil]; omega), wput_okk most _ _ (by simp only [List.length_append, List.length_cons, List.length_nil]; omega)]
    simp only [List.append_assoc]
  split
  · rename_i h1 h3 h2 h6
    rw [if_neg h1, if_neg h3, if_neg h2, if_pos h6] at hL
    simp only [List.length_append, List.length_cons, List.length_nil] at hL
    rw [wput_okk most b _ (by simp only [List.length_cons, List.length_nil]; omega), wput_okk most _ _ (by simp only [List.length_append, List.length_cons, List.length_nil]; omega), wput_okk most _ _ (by simp only [List.length_append, List.length_cons, List.length_nil]; omega)]
    simp only [List.append_assoc]
  · rw [wput_okk most b _ (by simp only [List.length_cons, List.length_nil]; omega), wput_okk most _ _ (by simp only [List.length_append, List.length_cons, List.length_nil]; omega)]
    simp only [List.append_assoc]
def goodsB (L : List AB) : Bool := L.all fun x => actB x.p x.l
def encBytes (L : List AB) : List UInt8 := L.flatMap fun x => actBytes x.p x.l
/-- acts as bytes, or what is wrong -/
def encR (L : List AB) : List UInt8 × Int := if 4096 < L.length then ([], 4) else if goodsB L then (Buf.sevens L.length ++ encBytes L, 0) else ([], 1)
theorem encBytes_len (L : List AB) (h : ∀ x, x ∈ L → actB x.p x.l = true) : (encBytes L).length ≤ 1040 * L.length := by
  unfold encBytes
  induction L with
  | nil => simp
  | cons x L ih =>
    have h1 := actBytes_len x.p x.l (h x (by simp))
    have h2 := ih (fun y hy => h y (by simp [hy]))
    rw [List.flatMap_cons, List.length_append, List.length_cons]
    omega
set_option maxHeartbeats 1000000 in
theorem done_bad2 (B p : Nat) (A : Option Addr) (c : Nat) (e : Int) (b : List UInt8) (most : Int) (w : World) (h : Wr w B p A c e b most) (he : (e == 0) = false) :
    Calls Try.prog 63 #[.pointer (some ⟨p, 0, none⟩)] w fun r w' => r = .returned (.tuple #[.slice none 0 0, .int .i64 e]) ∧ Grow w w' := by
  have hc0 := h.c0
  have hcw := fun (W : World) (g : Grow w.drew W) => (h.drew.grow g).c0
  go_enter Try.func63, Try.ntmps63
  go_wp2_with fail
  refine (fine_any p e _ hc0).mono ?_
  rintro r w' ⟨rfl, rfl⟩
  go_wp2_with fail
  refine wpG_region (by kernel_rfl) ?_
  refine wpG_take 0 rfl (by kernel_rfl) (fun _ _ _ h => h) rfl (v := ?_) ?_ ?_
  rotate_left
  · (intro w' hG; go_simp; try with_reducible rfl)
  try simp only [Act.put, List.setIfInBounds_toArray, List.set_cons_zero, List.set_cons_succ]
  refine wpG_take 1 rfl (by kernel_rfl) (fun _ _ _ h => h) rfl (v := ?_) ?_ ?_
  rotate_left
  · (intro w' hG; go_simp; try with_reducible rfl)
  try simp only [Act.put, List.setIfInBounds_toArray, List.set_cons_zero, List.set_cons_succ]
  refine wpG_take 2 rfl (by kernel_rfl) (fun _ _ _ h => h) rfl (v := ?_) ?_ ?_
  rotate_left
  · (intro w' hG; go_simp; try with_reducible rfl)
  try simp only [Act.put, List.setIfInBounds_toArray, List.set_cons_zero, List.set_cons_succ]
  refine wpG_take 3 rfl (by kernel_rfl) (fun _ _ _ h => h) rfl (v := ?_) ?_ ?_
  rotate_left
  · (intro w' hG; go_simp; try with_reducible rfl)
  try simp only [Act.put, List.setIfInBounds_toArray, List.set_cons_zero, List.set_cons_succ]
  refine wpG_take 4 rfl (by kernel_rfl) (fun _ _ _ h => h) rfl (v := ?_) ?_ ?_
  rotate_left
  · (intro w' hG; go_simp; try with_reducible rfl)
  try simp only [Act.put, List.setIfInBounds_toArray, List.set_cons_zero, List.set_cons_succ]
  refine wpG_take 5 rfl (by kernel_rfl) (fun _ _ _ h => h) rfl (v := ?_) ?_ ?_
  rotate_left
  · (intro w' hG; go_simp; try with_reducible rfl)
  try simp only [Act.put, List.setIfInBounds_toArray, List.set_cons_zero, List.set_cons_succ]
  refine wpG_take 6 rfl (by kernel_rfl) (fun _ _ _ h => h) rfl (v := ?_) ?_ ?_
  rotate_left
  · (intro w' hG; go_simp; try with_reducible rfl)
  try simp only [Act.put, List.setIfInBounds_toArray, List.set_cons_zero, List.set_cons_succ]
  refine wpG_done (by kernel_rfl) ?_ _
  go_wp2
  refine bodyPost_ret (results_tmp2 rfl _ _ _) rfl ?_
  exact ⟨rfl, (Grow.refl w).drew⟩
set_option maxRecDepth 100000 in
set_option maxHeartbeats 4000000 in
theorem encode_any (A : Option Addr) (L : List AB) (c : Nat) (w : World) (hi : Acts w A L) (hL : L.length ≤ 1000000000) :
    Calls Try.prog 75 #[.slice A L.length c] w fun r w' => (∃ A' c', r = .returned (.tuple #[.slice A' (encR L).1.length c', .int .i64 (encR L).2]) ∧ (encR L).1.length ≤ c' ∧ c' ≤ 9223372036854775807 ∧ Bytes w' A' (encR L).1 ∧ ∀ q, blk A' = some q → w.heap.size ≤ q ∧ q < w'.heap.size) ∧ Grow w w' := by
  by_cases hbig : 4096 < L.length
  · have HR := hide (show encR L = ([], 4) from if_pos hbig)
    have hbi : (4096 : Int) < (L.length : Int) := by omega
    go_enter Try.func75, Try.ntmps75
    go_wp2
    go_ret2
    exact ⟨⟨none, 0, by rw [HR.out]; rfl, by rw [HR.out]; simp, by decide, by rw [HR.out]; exact Bytes.nil _ _, by simp [blk]⟩, Grow.refl w⟩
  have HR := hide (show encR L = if goodsB L then (Buf.sevens L.length ++ encBytes L, 0) else ([], 1) from if_neg hbig)
  have hls := Buf.sevens_len L.length
  have hsb := Buf.sevens_len L.length
  go_enter Try.func75, Try.ntmps75
  go_wp2_with fail
  refine (new_any 8388608 w (by decide)).mono ?_
  rintro r w1 ⟨rfl, hwr, hg1⟩
  rw [show max (8388608 : Int) 0 = 8388608 by decide] at hwr
  have hlt1 := hwr.lt
  have hg1' : Grow w w1 := hg1
  obtain ⟨p, hp⟩ : ∃ p, Hid (p = w.heap.size) := ⟨_, hide rfl⟩
  rw [← hp.out] at hwr hlt1
  go_wp2_with fail
  rw [← hp.out]
  refine (num_any p p none 0 0 [] 8388608 L.length _ hwr (hide (by omega)) (by simp) (by omega)).mono ?_
  rintro r w2 ⟨rfl, Aw, cw, hwr2, hk2, hor2⟩
  have hgr2 : Grow w w2 := Below.trans hg1' (Kept.to_below (hk2.mono hg1'.size (fun q hlt hm => by
    have h1 := hp.out
    rcases List.mem_cons.1 hm with h | h
    · omega
    · simp [blk] at h)))
  rw [wput_okk 8388608 [] _ (by simp; omega), List.nil_append] at hwr2
  dsimp only at hwr2
  have hwr2 := hide hwr2
  have hp2 : p < w2.heap.size := by have := hk2.size; omega
  clear hwr hlt1 hg1 hk2 hor2
  generalize Buf.sevens L.length = s0 at *
  go_wp2
  go_loopw [18] (fun i wr => ∃ (k : Nat) (Aw : Option Addr) (cw : Nat) (b : List UInt8), k ≤ L.length ∧ i = .int .i64 k ∧ Hid (Wr wr p p Aw cw 0 b 8388608) ∧ Hid (b = s0 ++ encBytes (L.take k)) ∧ Hid (∀ x, x ∈ L.take k → actB x.p x.l = true) ∧ p < wr.heap.size ∧ Grow w wr) (fun i _ => L.length - (intOf i).toNat)
  case atStart => exact ⟨0, Aw, cw, s0, by omega, rfl, hwr2, hide (by simp [encBytes]), hide (by simp), hp2, hgr2⟩
  case round =>
    obtain ⟨k, Aw, cw, b, hk, rfl, hW, hb, hall, hpw, hgr⟩ := hrel
    clear hwr2 hgr2 hp2
    have hbl : b.length ≤ 4270000 := by
      have h1 := encBytes_len (L.take k) hall.out
      rw [hb.out, List.length_append]
      rw [List.length_take] at h1
      omega
    by_cases hlt : k < L.length
    · obtain ⟨x, hx⟩ : ∃ x, Hid (x = L[k]) := ⟨_, hide rfl⟩
      obtain ⟨b3, o, rfl, hcs, hok⟩ := (hi.grow hgr).at_ k hlt
      rw [← hx.out] at hcs hok
      have d0 := hcs 0 (by omega)
      have d1 := hcs 1 (by omega)
      have d2 := hcs 2 (by omega)
      have d3 := hcs 3 (by omega)
      have d4 := hcs 4 (by omega)
      have d5 := hcs 5 (by omega)
      have d6 := hcs 6 (by omega)
      have d7 := hcs 7 (by omega)
      have d8 := hcs 8 (by omega)
      simp at d0 d1 d2 d3 d4 d5 d6 d7 d8
      clear hcs
      have hgs := hgr.size
      have hti : x.l ≠ [] → ∀ q, blk x.A = some q → q < w.heap.size := fun hne q hq => by
        obtain ⟨_, _, _, _, hok0⟩ := hi.at_ k hlt
        rw [← hx.out] at hok0
        exact hok0.bytes.inn hne q hq
      have hg3 := (Grow.refl wr).alloc (.cells (abc x) 108)
      have HG := hide (agood_any x.p x.A x.l x.c _ (hok.bytes.grow hg3) (by have := hok.len; omega))
      have hok := hide hok
      generalize hgb : actB x.p x.l = g at HG
      have hgb := hide hgb
      go_wp2_with fail
      refine HG.out.mono ?_
      rintro r w4 ⟨rfl, hb4⟩
      obtain ⟨q0, hg4⟩ := peel1 hb4
      have hgr4 := Grow.trans hgr hg4
      clear d0 d1 d2 d3 d4 d5 d6 d7 d8 hb4 hg3 HG
      cases g with
      | false =>
        have HN := hide (HR.out.trans (if_neg (by
          intro h
          have h1 := List.all_eq_true.1 h x (by rw [hx.out]; exact List.getElem_mem hlt)
          rw [hgb.out] at h1
          cases h1)))
        go_wp2
        go_ret2
        exact ⟨⟨none, 0, by rw [HN.out]; rfl, by rw [HN.out]; simp, by decide, by rw [HN.out]; exact Bytes.nil _ _, by simp [blk]⟩, hgr4⟩
      | true =>
        obtain ⟨cq0, fq0, lq0⟩ := q0.rules
        have hwr4 := hW.out.grow hg4
        have hb4 := hok.out.bytes.grow hg4
        have hs4 := hgr4.size
        have hdd : x.l ≠ [] → ∀ g, blk x.A = some g → g ≠ p ∧ blk Aw ≠ some g ∧ g < w4.heap.size := fun hne g hg => by
          have h1 := hti hne g hg
          have h2 := hp.out
          refine ⟨by omega, fun hm => ?_, by omega⟩
          have := hwr4.own.base hm
          omega
        have hp4 : p ≤ w4.heap.size := by have := hp.out; omega
        have HP := hide (aput_any p p Aw cw 0 b 8388608 x.p x.A x.l x.c w4 hwr4 hb4 (by omega) hok.out.len hp4 hdd hok.out.n1 hok.out.n2)
        rw [actS_okk 8388608 b x.p x.l hgb.out (by omega)] at HP
        go_wp2_with fail
        refine HP.out.mono ?_
        rintro r w5 ⟨rfl, Aw5, cw5, hwr5, hk5, hor5⟩
        dsimp only at hwr5
        have hfoot : ∀ q, q ∈ foot p Aw → p ≤ q := fun q hq => by
          rcases List.mem_cons.1 hq with h | h
          · omega
          · exact hwr4.own.base (by simpa using h)
        have hgr5 : Grow w w5 := Below.trans hgr4 (Kept.to_below (hk5.mono hgr4.size (fun q hlt hm => by have := hfoot q hm; have := hp.out; omega)))
        have hwr5 := hide hwr5
        have hb5 : Hid (b ++ actBytes x.p x.l = s0 ++ encBytes (L.take (k + 1))) := hide (by
          rw [List.take_succ_eq_append_getElem hlt, ← hx.out, hb.out]
          simp [encBytes])
        have hall5 : Hid (∀ y, y ∈ L.take (k + 1) → actB y.p y.l = true) := hide (by
          intro y hy
          rw [List.take_succ_eq_append_getElem hlt] at hy
          rcases List.mem_append.1 hy with h | h
          · exact hall.out y h
          · rw [List.mem_singleton.1 h, ← hx.out]; exact hgb.out)
        have hp5 : p < w5.heap.size := by have := hgr5.size; have := hk5.size; have := hg4.size; omega
        clear hk5 hor5 hfoot hwr4 hb4 hdd HP cq0 fq0 lq0 q0
        go_wp2
        go_roundw
        case rel => exact ⟨k + 1, Aw5, cw5, b ++ actBytes x.p x.l, by omega, by go_num, hwr5, hb5, hall5, hp5, hgr5⟩
        case measure => simp [intOf]; omega
    · obtain rfl : k = L.length := by omega
      have HY := hide (HR.out.trans (if_pos (List.all_eq_true.2 (fun y hy => hall.out y (by rw [List.take_length]; exact hy)))))
      have hbb : Hid (b = s0 ++ encBytes L) := hide (by have h := hb.out; rw [List.take_length] at h; exact h)
      have hgs := hgr.size
      clear hlt
      go_wp2_with fail
      refine (done_ok _ _ _ _ _ _ _ hW.out (by omega)).mono ?_
      rintro r w8 ⟨A8, c8, rfl, hown8, hb8⟩
      go_wp2
      go_ret2
      refine ⟨⟨A8, c8, by rw [HY.out, ← hbb.out]; rfl, by rw [HY.out, ← hbb.out]; exact hown8.le.1, hown8.le.2, by rw [HY.out, ← hbb.out]; exact hown8.bytes, fun q hq => ⟨by have := hown8.base hq; omega, hown8.lt hq⟩⟩, Grow.trans hgr hb8⟩
end Go.Proofs.Ytcghgahohmabnaa
