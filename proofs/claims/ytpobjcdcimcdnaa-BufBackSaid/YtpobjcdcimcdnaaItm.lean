/- Items that are written or read (chapter 05's law): what came in as a list of them; an item as bytes; an item written. -/
import Derived.Test.YtpobjcdcimcdnaaR05
import Derived.Test.YtpobjcdcimcdnaaRdr
import Derived.Test.YtpobjcdcimcdnaaFrm
import Derived.Deep.Slices
namespace Go.Proofs.Ytpobjcdcimcdnaa
open Go.ChangeShapes Go.WideShapes Go.ChangeAt Go.RowKit
/-- the address A leads to the elements of L, of K cells each -/
def RowsAt {Y : Type} (cellsY : Y → List Value) (okY : World → Y → Prop) (K : Nat) (w : World) (A : Option Addr) (L : List Y) : Prop :=
  L ≠ [] → ∃ b o, A = some ⟨b, o, none⟩ ∧ ∀ k (h : k < L.length), (∀ i, i < K → w.cell? ⟨b, o + k * K + i, none⟩ = (cellsY L[k])[i]?) ∧ okY w L[k]
theorem open_rows {Y H : Type} {P : Program} {cellsY : Y → List Value} {okY : World → Y → Prop} {K : Nat} {t e : TypeId} (ht : P.underlying t = some (.slice e)) (hK : P.cellsOf e = K) (hK0 : 0 < K) (hlen : ∀ y, (cellsY y).length = K)
    {enc : TypeId × Value → H} {W : World} {base : Nat} {spare : Nat → Bool} {held : Bool}
    (hread : ∀ (n : Nat) (cs : List Value) (x : DataW H × List MemPlace), DataW.trod enc P W base spare held n e cs = some x → ∃ y, cs = cellsY y ∧ okY W y)
    {A : Option Addr} {len cap : Nat} {d : DataW H} {p : List MemPlace} (h : DataW.Trod enc P W base spare held t (.slice A len cap) d p) :
    ∃ L : List Y, len = L.length ∧ L.length ≤ cap ∧ cap ≤ 9223372036854775807 ∧ RowsAt cellsY okY K W A L := by
  obtain ⟨fuel, hf⟩ := h
  rcases Go.Deep.open_slice ht hf with ⟨hcs, _⟩ | ⟨a, len', cap', m, n, D, Pl, hcs, _, hl, hm, hmm, hx, hz⟩
  · simp [Value.cells] at hcs
    obtain ⟨rfl, rfl, rfl⟩ := hcs
    exact ⟨[], rfl, Nat.le_refl _, by omega, fun h => absurd rfl h⟩
  · simp [Value.cells] at hcs
    obtain ⟨rfl, rfl, rfl⟩ := hcs
    have hle : len ≤ m := by rw [hmm]; split <;> omega
    have hall : ∀ i, i < len → ∃ y, (∃ cs', W.cells? base (a.add (i * K)) K = some cs' ∧ cs' = cellsY y) ∧ okY W y := by
      intro i hi
      obtain ⟨cs', h1, h2⟩ := hz i (by omega)
      rw [hK] at h1
      obtain ⟨y, hy, ho⟩ := hread _ _ _ h2
      exact ⟨y, ⟨cs', h1, hy⟩, ho⟩
    have hL : ∃ L : List Y, L.length = len ∧ ∀ i (h : i < L.length), (∃ cs', W.cells? base (a.add (i * K)) K = some cs' ∧ cs' = cellsY L[i]) ∧ okY W L[i] := by
      clear hle hz hmm hf hl hx
      induction len with
      | zero => exact ⟨[], rfl, fun i h => by simp at h⟩
      | succ q ih =>
        obtain ⟨L, h1, h2⟩ := ih (fun i hi => hall i (by omega))
        obtain ⟨y, hy, ho⟩ := hall q (by omega)
        refine ⟨L ++ [y], by simp [h1], fun i hi => ?_⟩
        by_cases hlt : i < L.length
        · rw [List.getElem_append_left hlt]; exact h2 i hlt
        · have : i = L.length := by simp at hi; omega
          subst this
          rw [List.getElem_append_right (Nat.le_refl _)]
          simp only [Nat.sub_self, List.getElem_singleton]
          rw [h1]
          exact ⟨hy, ho⟩
    obtain ⟨L, h1, h2⟩ := hL
    subst h1
    refine ⟨L, rfl, hl, hm, fun hne => ?_⟩
    obtain ⟨b, o, spot⟩ := a
    have h0 : 0 < L.length := by
      rcases Nat.eq_zero_or_pos L.length with h | h
      · rw [List.length_eq_zero_iff] at h; exact absurd h hne
      · exact h
    obtain ⟨⟨cs', hc, he⟩, _⟩ := h2 0 h0
    have hc0 : ∃ v, W.cell? (⟨b, o, spot⟩ : Addr) = some v := by
      obtain ⟨_, hl', hcell⟩ := World.cells?_some hc
      have := hcell 0 hK0
      have e0 : ((⟨b, o, spot⟩ : Addr).add (0 * K)).add 0 = ⟨b, o, spot⟩ := by cases spot <;> simp [Addr.add]
      rw [e0] at this
      rw [this]
      subst he
      exact ⟨_, List.getElem?_eq_getElem (by rw [hlen]; exact hK0)⟩
    obtain ⟨v, hv⟩ := hc0
    have hspot : spot = none := by simpa using World.cell?_spot hv
    subst hspot
    refine ⟨b, o, rfl, fun k hk => ?_⟩
    obtain ⟨⟨cs', hc, he⟩, ho⟩ := h2 k hk
    refine ⟨fun i hi => ?_, ho⟩
    obtain ⟨_, hl', hcell⟩ := World.cells?_some hc
    have := hcell i hi
    have e1 : ((⟨b, o, none⟩ : Addr).add (k * K)).add i = ⟨b, o + k * K + i, none⟩ := by
      have e (x y : Nat) : (⟨b, x, none⟩ : Addr).add y = ⟨b, x + y, none⟩ := by unfold Addr.add; split <;> simp_all
      rw [e, e]
    rw [e1] at this
    rw [this, he]
theorem RowsAt.kept {Y : Type} {cellsY : Y → List Value} {okY : World → Y → Prop} {K : Nat} {w w' : World} {A : Option Addr} {L : List Y} {S : List Nat} (h : RowsAt cellsY okY K w A L) (hK : 0 < K) (hlen : ∀ y, (cellsY y).length = K) (hk : Kept w.heap.size S w w')
    (hS : L ≠ [] → ∀ q, blk A = some q → q ∉ S) (hok : ∀ y, y ∈ L → okY w y → okY w' y) : RowsAt cellsY okY K w' A L := by
  intro hne
  obtain ⟨b, o, rfl, hc⟩ := h hne
  have hS := hS hne b rfl
  have h0 : 0 < L.length := List.length_pos_iff.2 hne
  have hlt : b < w.heap.size := by
    have h1 := (hc 0 h0).1 0 hK
    rw [List.getElem?_eq_getElem (by rw [hlen]; exact hK)] at h1
    exact World.block_lt_of_cell? w _ h1
  have hb := hk.block b hlt hS
  refine ⟨b, o, rfl, fun k hkl => ⟨fun i hi => ?_, hok _ (List.getElem_mem hkl) (hc k hkl).2⟩⟩
  rw [← (hc k hkl).1 i hi]
  exact World.cell?_of_block (w := w) hb
theorem RowsAt.in_ {Y : Type} {cellsY : Y → List Value} {okY : World → Y → Prop} {K : Nat} {w : World} {A : Option Addr} {L : List Y} (h : RowsAt cellsY okY K w A L) (hK : 0 < K) (hlen : ∀ y, (cellsY y).length = K) (hne : L ≠ []) (q : Nat) (hq : blk A = some q) : q < w.heap.size := by
  obtain ⟨b, o, rfl, hc⟩ := h hne
  have e : b = q := by simpa [blk] using hq
  subst e
  have h1 := (hc 0 (List.length_pos_iff.2 hne)).1 0 hK
  rw [List.getElem?_eq_getElem (by rw [hlen]; exact hK)] at h1
  exact World.block_lt_of_cell? w _ h1
theorem Bytes.inn {w : World} {A : Option Addr} {l : List UInt8} (h : Bytes w A l) (hne : l ≠ []) (g : Nat) (hg : blk A = some g) : g < w.heap.size := by
  obtain ⟨b, o, rfl, hc⟩ := h hne
  have h0 : 0 < l.length := List.length_pos_iff.2 hne
  have hb := World.block_lt_of_cell? w _ (hc 0 h0)
  have e : b = g := by simpa [blk] using hg
  subst e
  exact hb
/-- an item -/
structure Itm where
  kind : Nat
  x : Nat
  n : Int
  A : Option Addr
  l : List UInt8
  c : Nat
abbrev icells (t : Itm) : Array Value := #[.int .u8 (t.kind : Int), .int .u64 (t.x : Int), .int .i64 t.n, .slice t.A t.l.length t.c]
abbrev iv (t : Itm) : Value := .agg (icells t)
structure Itm.Ok (w : World) (t : Itm) : Prop where
  kind : t.kind < 256
  x : t.x < 18446744073709551616
  n0 : -9223372036854775808 ≤ t.n
  n1 : t.n ≤ 9223372036854775807
  len : t.l.length ≤ t.c
  cap : t.c ≤ 9223372036854775807
  bytes : Bytes w t.A t.l
theorem Bytes.lit' (w : World) (g : Nat) (hg : w.heap.size = g) (l : List UInt8) (cs : Array Value) (t : TypeId) (fr : Nat × Nat) (h : cs = (l.map u8).toArray) : Bytes (w.alloc (.cells cs t fr)) (some ⟨g, 0, none⟩) l := by subst hg; exact Bytes.lit w l cs t fr h
theorem cellsU8i : Try.prog.cellsOf 5 = 1 := by kernel_rfl
theorem cellsU64i : Try.prog.cellsOf 27 = 1 := by kernel_rfl
theorem cellsItem : Try.prog.cellsOf 29 = 4 := by kernel_rfl
theorem list4 {α : Type} (cs : List α) (h : cs.length = 4) : ∃ c0 c1 c2 c3, cs = [c0, c1, c2, c3] := by
  match cs, h with
  | [c0, c1, c2, c3], _ => exact ⟨c0, c1, c2, c3, rfl⟩
set_option maxRecDepth 100000 in
theorem trod_item {H : Type} {enc : TypeId × Value → H} {W : World} {base : Nat} {spare : Nat → Bool} {held : Bool} {fuel : Nat} {cs : List Value} {x : DataW H × List MemPlace}
    (h : DataW.trod enc Try.prog W base spare held fuel 29 cs = some x) : ∃ t : Itm, cs = (icells t).toList ∧ t.Ok W := by
  obtain ⟨xs, m, _, _, hlen, hl, hf⟩ := DataW.trod_struct Try.underlying29 h
  rw [cellsItem] at hlen
  obtain ⟨c0, c1, c2, c3, rfl⟩ := list4 cs hlen
  simp at hl
  have h0 := field_of hf 0 5 0 1 (by rfl) cellsU8i (by omega)
  have h1 := field_of hf 1 27 1 1 (by rfl) cellsU64i (by omega)
  have h2 := field_of hf 2 3 2 1 (by rfl) cellsInt (by omega)
  have h3 := field_of hf 3 25 3 1 (by rfl) cellsBytes (by omega)
  obtain ⟨k, e0, _, w0⟩ := DataW.trod_int Try.underlying5 h0
  obtain ⟨v, e1, _, w1⟩ := DataW.trod_int Try.underlying27 h1
  obtain ⟨n, e2, _, w2⟩ := DataW.trod_int Try.underlying3 h2
  have hb : ∃ A n c, c3 = .slice A n c := by
    rcases DataW.trod_slice Try.underlying25 h3 with ⟨h, _⟩ | ⟨a, len, cap, _, _, _, _, h, _⟩
    · simp at h; exact ⟨_, _, _, h⟩
    · simp at h; exact ⟨_, _, _, h⟩
  obtain ⟨A, nn, c, rfl⟩ := hb
  simp at e0 e1 e2
  obtain ⟨l, rfl, hl1, hl2, hby⟩ := open_bytes (a := A) (len := nn) (cap := c) (d := (xs[3]).1) (p := (xs[3]).2) ⟨m, h3⟩
  subst e0 e1 e2
  have b0 := bounds_u8 w0
  have b1 := bounds_u64 w1
  have b2 := bounds_i64 w2
  obtain ⟨k, rfl⟩ := Int.eq_ofNat_of_zero_le b0.1
  obtain ⟨v, rfl⟩ := Int.eq_ofNat_of_zero_le b1.1
  exact ⟨⟨k, v, n, A, l, c⟩, rfl, ⟨by dsimp only; omega, by dsimp only; omega, b2.1, b2.2, hl1, hl2, hby⟩⟩
abbrev Items (w : World) (A : Option Addr) (L : List Itm) : Prop := RowsAt (fun t => (icells t).toList) Itm.Ok 4 w A L
theorem open_items {H : Type} {enc : TypeId × Value → H} {W : World} {base : Nat} {spare : Nat → Bool} {held : Bool} {A : Option Addr} {len cap : Nat} {d : DataW H} {p : List MemPlace}
    (h : DataW.Trod enc Try.prog W base spare held 22 (.slice A len cap) d p) : ∃ L : List Itm, len = L.length ∧ L.length ≤ cap ∧ cap ≤ 9223372036854775807 ∧ Items W A L :=
  open_rows Try.underlying22 cellsItem (by omega) (fun _ => rfl) (fun _ _ _ h => trod_item h) h
/-- an item as bytes -/
def itmBytes (t : Itm) : List UInt8 :=
  if t.kind % 5 = 0 then [UInt8.ofNat (t.x % 256)]
  else if t.kind % 5 = 1 then (if t.n < 1 ∨ 8 < t.n then [] else Buf.fixed t.x t.n.toNat)
  else if t.kind % 5 = 2 then Buf.sevens t.x
  else if t.kind % 5 = 3 then Buf.sevens (Buf.zig (wrap64 (t.x : Int)))
  else Buf.sevens (t.l.take 200).length ++ t.l.take 200
def itmErr (t : Itm) : Int := if t.kind % 5 = 1 then (if t.n < 1 ∨ 8 < t.n then 1 else 0) else 0
def wstep (most : Int) (s : Int × List UInt8) (t : Itm) : Int × List UInt8 := if itmErr t ≠ 0 then Buf.wfail s 1 else Buf.wput most s (itmBytes t)
theorem wrap64_bounds (x : Int) : -9223372036854775808 ≤ wrap64 x ∧ wrap64 x < 9223372036854775808 := by
  simp only [wrap64]
  omega
set_option maxRecDepth 100000 in
set_option maxHeartbeats 2000000 in
theorem itput_any (B p : Nat) (A : Option Addr) (c : Nat) (e : Int) (b : List UInt8) (most : Int) (t : Itm) (w : World) (h : Wr w B p A c e b most) (ok : t.Ok w) (hb : b.length ≤ 1000000000000) (hB : B ≤ w.heap.size) (hd : t.l ≠ [] → ∀ q, blk t.A = some q → blk A ≠ some q) :
    Calls Try.prog 23 #[.pointer (some ⟨p, 0, none⟩), iv t] w fun r w' => r = .returned (.tuple #[]) ∧ Wrote w w' B p A (wstep most (e, b) t) most := by
  obtain ⟨k, x, n, A2, l, c2⟩ := t
  obtain ⟨okk, okx, okn, okm, okl, okc, hl⟩ := ok
  dsimp only at *
  have hg0 := (Grow.refl w).alloc (.cells (icells ⟨k, x, n, A2, l, c2⟩) 29)
  have hwr := hide (h.grow hg0)
  have hl := hl.grow hg0
  have hx := hide okx
  have hk5 : k % 5 < 5 := Nat.mod_lt _ (by omega)
  unfold wstep itmErr itmBytes
  dsimp only
  by_cases k0 : k % 5 = 0
  · rw [if_neg (by omega : ¬ k % 5 = 1), if_neg (by simp), if_pos k0]
    have e0 : (k : Int) % 5 = 0 := by omega
    clear k0 hk5
    go_enter Try.func23, Try.ntmps23
    have hu : (UInt8.ofNat (x % 256)).toNat = x % 256 := by rw [UInt8.toNat_ofNat']; omega
    go_wp2_with fail
    have hg1 := (Grow.refl (w.alloc (.cells (icells ⟨k, x, n, A2, l, c2⟩) 29))).alloc (.cells #[.int .u8 ((x : Int) % 256)] 5)
    refine (byte_at B p A c e b most _ [UInt8.ofNat (x % 256)] 1 1 _ rfl (hwr.out.grow hg1) (Bytes.lit' _ _ (by simp) _ _ _ _ (by simp only [List.map_cons, List.map_nil, u8, hu]; simp)) hb (by omega) (by simp; omega)).mono ?_
    rintro r w' ⟨rfl, hw⟩
    go_wp2
    go_end0
    exact ⟨rfl, Wrote.grown (Grow.trans hg0 hg1) hw⟩
  by_cases k1 : k % 5 = 1
  · rw [if_pos k1, if_neg k0, if_pos k1]
    have e0 : (k : Int) % 5 = 1 := by omega
    clear k0 k1 hk5
    have HW := hide (show (if (if n < 1 ∨ 8 < n then (1 : Int) else 0) ≠ 0 then Buf.wfail (e, b) 1 else Buf.wput most (e, b) (if n < 1 ∨ 8 < n then [] else Buf.fixed x n.toNat)) = Buf.wfixed most (e, b) x n by unfold Buf.wfixed; by_cases hn : n < 1 ∨ 8 < n <;> simp [hn])
    rw [HW.out]
    have HC := hide (fun W h hB => fixed_any B p A c e b most x n W h hb hB)
    generalize Buf.wfixed most (e, b) x n = S at *
    clear HW
    go_enter Try.func23, Try.ntmps23
    go_wp2_with fail
    refine (HC.out _ hwr.out (by simp; omega)).mono ?_
    rintro r w' ⟨rfl, hw⟩
    go_wp2
    go_end0
    exact ⟨rfl, Wrote.grown hg0 hw⟩
  by_cases k2 : k % 5 = 2
  · rw [if_neg k1, if_neg (by simp), if_neg k0, if_neg k1, if_pos k2]
    have e0 : (k : Int) % 5 = 2 := by omega
    clear k0 k1 k2 hk5
    have HC := hide (fun W h hB => num_any B p A c e b most x W h hx hb hB)
    generalize Buf.sevens x = S at *
    go_enter Try.func23, Try.ntmps23
    go_wp2_with fail
    refine (HC.out _ hwr.out (by simp; omega)).mono ?_
    rintro r w' ⟨rfl, hw⟩
    go_wp2
    go_end0
    exact ⟨rfl, Wrote.grown hg0 hw⟩
  by_cases k3 : k % 5 = 3
  · rw [if_neg k1, if_neg (by simp), if_neg k0, if_neg k1, if_neg k2, if_pos k3]
    have e0 : (k : Int) % 5 = 3 := by omega
    clear k0 k1 k2 k3 hk5
    have HC := hide (fun W h hB => wint_any B p A c e b most (wrap64 (x : Int)) W h (hide (wrap64_bounds x).1) (hide (wrap64_bounds x).2) hb hB)
    generalize Buf.sevens (Buf.zig (wrap64 (x : Int))) = S at *
    go_enter Try.func23, Try.ntmps23
    go_wp2_with fail
    refine (HC.out _ hwr.out (by simp; omega)).mono ?_
    rintro r w' ⟨rfl, hw⟩
    go_wp2
    go_end0
    exact ⟨rfl, Wrote.grown hg0 hw⟩
  · rw [if_neg k1, if_neg (by simp), if_neg k0, if_neg k1, if_neg k2, if_neg k3]
    have e0 : (k : Int) % 5 = 4 := by omega
    clear k0 k1 k2 k3 hk5
    obtain ⟨m, hm⟩ : ∃ m, m = l.take 200 := ⟨_, rfl⟩
    have hmm : m.length = min 200 l.length := by rw [hm, List.length_take]
    have hl := hide (hm ▸ hl.take 200)
    have hne : m ≠ [] → l ≠ [] := by rintro h rfl; simp at hm; exact h hm
    rw [← hm]
    have hmin : (if 200 < (l.length : Int) then (200 : Int) else (l.length : Int)) = ((m.length : Nat) : Int) := by split <;> omega
    have hmc : m.length ≤ c2 := by omega
    have hmN : m.length ≤ 200 := by omega
    clear hm hmm okl
    have HC := hide (fun W h hl hB => wbytes_any B p A c e b most A2 m c2 W h hl hb (by omega) hB (fun hm q hq => hd (hne hm) q hq))
    generalize Buf.wput most (e, b) (Buf.sevens m.length ++ m) = S at *
    go_enter Try.func23, Try.ntmps23
    go_wp2_with fail
    refine (HC.out _ hwr.out hl.out (by simp; omega)).mono ?_
    rintro r w' ⟨rfl, hw⟩
    go_wp2
    go_end0
    exact ⟨rfl, Wrote.grown hg0 hw⟩
set_option maxRecDepth 100000 in
set_option maxHeartbeats 2000000 in
theorem refzig_any (x : Int) (w : World) (h1 : Hid (-9223372036854775808 ≤ x)) (h2 : Hid (x < 9223372036854775808)) :
    Calls Try.prog 35 #[.int .i64 x] w fun r w' => r = .returned (.int .u64 (Buf.zig x : Nat)) ∧ w = w' := by
  have h1 := h1.out
  have h2 := h2.out
  by_cases hx : x < 0
  · have HZ := hide (show (Buf.zig x : Int) = -2 * x - 1 by unfold Buf.zig; rw [if_pos hx]; omega)
    go_enter Try.func35, Try.ntmps35
    go_wp2
    go_ret
    exact ⟨ret_int (by rw [HZ.out]; first | omega | (simp only [wrap64, IntKind.wrap_i64]; omega) | (simp only [IntKind.wrap_u64]; omega)), rfl⟩
  · have HZ := hide (show (Buf.zig x : Int) = 2 * x by unfold Buf.zig; rw [if_neg hx]; omega)
    go_enter Try.func35, Try.ntmps35
    go_wp2
    go_ret
    exact ⟨ret_int (by rw [HZ.out]; first | omega | (simp only [wrap64, IntKind.wrap_i64]; omega) | (simp only [IntKind.wrap_u64]; omega)), rfl⟩
set_option maxRecDepth 100000 in
set_option maxHeartbeats 2000000 in
theorem ittext_any (t : Itm) (w : World) (ok : t.Ok w) :
    Calls Try.prog 24 #[iv t] w fun r w' => ∃ A c, r = .returned (.tuple #[.slice A (itmBytes t).length c, .int .i64 (itmErr t)]) ∧ Own w' w.heap.size A c (itmBytes t) ∧ Grow w w' := by
  obtain ⟨k, x, n, A2, l, c2⟩ := t
  obtain ⟨okk, okx, okn, okm, okl, okc, hl⟩ := ok
  dsimp only at *
  have hg0 := (Grow.refl w).alloc (.cells (icells ⟨k, x, n, A2, l, c2⟩) 29)
  have hl := hl.grow hg0
  have hsz := hg0.size
  unfold itmErr itmBytes
  dsimp only
  by_cases k0 : k % 5 = 0
  · rw [if_neg (by omega : ¬ k % 5 = 1), if_pos k0]
    have e0 : (k : Int) % 5 = 0 := by omega
    clear k0
    have hu : (UInt8.ofNat (x % 256)).toNat = x % 256 := by rw [UInt8.toNat_ofNat']; omega
    have hO := Own.one (w.alloc (.cells (icells ⟨k, x, n, A2, l, c2⟩) 29)) (base := w.heap.size) ((x : Int) % 256) (by omega) (by omega) hsz
    rw [show UInt8.ofNat ((x : Int) % 256).toNat = UInt8.ofNat (x % 256) by congr 1, show (w.alloc (.cells (icells ⟨k, x, n, A2, l, c2⟩) 29)).heap.size = w.heap.size + 1 by simp] at hO
    have hg1 := Grow.trans hg0 ((Grow.refl (w.alloc (.cells (icells ⟨k, x, n, A2, l, c2⟩) 29))).alloc (.cells #[.int .u8 ((x : Int) % 256)] 5))
    go_enter Try.func24, Try.ntmps24
    go_wp2
    go_ret2
    exact ⟨_, _, rfl, hO, hg1⟩
  by_cases k1 : k % 5 = 1
  · rw [if_pos k1, if_neg k0, if_pos k1]
    have e0 : (k : Int) % 5 = 1 := by omega
    clear k0 k1
    by_cases hn : n < 1 ∨ 8 < n
    · rw [if_pos hn, if_pos hn]
      have hd : (decide (n < 1) || decide (8 < n)) = true := by simpa using hn
      rcases hn with hn | hn
      all_goals
        clear hd
        go_enter Try.func24, Try.ntmps24
        go_wp2
        go_ret2
        exact ⟨none, 0, rfl, Own.nil_ _ _, hg0⟩
    · rw [if_neg hn, if_neg hn]
      have h1 : 1 ≤ n := by omega
      have h8 : n ≤ 8 := by omega
      obtain ⟨j, rfl⟩ := Int.eq_ofNat_of_zero_le (show 0 ≤ n by omega)
      rw [show ((j : Int)).toNat = j from rfl]
      have HC := hide (fun W => reffixed_any x j W (by omega) okx)
      generalize Buf.fixed x j = S at *
      clear hn
      go_enter Try.func24, Try.ntmps24
      go_wp2_with fail
      refine (HC.out _).mono ?_
      rintro r w1 ⟨A1, c1, rfl, hown, hb1⟩
      go_wp2
      go_ret2
      exact ⟨A1, c1, rfl, hown.mono hsz, Grow.trans hg0 hb1⟩
  by_cases k2 : k % 5 = 2
  · rw [if_neg k1, if_neg k0, if_neg k1, if_pos k2]
    have e0 : (k : Int) % 5 = 2 := by omega
    clear k0 k1 k2
    have HC := hide (fun W => refnum_any x W okx)
    generalize Buf.sevens x = S at *
    go_enter Try.func24, Try.ntmps24
    go_wp2_with fail
    refine (HC.out _).mono ?_
    rintro r w1 ⟨A1, c1, rfl, hown, hb1⟩
    go_wp2
    go_ret2
    exact ⟨A1, c1, rfl, hown.mono hsz, Grow.trans hg0 hb1⟩
  by_cases k3 : k % 5 = 3
  · rw [if_neg k1, if_neg k0, if_neg k1, if_neg k2, if_pos k3]
    have e0 : (k : Int) % 5 = 3 := by omega
    clear k0 k1 k2 k3
    have HZ := hide (fun W => refzig_any (wrap64 (x : Int)) W (hide (wrap64_bounds x).1) (hide (wrap64_bounds x).2))
    have HC := hide (fun W => refnum_any (Buf.zig (wrap64 (x : Int))) W (zig_lt _ (wrap64_bounds x).1 (wrap64_bounds x).2))
    generalize Buf.sevens (Buf.zig (wrap64 (x : Int))) = S at *
    go_enter Try.func24, Try.ntmps24
    go_wp2_with fail
    refine (HZ.out _).mono ?_
    rintro r w' ⟨rfl, rfl⟩
    go_wp2_with fail
    refine (HC.out _).mono ?_
    rintro r w1 ⟨A1, c1, rfl, hown, hb1⟩
    go_wp2
    go_ret2
    exact ⟨A1, c1, rfl, hown.mono hsz, Grow.trans hg0 hb1⟩
  · rw [if_neg k1, if_neg k0, if_neg k1, if_neg k2, if_neg k3]
    have e0 : (k : Int) % 5 = 4 := by omega
    clear k0 k1 k2 k3
    obtain ⟨m, hm⟩ : ∃ m, m = l.take 200 := ⟨_, rfl⟩
    have hmm : m.length = min 200 l.length := by rw [hm, List.length_take]
    have hl := hide (hm ▸ hl.take 200)
    rw [← hm]
    have hmin : (if 200 < (l.length : Int) then (200 : Int) else (l.length : Int)) = ((m.length : Nat) : Int) := by split <;> omega
    have hmc : m.length ≤ c2 := by omega
    have hmN : m.length ≤ 200 := by omega
    clear hm hmm okl
    have HC := hide (fun W hl => refbytes_any A2 m c2 W hl (by omega))
    generalize Buf.sevens m.length ++ m = S at *
    go_enter Try.func24, Try.ntmps24
    go_wp2_with fail
    refine (HC.out _ hl.out).mono ?_
    rintro r w1 ⟨A1, c1, rfl, hown, hb1⟩
    go_wp2
    go_ret2
    exact ⟨A1, c1, rfl, hown.mono hsz, Grow.trans hg0 hb1⟩
end Go.Proofs.Ytpobjcdcimcdnaa
