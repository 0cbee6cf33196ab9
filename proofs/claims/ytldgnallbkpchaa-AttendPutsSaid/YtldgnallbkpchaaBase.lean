/- Words of my own for memory and bits: bytes that a slice reads as; steps that only add. No function of the program. -/
import Derived.WalkKit
import Derived.WalkSpells
import Derived.WalkLawsBesides
import Derived.Laws.BitsAllLaws
import Derived.Maps.AppendAt
import Derived.Laws.CopyOwn
import Derived.Deep.Draws
import Derived.Lib.SlBytesConst
import Derived.Deep.RegionHeld3
namespace Go.Proofs.Ytldgnallbkpchaa
open Go.RowKit

/-- a fact kept from the walk -/
theorem hide {p : Prop} (h : p) : Hid p := h

/-! ### bytes that a slice reads as -/
/-- a byte as a value -/
def u8 (c : UInt8) : Value := .int .u8 (c.toNat : Int)
theorem u8_lt (c : UInt8) : c.toNat < 256 := c.toNat_lt
/-- the address A leads to the bytes l -/
def Bytes (w : World) (A : Option Addr) (l : List UInt8) : Prop :=
  l ≠ [] → ∃ b o, A = some ⟨b, o, none⟩ ∧ ∀ j (h : j < l.length), w.cell? ⟨b, o + j, none⟩ = some (.int .u8 (l[j].toNat : Int))
theorem Bytes.nil (w : World) (A : Option Addr) : Bytes w A [] := fun h => absurd rfl h
/-- where the block is as it was, the bytes are -/
theorem Bytes.keep {w w' : World} {A : Option Addr} {l : List UInt8} (h : Bytes w A l) (hk : ∀ b o, A = some ⟨b, o, none⟩ → b < w.heap.size → w'.heap[b]? = w.heap[b]?) : Bytes w' A l := by
  intro hl
  obtain ⟨b, o, rfl, hc⟩ := h hl
  have h0 : 0 < l.length := List.length_pos_iff.2 hl
  have hb := World.block_lt_of_cell? w _ (hc 0 h0)
  refine ⟨b, o, rfl, fun j hj => ?_⟩
  rw [World.cell?_of_block (w := w) (hk b o rfl hb)]
  exact hc j hj
theorem Bytes.below {w w' : World} {A : Option Addr} {l : List UInt8} (h : Bytes w A l) (hb : Below w.heap.size w w') : Bytes w' A l := h.keep fun b _ _ hlt => hb.block b hlt
theorem Bytes.alloc {w : World} {A : Option Addr} {l : List UInt8} (h : Bytes w A l) (o : Obj) : Bytes (w.alloc o) A l := h.below ((Below.refl _ _).alloc (Nat.le_refl _) o)
theorem Bytes.drew {w : World} {A : Option Addr} {l : List UInt8} (h : Bytes w A l) : Bytes w.drew A l := h
theorem Bytes.at_ {w : World} {A : Option Addr} {l : List UInt8} (h : Bytes w A l) (k : Nat) (hk : k < l.length) : ∃ b o, A = some ⟨b, o, none⟩ ∧ w.cell? ⟨b, o + k, none⟩ = some (.int .u8 (l[k].toNat : Int)) := by
  obtain ⟨b, o, hA, hc⟩ := h (by intro e; simp [e] at hk)
  exact ⟨b, o, hA, hc k hk⟩
theorem Bytes.take {w : World} {A : Option Addr} {l : List UInt8} (h : Bytes w A l) (n : Nat) : Bytes w A (l.take n) := by
  intro hl
  obtain ⟨b, o, hA, hc⟩ := h (by rintro rfl; simp at hl)
  refine ⟨b, o, hA, fun j hj => ?_⟩
  rw [List.length_take] at hj
  rw [hc j (by omega), List.getElem_take]
/-- bytes that were laid as a literal -/
theorem Bytes.lit (w : World) (l : List UInt8) (cs : Array Value) (t : TypeId) (fr : Nat × Nat) (h : cs = (l.map u8).toArray) : Bytes (w.alloc (.cells cs t fr)) (some ⟨w.heap.size, 0, none⟩) l := by
  subst h
  intro _
  refine ⟨_, _, rfl, fun j hj => ?_⟩
  have : (w.alloc (.cells (l.map u8).toArray t fr)).heap[w.heap.size]? = some (.cells (l.map u8).toArray t fr) := heap_alloc_new w _
  simp only [World.cell?, this, Nat.zero_add]
  simp [hj, u8]
theorem byte_val (v : Int) (h0 : 0 ≤ v) (h1 : v < 256) : u8 (UInt8.ofNat v.toNat) = .int .u8 v := by
  unfold u8
  rw [UInt8.toNat_ofNat']
  congr 1
  omega
/-- one byte that was laid -/
theorem Bytes.one (w : World) (v : Int) (h0 : 0 ≤ v) (h1 : v < 256) {t : TypeId} {g : Nat} (hg : w.heap.size = g) : Bytes (w.alloc (.cells #[.int .u8 v] t)) (some ⟨g, 0, none⟩) [UInt8.ofNat v.toNat] := by
  subst hg
  exact Bytes.lit w _ _ t (0, 0) (by simp [byte_val v h0 h1])

/-! ### what a call owns -/
/-- the slice value at A, of length l and room c, owns the bytes l, in a block from base on -/
def Own (w : World) (base : Nat) (A : Option Addr) (c : Nat) (l : List UInt8) : Prop := w.ownsRow base 5 1 (.slice A l.length c) l.length (l.map u8)
theorem u8_map_get (l : List UInt8) (j : Nat) (h : j < l.length) : (l.map u8)[j]? = some (.int .u8 (l[j].toNat : Int)) := by
  rw [List.getElem?_map, List.getElem?_eq_getElem h]; rfl
theorem own_addr (g j : Nat) : (⟨g, 0, none⟩ : Addr).add j = ⟨g, j, none⟩ := by unfold Addr.add; split <;> simp_all
theorem Own.form {w : World} {base : Nat} {A : Option Addr} {c : Nat} {l : List UInt8} (h : Own w base A c l) :
    (A = none ∧ l = [] ∧ c = 0) ∨ ∃ g, A = some ⟨g, 0, none⟩ ∧ base ≤ g ∧ g < w.heap.size ∧ l.length ≤ c ∧ c ≤ maxLen := by
  rcases h.2 with ⟨hv, hn⟩ | ⟨g, cap, cur, hv, hb, hg, hnc, hcm, _⟩
  · injection hv with h1 h2 h3
    exact .inl ⟨h1, List.length_eq_zero_iff.1 hn, h3⟩
  · injection hv with h1 h2 h3
    subst h3
    exact .inr ⟨g, h1, hb, (Array.getElem?_eq_some_iff.1 hg).1, hnc, hcm⟩
theorem Own.le {w : World} {base : Nat} {A : Option Addr} {c : Nat} {l : List UInt8} (h : Own w base A c l) : l.length ≤ c ∧ c ≤ 9223372036854775807 := by
  rcases h.form with ⟨_, rfl, rfl⟩ | ⟨_, _, _, _, h1, h2⟩
  · exact ⟨Nat.le_refl _, Nat.zero_le _⟩
  · exact ⟨h1, h2⟩
theorem Own.bytes {w : World} {base : Nat} {A : Option Addr} {c : Nat} {l : List UInt8} (h : Own w base A c l) : Bytes w A l := by
  intro hl
  rcases h.form with ⟨_, rfl, _⟩ | ⟨g, rfl, _⟩
  · exact absurd rfl hl
  · refine ⟨g, 0, rfl, fun j hj => ?_⟩
    have := h.cells (g := g) rfl j _ (u8_map_get l j hj)
    rw [own_addr] at this
    rw [Nat.zero_add]
    exact this
theorem Own.nil_ (w : World) (base : Nat) : Own w base none 0 [] := World.ownsRow_nil w base _ _
theorem Own.made (w : World) {base : Nat} (cur : Array Value) (cap : Nat) (hb : base ≤ w.heap.size) (hm : cap ≤ maxLen) (hs : cur.size = cap) : Own (w.alloc (.cells cur 5)) base (some ⟨w.heap.size, 0, none⟩) cap [] :=
  World.ownsRow_made w cur cap hb hm (by rw [hs, Nat.mul_one])
/-- the block of an address -/
def blk (A : Option Addr) : Option Nat := A.map (·.block)
theorem blk_own (A : Option Addr) (n c : Nat) : (Value.slice A n c).ownBlock = blk A := by cases A <;> rfl
theorem Own.base {w : World} {base : Nat} {A : Option Addr} {c : Nat} {l : List UInt8} (h : Own w base A c l) {q : Nat} (hq : blk A = some q) : base ≤ q := by
  rcases h.form with ⟨rfl, _⟩ | ⟨g, rfl, hb, _⟩
  · cases hq
  · injection hq with hq; subst hq; exact hb
theorem Own.kept {w w' : World} {base : Nat} {A : Option Addr} {c : Nat} {l : List UInt8} (h : Own w base A c l) (hk : ∀ g, blk A = some g → w'.heap[g]? = w.heap[g]?) : Own w' base A c l := by
  refine ⟨h.1, ?_⟩
  rcases h.2 with hn | ⟨g, cap, cur, hv, hb, hg, r⟩
  · exact .inl hn
  · refine .inr ⟨g, cap, cur, hv, hb, ?_, r⟩
    injection hv with h1 h2 h3
    rw [hk g (by rw [h1]; rfl)]
    exact hg
theorem Own.mono {w : World} {base base' : Nat} {A : Option Addr} {c : Nat} {l : List UInt8} (h : Own w base A c l) (hb : base' ≤ base) : Own w base' A c l := by
  refine ⟨h.1, ?_⟩
  rcases h.2 with hn | ⟨g, cap, cur, hv, hb', r⟩
  · exact .inl hn
  · exact .inr ⟨g, cap, cur, hv, by omega, r⟩
theorem Own.below {w w' : World} {base : Nat} {A : Option Addr} {c : Nat} {l : List UInt8} (h : Own w base A c l) (hb : Below w.heap.size w w') : Own w' base A c l := by
  refine h.kept fun g hg => hb.block g ?_
  rcases h.form with ⟨rfl, _⟩ | ⟨g', rfl, _, hlt, _⟩
  · cases hg
  · injection hg with hg; subst hg; exact hlt
theorem Own.alloc {w : World} {base : Nat} {A : Option Addr} {c : Nat} {l : List UInt8} (h : Own w base A c l) (o : Obj) : Own (w.alloc o) base A c l := h.below ((Below.refl _ _).alloc (Nat.le_refl _) o)
theorem Own.drew {w : World} {base : Nat} {A : Option Addr} {c : Nat} {l : List UInt8} (h : Own w base A c l) : Own w.drew base A c l := h
theorem Own.lt {w : World} {base : Nat} {A : Option Addr} {c : Nat} {l : List UInt8} (h : Own w base A c l) {q : Nat} (hq : blk A = some q) : q < w.heap.size := by
  rcases h.form with ⟨rfl, _⟩ | ⟨g, rfl, _, hlt, _⟩
  · cases hq
  · injection hq with hq; subst hq; exact hlt
theorem Own.cell {w : World} {base g : Nat} {c : Nat} {l : List UInt8} (h : Own w base (some ⟨g, 0, none⟩) c l) (j : Nat) (hj : j < l.length) : w.cell? ⟨g, j, none⟩ = some (.int .u8 (l[j].toNat : Int)) := by
  rw [World.ownsRow.cellAt h j (by omega), u8_map_get l j hj]
theorem Own.frozen {w : World} {base g : Nat} {c : Nat} {l : List UInt8} (h : Own w base (some ⟨g, 0, none⟩) c l) (j : Nat) : w.frozen? ⟨g, j, none⟩ = false := World.ownsRow.frozenAt h j
theorem Own.set {w : World} {base g : Nat} {c : Nat} {l : List UInt8} (h : Own w base (some ⟨g, 0, none⟩) c l) (j : Nat) (x : UInt8) : Own (w.setCell ⟨g, j, none⟩ (u8 x)) base (some ⟨g, 0, none⟩) c (l.set j x) := by
  have := (World.ownsRow.stored h j (u8 x)).1
  unfold Own
  rw [List.length_set, List.map_set]
  exact this
theorem Own.grown {w w' : World} {base : Nat} {A : Option Addr} {c : Nat} {l : List UInt8} {row : Option Nat} (h : Own w base A c l) (hg : w.grownBy w' row) (hne : ∀ q, blk A = some q → row ≠ some q) : Own w' base A c l :=
  h.kept fun g hq => hg.block g (h.lt hq) (fun e => hne g hq e.symm)

/-- what a world that only grew holds: two rules for the walk -/
theorem grown_cell {W w1 : World} (hb : Below W.heap.size W w1) : (∀ b o, b < W.heap.size → w1.cell? ⟨b, o, none⟩ = W.cell? ⟨b, o, none⟩) ∧ (∀ b o, b < W.heap.size → w1.frozen? ⟨b, o, none⟩ = W.frozen? ⟨b, o, none⟩) :=
  ⟨fun b o h => hb.cell (p := ⟨b, o, none⟩) h, fun b o h => hb.frozen (p := ⟨b, o, none⟩) h⟩

/-! ### which old blocks are kept -/
/-- of the blocks below B those that are not in S are as they were -/
structure Kept (B : Nat) (S : List Nat) (w w' : World) : Prop where
  os : w'.os = w.os
  tape : w'.tape = w.tape
  output : w'.output = w.output
  size : w.heap.size ≤ w'.heap.size
  block : ∀ k, k < B → k ∉ S → w'.heap[k]? = w.heap[k]?
theorem Kept.refl (B : Nat) (S : List Nat) (w : World) : Kept B S w w := ⟨rfl, rfl, rfl, Nat.le_refl _, fun _ _ _ => rfl⟩
theorem Kept.trans {B : Nat} {S : List Nat} {a b c : World} (h : Kept B S a b) (k : Kept B S b c) : Kept B S a c :=
  ⟨k.os.trans h.os, k.tape.trans h.tape, k.output.trans h.output, Nat.le_trans h.size k.size, fun i hi hs => (k.block i hi hs).trans (h.block i hi hs)⟩
theorem Kept.mono {B B' : Nat} {S S' : List Nat} {a b : World} (h : Kept B S a b) (hB : B' ≤ B) (hS : ∀ k, k < B' → k ∈ S → k ∈ S') : Kept B' S' a b :=
  ⟨h.os, h.tape, h.output, h.size, fun i hi hs => h.block i (by omega) (fun e => hs (hS i hi e))⟩
theorem Kept.drew {B : Nat} {S : List Nat} {a b : World} (h : Kept B S a b) : Kept B S a b.drew := ⟨h.os, h.tape, h.output, h.size, h.block⟩
theorem Kept.drewN {B : Nat} {S : List Nat} {a b : World} (h : Kept B S a b) (n : Nat) : Kept B S a (b.drewN n) := ⟨h.os, h.tape, h.output, h.size, h.block⟩
theorem Kept.alloc {B : Nat} {S : List Nat} {a b : World} (h : Kept B S a b) (hB : B ≤ b.heap.size) (o : Obj) : Kept B S a (b.alloc o) :=
  h.trans ⟨rfl, rfl, rfl, by simp, fun k hk _ => Below.heap_alloc _ _ _ (by omega)⟩
theorem Kept.setCell {B : Nat} {S : List Nat} {a b : World} (h : Kept B S a b) {p : Addr} (hp : B ≤ p.block ∨ p.block ∈ S) (u : Value) : Kept B S a (b.setCell p u) :=
  h.trans ⟨rfl, rfl, rfl, by simp [World.setCell], fun k hk hs => Below.heap_setCell _ _ _ _ (by rintro rfl; rcases hp with hp | hp; omega; exact hs hp)⟩
theorem Kept.of_below {B : Nat} {a b : World} (h : Below B a b) (S : List Nat) : Kept B S a b := ⟨h.os, h.tape, h.output, h.size, fun k hk _ => h.block k hk⟩
theorem Kept.to_below {B : Nat} {a b : World} (h : Kept B [] a b) : Below B a b := ⟨h.os, h.tape, h.output, h.size, fun k hk => h.block k hk (by simp)⟩
theorem Kept.of_grown {a b : World} {row : Option Nat} (h : a.grownBy b row) : Kept a.heap.size row.toList a b :=
  ⟨h.os, h.tape, h.output, h.size, fun k hk hs => h.block k hk (by rintro rfl; simp at hs)⟩
theorem Kept.grown {B : Nat} {S : List Nat} {a b c : World} {row : Option Nat} (h : Kept B S a b) (hg : b.grownBy c row) (hB : B ≤ b.heap.size) (hr : ∀ k, row = some k → B ≤ k ∨ k ∈ S) : Kept B S a c :=
  h.trans ((Kept.of_grown hg).mono hB (fun k hk hm => by rcases hr k (by simpa using hm) with h1 | h1; omega; exact h1))

/-! ### growing alone; bytes as a string -/
/-- all that was there is as it was -/
def Grow (w w' : World) : Prop := Below w.heap.size w w'
theorem Grow.refl (w : World) : Grow w w := Below.refl _ _
theorem Grow.step {a b c : World} (h : Grow a b) (k : Below b.heap.size b c) : Grow a c := Below.trans h (k.mono h.size)
theorem Grow.alloc {a b : World} (h : Grow a b) (o : Obj) : Grow a (b.alloc o) := Below.alloc h h.size o
theorem Grow.drew {a b : World} (h : Grow a b) : Grow a b.drew := Below.drew h
theorem Grow.of_drew {a b : World} (h : Grow a.drew b) : Grow a b := ⟨h.os, h.tape, h.output, h.size, h.block⟩
theorem Bytes.grow {w w' : World} {A : Option Addr} {l : List UInt8} (h : Bytes w A l) (hb : Grow w w') : Bytes w' A l := h.below hb
theorem foldl_push (l : List UInt8) : ∀ (s : ByteArray), (l.map fun c => (c.toNat : Int)).foldl (fun r n => r.push (UInt8.ofNat n.toNat)) s = ⟨s.data ++ l.toArray⟩ := by
  induction l with
  | nil => intro s; simp
  | cons c l ih =>
    intro s
    rw [List.map_cons, List.foldl_cons, ih]
    have e : UInt8.ofNat (c.toNat : Int).toNat = c := by simp
    rw [e]
    show (⟨(s.data.push c) ++ l.toArray⟩ : ByteArray) = _
    congr 1
    apply Array.toList_inj.1
    simp
theorem run_conv_bytes {P : Program} {src e dst : TypeId} (hs : P.underlying src = some (.slice e)) (he : P.underlying e = some (.int .u8)) (hd : P.underlying dst = some .string) {w : World} {A : Option Addr} {l : List UInt8} (c : Nat) (hb : Bytes w A l) :
    (convert src dst (.slice A l.length c)).run P w = .ok (.string ⟨l.toArray⟩) w := by
  rw [run_convert_bytes_string w src dst e A l.length c hs he hd]
  cases A with
  | none =>
    have h2 : l = [] := by
      rcases List.eq_nil_or_concat l with h | ⟨_, _, hne⟩
      · exact h
      · obtain ⟨_, _, h, _⟩ := hb (by rw [hne]; simp)
        cases h
    subst h2
    simp [Conv.bytesToString]
    rfl
  | some ad =>
    have h := run_loadCells_list (P := P) w ad (l.map u8) (by
      intro j u hu
      have hj : j < l.length := by
        rcases Nat.lt_or_ge j l.length with h | h
        · exact h
        · rw [List.getElem?_eq_none (by simpa using h)] at hu; cases hu
      obtain ⟨b, o, hA, hc⟩ := hb.at_ j hj
      rw [u8_map_get l j hj] at hu
      injection hA with hA
      subst hA
      have e : (⟨b, o, none⟩ : Addr).add j = ⟨b, o + j, none⟩ := by unfold Addr.add; split <;> simp_all
      rw [e, hc, hu])
    rw [List.length_map] at h
    have h2 := run_bytesToString (P := P) w ad l.length c (l.map fun c => (c.toNat : Int)) (by rw [List.map_map]; exact h)
    rw [h2, foldl_push]
    simp

/-! ### variables whose cells are known -/
/-- the cells of block g from its head on -/
def Holds (w : World) (g : Nat) (cs : Array Value) : Prop := ∀ i, w.cell? ⟨g, i, none⟩ = cs[i]?
theorem Holds.lt {w : World} {g : Nat} {cs : Array Value} (h : Holds w g cs) (hs : 0 < cs.size) : g < w.heap.size :=
  World.block_lt_of_cell? w ⟨g, 0, none⟩ ((h 0).trans (Array.getElem?_eq_getElem hs))
theorem Holds.grow {w w' : World} {g : Nat} {cs : Array Value} (h : Holds w g cs) (hs : 0 < cs.size) (hb : Grow w w') : Holds w' g cs := fun i => (Below.cell (p := ⟨g, i, none⟩) hb (h.lt hs)).trans (h i)
theorem Holds.new (w : World) (cs : Array Value) (t : TypeId) (fr : Nat × Nat) {g : Nat} (hg : w.heap.size = g) : Holds (w.alloc (.cells cs t fr)) g cs := by
  subst hg
  intro i
  have : (w.alloc (.cells cs t fr)).heap[w.heap.size]? = some (.cells cs t fr) := heap_alloc_new w _
  simp only [World.cell?, this]
  rfl
theorem one_box (w : World) (cs : Array Value) (t : TypeId) : Holds (w.alloc (.cells cs t)) w.heap.size cs ∧ Grow w (w.alloc (.cells cs t)) := ⟨Holds.new w cs t _ rfl, (Grow.refl w).alloc _⟩
theorem two_boxes (w : World) (cs ds : Array Value) (t u : TypeId) (hs : 0 < cs.size) :
    Holds ((w.alloc (.cells cs t)).alloc (.cells ds u)) w.heap.size cs ∧ Holds ((w.alloc (.cells cs t)).alloc (.cells ds u)) (w.heap.size + 1) ds ∧ Grow w ((w.alloc (.cells cs t)).alloc (.cells ds u)) :=
  ⟨(Holds.new w cs t _ rfl).grow hs ((Grow.refl _).alloc _), Holds.new _ ds u _ (by simp), ((Grow.refl w).alloc _).alloc _⟩

/-! ### append of bytes to what is owned -/
/-- the facts on the type of bytes -/
structure ByteT (P : Program) : Prop where
  und : P.underlying 25 = some (.slice 5)
  info : ∃ i, P.info? 5 = some i ∧ i.zero = some (.int .u8 0) ∧ i.size = 1 ∧ i.bytes = 1
section
variable {P : Program}
theorem run_append_bytes (bt : ByteT P) (w : World) {base ty : Nat} {A : Option Addr} {c : Nat} {l : List UInt8} (hown : Own w base A c l)
    {A2 : Option Addr} {c2 : Nat} {l2 : List UInt8} (hb : Bytes w A2 l2) (hsum : l.length + l2.length ≤ 140737488355328) (hbase : base ≤ w.heap.size) :
    ∃ A' c' w', (Builtin.append_ #[25, 25] ty #[.slice A l.length c, .slice A2 l2.length c2]).run P w = .ok (.slice A' (l ++ l2).length c') w' ∧ Own w' base A' c' (l ++ l2) ∧ w.grownBy w' (blk A) ∧
      (blk A' = blk A ∨ blk A' = some w.heap.size) := by
  obtain ⟨i, hi, hz, hs, hby⟩ := bt.info
  cases A2 with
  | none =>
    have h2 : l2 = [] := by
      rcases List.eq_nil_or_concat l2 with h | ⟨_, _, hne⟩
      · exact h
      · obtain ⟨_, _, h, _⟩ := hb (by rw [hne]; simp)
        cases h
    subst h2
    refine ⟨A, c, w, ?_, by simpa using hown, ⟨rfl, rfl, rfl, Nat.le_refl _, fun _ _ _ => rfl⟩, .inl rfl⟩
    have hle := hown.le.1
    cases A with
    | none => rcases hown.form with ⟨_, rfl, rfl⟩ | ⟨g, hg, _⟩
              · simp [Builtin.append_, run_underlying bt.und, sizeOf, typeInfo, hi, Builtin.lenOf, Builtin.firstCells]
              · cases hg
    | some ad => simp [Builtin.append_, run_underlying bt.und, sizeOf, typeInfo, hi, Builtin.lenOf, Builtin.firstCells, hle, storeCells]
  | some ad =>
    have hnews : ∀ j u, (l2.map u8)[j]? = some u → w.cell? (ad.add j) = some u := by
      intro j u hu
      have hj : j < l2.length := by
        rcases Nat.lt_or_ge j l2.length with h | h
        · exact h
        · rw [List.getElem?_eq_none (by simpa using h)] at hu; cases hu
      obtain ⟨b, o, hA, hc⟩ := hb.at_ j hj
      rw [u8_map_get l2 j hj] at hu
      injection hA with hA
      subst hA
      have e : (⟨b, o, none⟩ : Addr).add j = ⟨b, o + j, none⟩ := by unfold Addr.add; split <;> simp_all
      rw [e, hc, hu]
    obtain ⟨v', w', hr, h2, h3, h4, h5⟩ := run_append_own_at (P := P) w base 25 ty 5 i (.int .u8 0) 1 1 bt.und hi hz hs hby rfl (by omega) (.slice A l.length c) l.length (l.map u8) hown
      ad l2.length c2 (l2.map u8) (by simp) hnews (by intro u hu; simp only [List.mem_map] at hu; obtain ⟨x, _, rfl⟩ := hu; rfl) (by unfold maxLen; omega) (by omega) hbase
    rw [blk_own] at h3 h5
    rcases h2.2 with ⟨hv, hn⟩ | ⟨g, cap, cur, hv, r⟩
    · subst hv
      refine ⟨none, 0, w', ?_, ?_, h3, h5⟩
      · rw [hr, List.length_append, hn]
      · unfold Own; rw [List.length_append, List.map_append, hn]; rw [hn] at h2; exact h2
    · subst hv
      refine ⟨some ⟨g, 0, none⟩, cap, w', ?_, ?_, h3, h5⟩
      · rw [hr, List.length_append]
      · unfold Own; rw [List.length_append, List.map_append]; exact h2
theorem wpList_append_bytes (bt : ByteT P) {ops : Array Oper} {rest : List Oper} {o : Oper} {a : Act} {w : World} {Q : Exit → Act → World → Prop} (hgd : o.guard = none) (s x : Operand)
    (ho : o.op = .call { callee := .builtin .append, args := #[s, x], argTypes := #[25, 25] }) {base : Nat} {A : Option Addr} {c : Nat} {l : List UInt8} (hown : Own w base A c l)
    {A2 : Option Addr} {c2 : Nat} {l2 : List UInt8} (hb : Bytes w A2 l2) (hs : a.eval s = .slice A l.length c) (hx : a.eval x = .slice A2 l2.length c2) (hsum : l.length + l2.length ≤ 140737488355328) (hbase : base ≤ w.heap.size)
    (h : ∀ A' c' l' w', Hid (l' = l ++ l2) → Own w' base A' c' l' → w.grownBy w' (blk A) → (blk A' = blk A ∨ blk A' = some w.heap.size) → wpList P ops Q rest (a.put o.dst (.slice A' l'.length c')) w') : wpList P ops Q (o :: rest) a w :=
  wpList_plain hgd fun K hK => by
    obtain ⟨A', c', w', hr, h1, h2, h3⟩ := run_append_bytes bt w (ty := o.type) hown (c2 := c2) hb hsum hbase
    unfold Oper.wp execOp
    simp only [ho, resolve, invoke, builtin, Sem.run_bind, Sem.run_pure, Result.andThen_ok, List.map_toArray, List.map_cons, List.map_nil, hs, hx, hr]
    exact hK _ _ (h A' c' _ w' rfl h1 h2 h3)
theorem wpList_make_bytes (bt : ByteT P) {ops : Array Oper} {rest : List Oper} {o : Oper} {a : Act} {w : World} {Q : Exit → Act → World → Prop} (hgd : o.guard = none) (x y : Operand)
    (ho : o.op = Op.makeSlice 25 x y) {kl kc : IntKind} {C : Int} (n : Nat) (hl : a.eval x = .int kl 0) (hc : a.eval y = .int kc C) (hC : C = (n : Int)) (hn : n ≤ 281474976710656) (base : Nat) (hbase : base ≤ w.heap.size)
    (h : ∀ w', Own w' base (some ⟨w.heap.size, 0, none⟩) n [] → w.grownBy w' none → wpList P ops Q rest (a.put o.dst (.slice (some ⟨w.heap.size, 0, none⟩) 0 n)) w') : wpList P ops Q (o :: rest) a w := by
  obtain ⟨i, hi, hz, hs, hby⟩ := bt.info
  exact wpList_make_own w hgd x y 25 ho base 5 i (.int .u8 0) 1 bt.und hi hz hs kl kc C n hl hc hC (by rw [hby]; omega) (by unfold maxLen; omega) hbase h
end

/-! ### parts: a slice of slices of bytes -/
/-- the address A leads to slices that read as the parts ls -/
def Parts (w : World) (A : Option Addr) (ls : List (List UInt8)) : Prop :=
  ls ≠ [] → ∃ b o, A = some ⟨b, o, none⟩ ∧ ∀ j (h : j < ls.length), ∃ Aj cj, w.cell? ⟨b, o + j, none⟩ = some (.slice Aj ls[j].length cj) ∧ ls[j].length ≤ cj ∧ Bytes w Aj ls[j]
theorem Parts.nil (w : World) (A : Option Addr) : Parts w A [] := fun h => absurd rfl h
theorem Parts.at_ {w : World} {A : Option Addr} {ls : List (List UInt8)} (h : Parts w A ls) (k : Nat) (hk : k < ls.length) :
    ∃ b o Aj cj, A = some ⟨b, o, none⟩ ∧ w.cell? ⟨b, o + k, none⟩ = some (.slice Aj ls[k].length cj) ∧ ls[k].length ≤ cj ∧ Bytes w Aj ls[k] := by
  obtain ⟨b, o, hA, hc⟩ := h (by intro e; simp [e] at hk)
  obtain ⟨Aj, cj, h1, h2, h3⟩ := hc k hk
  exact ⟨b, o, Aj, cj, hA, h1, h2, h3⟩
/-- one part in a block of its own -/
theorem Parts.one {w : World} {A : Option Addr} {l : List UInt8} {n c g : Nat} {t : TypeId} (h : Bytes w A l) (hn : l.length = n) (hc : n ≤ c) (hg : w.heap.size = g) : Parts (w.alloc (.cells #[.slice A n c] t)) (some ⟨g, 0, none⟩) [l] := by
  subst hn
  subst hg
  intro _
  refine ⟨_, _, rfl, fun j hj => ?_⟩
  obtain rfl : j = 0 := by simpa using hj
  refine ⟨A, c, ?_, hc, h.alloc _⟩
  simp
/-- two parts -/
theorem Parts.two {w : World} {A A2 : Option Addr} {l l2 : List UInt8} {n c n2 c2 g : Nat} {t : TypeId} (h : Bytes w A l) (hn : l.length = n) (hc : n ≤ c) (h2 : Bytes w A2 l2) (hn2 : l2.length = n2) (hc2 : n2 ≤ c2) (hg : w.heap.size = g) :
    Parts (w.alloc (.cells #[.slice A n c, .slice A2 n2 c2] t)) (some ⟨g, 0, none⟩) [l, l2] := by
  subst hn
  subst hn2
  subst hg
  intro _
  refine ⟨_, _, rfl, fun j hj => ?_⟩
  match j, hj with
  | 0, _ => exact ⟨A, c, by simp, hc, h.alloc _⟩
  | 1, _ => exact ⟨A2, c2, by simp, hc2, h2.alloc _⟩

/-! ### small words -/
theorem take_succ' {α : Type} (l : List α) (k : Nat) (h : k < l.length) : l.take (k + 1) = l.take k ++ [l[k]] := by
  rw [List.take_succ_eq_append_getElem h]
theorem ret_int {k : IntKind} {a b : Int} (h : a = b) : Ending.returned (.int k a) = .returned (.int k b) := by rw [h]

end Go.Proofs.Ytldgnallbkpchaa
