/- Words of my own for memory and bits: bytes that a slice reads as; steps that only add. No function of the program. A region that draws its order, whose operations only add to the memory: a reading operation is taken as soon as it may come up. A region that draws its order, whose operations change the memory by a relation R alone: an operation that answers alike in all worlds that R reaches is taken as soon as it may come up. Closed facts on the types of this translation. Boxes: blocks that are known whole; what a call leaves of them. An append of bytes to a slice that was made empty: it only adds to the memory. -/
import Derived.Test.YtbccbfmgjeknhaaProg
import Derived.WalkKit
import Derived.WalkSpells
import Derived.WalkLawsBesides
import Derived.Laws.BitsAllLaws
import Derived.Maps.AppendAt
import Derived.Laws.CopyOwn
import Derived.Deep.Draws
import Derived.Lib.SlBytesConst
import Derived.Deep.RegionHeld3
import Derived.OrdersHeld
import Derived.Deep.RegionLawGrows
namespace Go.Proofs.Ytbccbfmgjeknhaa
open Go.RowKit

/-- a fact kept from the walk -/
theorem hide {p : Prop} (h : p) : Hid p := h

/-! ### bytes that a slice reads as -/
/-- a byte as a value -/
def u8 (c : UInt8) : Value := .int .u8 (c.toNat : Int)
theorem u8_lt (c : UInt8) : c.toNat < 256 := c.toNat_lt
/-- the address A leads to the bytes l -/
def Bytes (w : World) (A : Option Addr) (l : List UInt8) : Prop :=
  l ≠ [] → ∃ b o, A = some ⟨b, o, none⟩ ∧ ∀ j (h : j < l.length), w.cell? ⟨b, o + j, none⟩ = some (.int .u8 (l[j].toNat : Int))
theorem Bytes.nil (w : World) (A : Option Addr) : Bytes w A [] := fun h => absurd rfl h
/-- where the block is as it was, the bytes are -/
theorem Bytes.keep {w w' : World} {A : Option Addr} {l : List UInt8} (h : Bytes w A l) (hk : ∀ b o, A = some ⟨b, o, none⟩ → b < w.heap.size → w'.heap[b]? = w.heap[b]?) : Bytes w' A l := by
  intro hl
  obtain ⟨b, o, rfl, hc⟩ := h hl
  have h0 : 0 < l.length := List.length_pos_iff.2 hl
  have hb := World.block_lt_of_cell? w _ (hc 0 h0)
  refine ⟨b, o, rfl, fun j hj => ?_⟩
  rw [World.cell?_of_block (w := w) (hk b o rfl hb)]
  exact hc j hj
theorem Bytes.below {w w' : World} {A : Option Addr} {l : List UInt8} (h : Bytes w A l) (hb : Below w.heap.size w w') : Bytes w' A l := h.keep fun b _ _ hlt => hb.block b hlt
theorem Bytes.alloc {w : World} {A : Option Addr} {l : List UInt8} (h : Bytes w A l) (o : Obj) : Bytes (w.alloc o) A l := h.below ((Below.refl _ _).alloc (Nat.le_refl _) o)
theorem Bytes.drew {w : World} {A : Option Addr} {l : List UInt8} (h : Bytes w A l) : Bytes w.drew A l := h
theorem Bytes.at_ {w : World} {A : Option Addr} {l : List UInt8} (h : Bytes w A l) (k : Nat) (hk : k < l.length) : ∃ b o, A = some ⟨b, o, none⟩ ∧ w.cell? ⟨b, o + k, none⟩ = some (.int .u8 (l[k].toNat : Int)) := by
  obtain ⟨b, o, hA, hc⟩ := h (by intro e; simp [e] at hk)
  exact ⟨b, o, hA, hc k hk⟩
theorem Bytes.take {w : World} {A : Option Addr} {l : List UInt8} (h : Bytes w A l) (n : Nat) : Bytes w A (l.take n) := by
  intro hl
  obtain ⟨b, o, hA, hc⟩ := h (by rintro rfl; simp at hl)
  refine ⟨b, o, hA, fun j hj => ?_⟩
  rw [List.length_take] at hj
  rw [hc j (by omega), List.getElem_take]
/-- bytes that were laid as a literal -/
theorem Bytes.lit (w : World) (l : List UInt8) (cs : Array Value) (t : TypeId) (fr : Nat × Nat) (h : cs = (l.map u8).toArray) : Bytes (w.alloc (.cells cs t fr)) (some ⟨w.heap.size, 0, none⟩) l := by
  subst h
  intro _
  refine ⟨_, _, rfl, fun j hj => ?_⟩
  have : (w.alloc (.cells (l.map u8).toArray t fr)).heap[w.heap.size]? = some (.cells (l.map u8).toArray t fr) := heap_alloc_new w _
  simp only [World.cell?, this, Nat.zero_add]
  simp [hj, u8]
theorem byte_val (v : Int) (h0 : 0 ≤ v) (h1 : v < 256) : u8 (UInt8.ofNat v.toNat) = .int .u8 v := by
  unfold u8
  rw [UInt8.toNat_ofNat']
  congr 1
  omega
/-- one byte that was laid -/
theorem Bytes.one (w : World) (v : Int) (h0 : 0 ≤ v) (h1 : v < 256) {t : TypeId} {g : Nat} (hg : w.heap.size = g) : Bytes (w.alloc (.cells #[.int .u8 v] t)) (some ⟨g, 0, none⟩) [UInt8.ofNat v.toNat] := by
  subst hg
  exact Bytes.lit w _ _ t (0, 0) (by simp [byte_val v h0 h1])

/-! ### what a call owns -/
/-- the slice value at A, of length l and room c, owns the bytes l, in a block from base on -/
def Own (w : World) (base : Nat) (A : Option Addr) (c : Nat) (l : List UInt8) : Prop := w.ownsRow base 5 1 (.slice A l.length c) l.length (l.map u8)
theorem u8_map_get (l : List UInt8) (j : Nat) (h : j < l.length) : (l.map u8)[j]? = some (.int .u8 (l[j].toNat : Int)) := by
  rw [List.getElem?_map, List.getElem?_eq_getElem h]; rfl
theorem own_addr (g j : Nat) : (⟨g, 0, none⟩ : Addr).add j = ⟨g, j, none⟩ := by unfold Addr.add; split <;> simp_all
theorem Own.form {w : World} {base : Nat} {A : Option Addr} {c : Nat} {l : List UInt8} (h : Own w base A c l) :
    (A = none ∧ l = [] ∧ c = 0) ∨ ∃ g, A = some ⟨g, 0, none⟩ ∧ base ≤ g ∧ g < w.heap.size ∧ l.length ≤ c ∧ c ≤ maxLen := by
  rcases h.2 with ⟨hv, hn⟩ | ⟨g, cap, cur, hv, hb, hg, hnc, hcm, _⟩
  · injection hv with h1 h2 h3
    exact .inl ⟨h1, List.length_eq_zero_iff.1 hn, h3⟩
  · injection hv with h1 h2 h3
    subst h3
    exact .inr ⟨g, h1, hb, (Array.getElem?_eq_some_iff.1 hg).1, hnc, hcm⟩
theorem Own.le {w : World} {base : Nat} {A : Option Addr} {c : Nat} {l : List UInt8} (h : Own w base A c l) : l.length ≤ c ∧ c ≤ 9223372036854775807 := by
  rcases h.form with ⟨_, rfl, rfl⟩ | ⟨_, _, _, _, h1, h2⟩
  · exact ⟨Nat.le_refl _, Nat.zero_le _⟩
  · exact ⟨h1, h2⟩
theorem Own.bytes {w : World} {base : Nat} {A : Option Addr} {c : Nat} {l : List UInt8} (h : Own w base A c l) : Bytes w A l := by
  intro hl
  rcases h.form with ⟨_, rfl, _⟩ | ⟨g, rfl, _⟩
  · exact absurd rfl hl
  · refine ⟨g, 0, rfl, fun j hj => ?_⟩
    have := h.cells (g := g) rfl j _ (u8_map_get l j hj)
    rw [own_addr] at this
    rw [Nat.zero_add]
    exact this
theorem Own.nil_ (w : World) (base : Nat) : Own w base none 0 [] := World.ownsRow_nil w base _ _
theorem Own.made (w : World) {base : Nat} (cur : Array Value) (cap : Nat) (hb : base ≤ w.heap.size) (hm : cap ≤ maxLen) (hs : cur.size = cap) : Own (w.alloc (.cells cur 5)) base (some ⟨w.heap.size, 0, none⟩) cap [] :=
  World.ownsRow_made w cur cap hb hm (by rw [hs, Nat.mul_one])
/-- the block of an address -/
def blk (A : Option Addr) : Option Nat := A.map (·.block)
theorem blk_own (A : Option Addr) (n c : Nat) : (Value.slice A n c).ownBlock = blk A := by cases A <;> rfl
theorem Own.base {w : World} {base : Nat} {A : Option Addr} {c : Nat} {l : List UInt8} (h : Own w base A c l) {q : Nat} (hq : blk A = some q) : base ≤ q := by
  rcases h.form with ⟨rfl, _⟩ | ⟨g, rfl, hb, _⟩
  · cases hq
  · injection hq with hq; subst hq; exact hb
theorem Own.kept {w w' : World} {base : Nat} {A : Option Addr} {c : Nat} {l : List UInt8} (h : Own w base A c l) (hk : ∀ g, blk A = some g → w'.heap[g]? = w.heap[g]?) : Own w' base A c l := by
  refine ⟨h.1, ?_⟩
  rcases h.2 with hn | ⟨g, cap, cur, hv, hb, hg, r⟩
  · exact .inl hn
  · refine .inr ⟨g, cap, cur, hv, hb, ?_, r⟩
    injection hv with h1 h2 h3
    rw [hk g (by rw [h1]; rfl)]
    exact hg
theorem Own.mono {w : World} {base base' : Nat} {A : Option Addr} {c : Nat} {l : List UInt8} (h : Own w base A c l) (hb : base' ≤ base) : Own w base' A c l := by
  refine ⟨h.1, ?_⟩
  rcases h.2 with hn | ⟨g, cap, cur, hv, hb', r⟩
  · exact .inl hn
  · exact .inr ⟨g, cap, cur, hv, by omega, r⟩
theorem Own.below {w w' : World} {base : Nat} {A : Option Addr} {c : Nat} {l : List UInt8} (h : Own w base A c l) (hb : Below w.heap.size w w') : Own w' base A c l := by
  refine h.kept fun g hg => hb.block g ?_
  rcases h.form with ⟨rfl, _⟩ | ⟨g', rfl, _, hlt, _⟩
  · cases hg
  · injection hg with hg; subst hg; exact hlt
theorem Own.alloc {w : World} {base : Nat} {A : Option Addr} {c : Nat} {l : List UInt8} (h : Own w base A c l) (o : Obj) : Own (w.alloc o) base A c l := h.below ((Below.refl _ _).alloc (Nat.le_refl _) o)
theorem Own.drew {w : World} {base : Nat} {A : Option Addr} {c : Nat} {l : List UInt8} (h : Own w base A c l) : Own w.drew base A c l := h
theorem Own.lt {w : World} {base : Nat} {A : Option Addr} {c : Nat} {l : List UInt8} (h : Own w base A c l) {q : Nat} (hq : blk A = some q) : q < w.heap.size := by
  rcases h.form with ⟨rfl, _⟩ | ⟨g, rfl, _, hlt, _⟩
  · cases hq
  · injection hq with hq; subst hq; exact hlt
theorem Own.cell {w : World} {base g : Nat} {c : Nat} {l : List UInt8} (h : Own w base (some ⟨g, 0, none⟩) c l) (j : Nat) (hj : j < l.length) : w.cell? ⟨g, j, none⟩ = some (.int .u8 (l[j].toNat : Int)) := by
  rw [World.ownsRow.cellAt h j (by omega), u8_map_get l j hj]
theorem Own.frozen {w : World} {base g : Nat} {c : Nat} {l : List UInt8} (h : Own w base (some ⟨g, 0, none⟩) c l) (j : Nat) : w.frozen? ⟨g, j, none⟩ = false := World.ownsRow.frozenAt h j
theorem Own.set {w : World} {base g : Nat} {c : Nat} {l : List UInt8} (h : Own w base (some ⟨g, 0, none⟩) c l) (j : Nat) (x : UInt8) : Own (w.setCell ⟨g, j, none⟩ (u8 x)) base (some ⟨g, 0, none⟩) c (l.set j x) := by
  have := (World.ownsRow.stored h j (u8 x)).1
  unfold Own
  rw [List.length_set, List.map_set]
  exact this
theorem Own.grown {w w' : World} {base : Nat} {A : Option Addr} {c : Nat} {l : List UInt8} {row : Option Nat} (h : Own w base A c l) (hg : w.grownBy w' row) (hne : ∀ q, blk A = some q → row ≠ some q) : Own w' base A c l :=
  h.kept fun g hq => hg.block g (h.lt hq) (fun e => hne g hq e.symm)

/-- what a world that only grew holds: two rules for the walk -/
theorem grown_cell {W w1 : World} (hb : Below W.heap.size W w1) : (∀ b o, b < W.heap.size → w1.cell? ⟨b, o, none⟩ = W.cell? ⟨b, o, none⟩) ∧ (∀ b o, b < W.heap.size → w1.frozen? ⟨b, o, none⟩ = W.frozen? ⟨b, o, none⟩) :=
  ⟨fun b o h => hb.cell (p := ⟨b, o, none⟩) h, fun b o h => hb.frozen (p := ⟨b, o, none⟩) h⟩

/-! ### which old blocks are kept -/
/-- of the blocks below B those that are not in S are as they were -/
structure Kept (B : Nat) (S : List Nat) (w w' : World) : Prop where
  os : w'.os = w.os
  tape : w'.tape = w.tape
  output : w'.output = w.output
  size : w.heap.size ≤ w'.heap.size
  block : ∀ k, k < B → k ∉ S → w'.heap[k]? = w.heap[k]?
theorem Kept.refl (B : Nat) (S : List Nat) (w : World) : Kept B S w w := ⟨rfl, rfl, rfl, Nat.le_refl _, fun _ _ _ => rfl⟩
theorem Kept.trans {B : Nat} {S : List Nat} {a b c : World} (h : Kept B S a b) (k : Kept B S b c) : Kept B S a c :=
  ⟨k.os.trans h.os, k.tape.trans h.tape, k.output.trans h.output, Nat.le_trans h.size k.size, fun i hi hs => (k.block i hi hs).trans (h.block i hi hs)⟩
theorem Kept.mono {B B' : Nat} {S S' : List Nat} {a b : World} (h : Kept B S a b) (hB : B' ≤ B) (hS : ∀ k, k < B' → k ∈ S → k ∈ S') : Kept B' S' a b :=
  ⟨h.os, h.tape, h.output, h.size, fun i hi hs => h.block i (by omega) (fun e => hs (hS i hi e))⟩
theorem Kept.drew {B : Nat} {S : List Nat} {a b : World} (h : Kept B S a b) : Kept B S a b.drew := ⟨h.os, h.tape, h.output, h.size, h.block⟩
theorem Kept.drewN {B : Nat} {S : List Nat} {a b : World} (h : Kept B S a b) (n : Nat) : Kept B S a (b.drewN n) := ⟨h.os, h.tape, h.output, h.size, h.block⟩
theorem Kept.alloc {B : Nat} {S : List Nat} {a b : World} (h : Kept B S a b) (hB : B ≤ b.heap.size) (o : Obj) : Kept B S a (b.alloc o) :=
  h.trans ⟨rfl, rfl, rfl, by simp, fun k hk _ => Below.heap_alloc _ _ _ (by omega)⟩
theorem Kept.setCell {B : Nat} {S : List Nat} {a b : World} (h : Kept B S a b) {p : Addr} (hp : B ≤ p.block ∨ p.block ∈ S) (u : Value) : Kept B S a (b.setCell p u) :=
  h.trans ⟨rfl, rfl, rfl, by simp [World.setCell], fun k hk hs => Below.heap_setCell _ _ _ _ (by rintro rfl; rcases hp with hp | hp; omega; exact hs hp)⟩
theorem Kept.of_below {B : Nat} {a b : World} (h : Below B a b) (S : List Nat) : Kept B S a b := ⟨h.os, h.tape, h.output, h.size, fun k hk _ => h.block k hk⟩
theorem Kept.to_below {B : Nat} {a b : World} (h : Kept B [] a b) : Below B a b := ⟨h.os, h.tape, h.output, h.size, fun k hk => h.block k hk (by simp)⟩
theorem Kept.of_grown {a b : World} {row : Option Nat} (h : a.grownBy b row) : Kept a.heap.size row.toList a b :=
  ⟨h.os, h.tape, h.output, h.size, fun k hk hs => h.block k hk (by rintro rfl; simp at hs)⟩
theorem Kept.grown {B : Nat} {S : List Nat} {a b c : World} {row : Option Nat} (h : Kept B S a b) (hg : b.grownBy c row) (hB : B ≤ b.heap.size) (hr : ∀ k, row = some k → B ≤ k ∨ k ∈ S) : Kept B S a c :=
  h.trans ((Kept.of_grown hg).mono hB (fun k hk hm => by rcases hr k (by simpa using hm) with h1 | h1; omega; exact h1))

/-! ### growing alone; bytes as a string -/
/-- all that was there is as it was -/
def Grow (w w' : World) : Prop := Below w.heap.size w w'
theorem Grow.refl (w : World) : Grow w w := Below.refl _ _
theorem Grow.step {a b c : World} (h : Grow a b) (k : Below b.heap.size b c) : Grow a c := Below.trans h (k.mono h.size)
theorem Grow.alloc {a b : World} (h : Grow a b) (o : Obj) : Grow a (b.alloc o) := Below.alloc h h.size o
theorem Grow.drew {a b : World} (h : Grow a b) : Grow a b.drew := Below.drew h
theorem Grow.of_drew {a b : World} (h : Grow a.drew b) : Grow a b := ⟨h.os, h.tape, h.output, h.size, h.block⟩
theorem Bytes.grow {w w' : World} {A : Option Addr} {l : List UInt8} (h : Bytes w A l) (hb : Grow w w') : Bytes w' A l := h.below hb
theorem foldl_push (l : List UInt8) : ∀ (s : ByteArray), (l.map fun c => (c.toNat : Int)).foldl (fun r n => r.push (UInt8.ofNat n.toNat)) s = ⟨s.data ++ l.toArray⟩ := by
  induction l with
  | nil => intro s; simp
  | cons c l ih =>
    intro s
    rw [List.map_cons, List.foldl_cons, ih]
    have e : UInt8.ofNat (c.toNat : Int).toNat = c := by simp
    rw [e]
    show (⟨(s.data.push c) ++ l.toArray⟩ : ByteArray) = _
    congr 1
    apply Array.toList_inj.1
    simp
theorem run_conv_bytes {P : Program} {src e dst : TypeId} (hs : P.underlying src = some (.slice e)) (he : P.underlying e = some (.int .u8)) (hd : P.underlying dst = some .string) {w : World} {A : Option Addr} {l : List UInt8} (c : Nat) (hb : Bytes w A l) :
    (convert src dst (.slice A l.length c)).run P w = .ok (.string ⟨l.toArray⟩) w := by
  rw [run_convert_bytes_string w src dst e A l.length c hs he hd]
  cases A with
  | none =>
    have h2 : l = [] := by
      rcases List.eq_nil_or_concat l with h | ⟨_, _, hne⟩
      · exact h
      · obtain ⟨_, _, h, _⟩ := hb (by rw [hne]; simp)
        cases h
    subst h2
    simp [Conv.bytesToString]
    rfl
  | some ad =>
    have h := run_loadCells_list (P := P) w ad (l.map u8) (by
      intro j u hu
      have hj : j < l.length := by
        rcases Nat.lt_or_ge j l.length with h | h
        · exact h
        · rw [List.getElem?_eq_none (by simpa using h)] at hu; cases hu
      obtain ⟨b, o, hA, hc⟩ := hb.at_ j hj
      rw [u8_map_get l j hj] at hu
      injection hA with hA
      subst hA
      have e : (⟨b, o, none⟩ : Addr).add j = ⟨b, o + j, none⟩ := by unfold Addr.add; split <;> simp_all
      rw [e, hc, hu])
    rw [List.length_map] at h
    have h2 := run_bytesToString (P := P) w ad l.length c (l.map fun c => (c.toNat : Int)) (by rw [List.map_map]; exact h)
    rw [h2, foldl_push]
    simp

/-! ### variables whose cells are known -/
/-- the cells of block g from its head on -/
def Holds (w : World) (g : Nat) (cs : Array Value) : Prop := ∀ i, w.cell? ⟨g, i, none⟩ = cs[i]?
theorem Holds.lt {w : World} {g : Nat} {cs : Array Value} (h : Holds w g cs) (hs : 0 < cs.size) : g < w.heap.size :=
  World.block_lt_of_cell? w ⟨g, 0, none⟩ ((h 0).trans (Array.getElem?_eq_getElem hs))
theorem Holds.grow {w w' : World} {g : Nat} {cs : Array Value} (h : Holds w g cs) (hs : 0 < cs.size) (hb : Grow w w') : Holds w' g cs := fun i => (Below.cell (p := ⟨g, i, none⟩) hb (h.lt hs)).trans (h i)
theorem Holds.new (w : World) (cs : Array Value) (t : TypeId) (fr : Nat × Nat) {g : Nat} (hg : w.heap.size = g) : Holds (w.alloc (.cells cs t fr)) g cs := by
  subst hg
  intro i
  have : (w.alloc (.cells cs t fr)).heap[w.heap.size]? = some (.cells cs t fr) := heap_alloc_new w _
  simp only [World.cell?, this]
  rfl
theorem one_box (w : World) (cs : Array Value) (t : TypeId) : Holds (w.alloc (.cells cs t)) w.heap.size cs ∧ Grow w (w.alloc (.cells cs t)) := ⟨Holds.new w cs t _ rfl, (Grow.refl w).alloc _⟩
theorem two_boxes (w : World) (cs ds : Array Value) (t u : TypeId) (hs : 0 < cs.size) :
    Holds ((w.alloc (.cells cs t)).alloc (.cells ds u)) w.heap.size cs ∧ Holds ((w.alloc (.cells cs t)).alloc (.cells ds u)) (w.heap.size + 1) ds ∧ Grow w ((w.alloc (.cells cs t)).alloc (.cells ds u)) :=
  ⟨(Holds.new w cs t _ rfl).grow hs ((Grow.refl _).alloc _), Holds.new _ ds u _ (by simp), ((Grow.refl w).alloc _).alloc _⟩

/-! ### append of bytes to what is owned -/
/-- the facts on the type of bytes -/
structure ByteT (P : Program) : Prop where
  und : P.underlying 22 = some (.slice 5)
  info : ∃ i, P.info? 5 = some i ∧ i.zero = some (.int .u8 0) ∧ i.size = 1 ∧ i.bytes = 1
section
variable {P : Program}
theorem run_append_bytes (bt : ByteT P) (w : World) {base ty : Nat} {A : Option Addr} {c : Nat} {l : List UInt8} (hown : Own w base A c l)
    {A2 : Option Addr} {c2 : Nat} {l2 : List UInt8} (hb : Bytes w A2 l2) (hsum : l.length + l2.length ≤ 140737488355328) (hbase : base ≤ w.heap.size) :
    ∃ A' c' w', (Builtin.append_ #[22, 22] ty #[.slice A l.length c, .slice A2 l2.length c2]).run P w = .ok (.slice A' (l ++ l2).length c') w' ∧ Own w' base A' c' (l ++ l2) ∧ w.grownBy w' (blk A) ∧
      (blk A' = blk A ∨ blk A' = some w.heap.size) := by
  obtain ⟨i, hi, hz, hs, hby⟩ := bt.info
  cases A2 with
  | none =>
    have h2 : l2 = [] := by
      rcases List.eq_nil_or_concat l2 with h | ⟨_, _, hne⟩
      · exact h
      · obtain ⟨_, _, h, _⟩ := hb (by rw [hne]; simp)
        cases h
    subst h2
    refine ⟨A, c, w, ?_, by simpa using hown, ⟨rfl, rfl, rfl, Nat.le_refl _, fun _ _ _ => rfl⟩, .inl rfl⟩
    have hle := hown.le.1
    cases A with
    | none => rcases hown.form with ⟨_, rfl, rfl⟩ | ⟨g, hg, _⟩
              · simp [Builtin.append_, run_underlying bt.und, sizeOf, typeInfo, hi, Builtin.lenOf, Builtin.firstCells]
              · cases hg
    | some ad => simp [Builtin.append_, run_underlying bt.und, sizeOf, typeInfo, hi, Builtin.lenOf, Builtin.firstCells, hle, storeCells]
  | some ad =>
    have hnews : ∀ j u, (l2.map u8)[j]? = some u → w.cell? (ad.add j) = some u := by
      intro j u hu
      have hj : j < l2.length := by
        rcases Nat.lt_or_ge j l2.length with h | h
        · exact h
        · rw [List.getElem?_eq_none (by simpa using h)] at hu; cases hu
      obtain ⟨b, o, hA, hc⟩ := hb.at_ j hj
      rw [u8_map_get l2 j hj] at hu
      injection hA with hA
      subst hA
      have e : (⟨b, o, none⟩ : Addr).add j = ⟨b, o + j, none⟩ := by unfold Addr.add; split <;> simp_all
      rw [e, hc, hu]
    obtain ⟨v', w', hr, h2, h3, h4, h5⟩ := run_append_own_at (P := P) w base 22 ty 5 i (.int .u8 0) 1 1 bt.und hi hz hs hby rfl (by omega) (.slice A l.length c) l.length (l.map u8) hown
      ad l2.length c2 (l2.map u8) (by simp) hnews (by intro u hu; simp only [List.mem_map] at hu; obtain ⟨x, _, rfl⟩ := hu; rfl) (by unfold maxLen; omega) (by omega) hbase
    rw [blk_own] at h3 h5
    rcases h2.2 with ⟨hv, hn⟩ | ⟨g, cap, cur, hv, r⟩
    · subst hv
      refine ⟨none, 0, w', ?_, ?_, h3, h5⟩
      · rw [hr, List.length_append, hn]
      · unfold Own; rw [List.length_append, List.map_append, hn]; rw [hn] at h2; exact h2
    · subst hv
      refine ⟨some ⟨g, 0, none⟩, cap, w', ?_, ?_, h3, h5⟩
      · rw [hr, List.length_append]
      · unfold Own; rw [List.length_append, List.map_append]; exact h2
theorem wpList_append_bytes (bt : ByteT P) {ops : Array Oper} {rest : List Oper} {o : Oper} {a : Act} {w : World} {Q : Exit → Act → World → Prop} (hgd : o.guard = none) (s x : Operand)
    (ho : o.op = .call { callee := .builtin .append, args := #[s, x], argTypes := #[22, 22] }) {base : Nat} {A : Option Addr} {c : Nat} {l : List UInt8} (hown : Own w base A c l)
    {A2 : Option Addr} {c2 : Nat} {l2 : List UInt8} (hb : Bytes w A2 l2) (hs : a.eval s = .slice A l.length c) (hx : a.eval x = .slice A2 l2.length c2) (hsum : l.length + l2.length ≤ 140737488355328) (hbase : base ≤ w.heap.size)
    (h : ∀ A' c' l' w', Hid (l' = l ++ l2) → Own w' base A' c' l' → w.grownBy w' (blk A) → (blk A' = blk A ∨ blk A' = some w.heap.size) → wpList P ops Q rest (a.put o.dst (.slice A' l'.length c')) w') : wpList P ops Q (o :: rest) a w :=
  wpList_plain hgd fun K hK => by
    obtain ⟨A', c', w', hr, h1, h2, h3⟩ := run_append_bytes bt w (ty := o.type) hown (c2 := c2) hb hsum hbase
    unfold Oper.wp execOp
    simp only [ho, resolve, invoke, builtin, Sem.run_bind, Sem.run_pure, Result.andThen_ok, List.map_toArray, List.map_cons, List.map_nil, hs, hx, hr]
    exact hK _ _ (h A' c' _ w' rfl h1 h2 h3)
theorem wpList_make_bytes (bt : ByteT P) {ops : Array Oper} {rest : List Oper} {o : Oper} {a : Act} {w : World} {Q : Exit → Act → World → Prop} (hgd : o.guard = none) (x y : Operand)
    (ho : o.op = Op.makeSlice 22 x y) {kl kc : IntKind} {C : Int} (n : Nat) (hl : a.eval x = .int kl 0) (hc : a.eval y = .int kc C) (hC : C = (n : Int)) (hn : n ≤ 281474976710656) (base : Nat) (hbase : base ≤ w.heap.size)
    (h : ∀ w', Own w' base (some ⟨w.heap.size, 0, none⟩) n [] → w.grownBy w' none → wpList P ops Q rest (a.put o.dst (.slice (some ⟨w.heap.size, 0, none⟩) 0 n)) w') : wpList P ops Q (o :: rest) a w := by
  obtain ⟨i, hi, hz, hs, hby⟩ := bt.info
  exact wpList_make_own w hgd x y 22 ho base 5 i (.int .u8 0) 1 bt.und hi hz hs kl kc C n hl hc hC (by rw [hby]; omega) (by unfold maxLen; omega) hbase h
end

/-! ### parts: a slice of slices of bytes -/
/-- the address A leads to slices that read as the parts ls -/
def Parts (w : World) (A : Option Addr) (ls : List (List UInt8)) : Prop :=
  ls ≠ [] → ∃ b o, A = some ⟨b, o, none⟩ ∧ ∀ j (h : j < ls.length), ∃ Aj cj, w.cell? ⟨b, o + j, none⟩ = some (.slice Aj ls[j].length cj) ∧ ls[j].length ≤ cj ∧ Bytes w Aj ls[j]
theorem Parts.nil (w : World) (A : Option Addr) : Parts w A [] := fun h => absurd rfl h
theorem Parts.at_ {w : World} {A : Option Addr} {ls : List (List UInt8)} (h : Parts w A ls) (k : Nat) (hk : k < ls.length) :
    ∃ b o Aj cj, A = some ⟨b, o, none⟩ ∧ w.cell? ⟨b, o + k, none⟩ = some (.slice Aj ls[k].length cj) ∧ ls[k].length ≤ cj ∧ Bytes w Aj ls[k] := by
  obtain ⟨b, o, hA, hc⟩ := h (by intro e; simp [e] at hk)
  obtain ⟨Aj, cj, h1, h2, h3⟩ := hc k hk
  exact ⟨b, o, Aj, cj, hA, h1, h2, h3⟩
/-- one part in a block of its own -/
theorem Parts.one {w : World} {A : Option Addr} {l : List UInt8} {n c g : Nat} {t : TypeId} (h : Bytes w A l) (hn : l.length = n) (hc : n ≤ c) (hg : w.heap.size = g) : Parts (w.alloc (.cells #[.slice A n c] t)) (some ⟨g, 0, none⟩) [l] := by
  subst hn
  subst hg
  intro _
  refine ⟨_, _, rfl, fun j hj => ?_⟩
  obtain rfl : j = 0 := by simpa using hj
  refine ⟨A, c, ?_, hc, h.alloc _⟩
  simp
/-- two parts -/
theorem Parts.two {w : World} {A A2 : Option Addr} {l l2 : List UInt8} {n c n2 c2 g : Nat} {t : TypeId} (h : Bytes w A l) (hn : l.length = n) (hc : n ≤ c) (h2 : Bytes w A2 l2) (hn2 : l2.length = n2) (hc2 : n2 ≤ c2) (hg : w.heap.size = g) :
    Parts (w.alloc (.cells #[.slice A n c, .slice A2 n2 c2] t)) (some ⟨g, 0, none⟩) [l, l2] := by
  subst hn
  subst hn2
  subst hg
  intro _
  refine ⟨_, _, rfl, fun j hj => ?_⟩
  match j, hj with
  | 0, _ => exact ⟨A, c, by simp, hc, h.alloc _⟩
  | 1, _ => exact ⟨A2, c2, by simp, hc2, h2.alloc _⟩

/-! ### small words -/
theorem take_succ' {α : Type} (l : List α) (k : Nat) (h : k < l.length) : l.take (k + 1) = l.take k ++ [l[k]] := by
  rw [List.take_succ_eq_append_getElem h]
theorem ret_int {k : IntKind} {a b : Int} (h : a = b) : Ending.returned (.int k a) = .returned (.int k b) := by rw [h]

end Go.Proofs.Ytbccbfmgjeknhaa
namespace Go.Proofs.Ytbccbfmgjeknhaa
open Go.RowKit
theorem Grow.trans {a b c : World} (h : Grow a b) (k : Grow b c) : Grow a c := Grow.step h k
section
variable {P : Program} {ops : Array Oper} {Q : Exit → Act → World → Prop}
/-- whatever order is picked from here on, and each step only adds to the memory -/
def wpAnyG (P : Program) (ops : Array Oper) (Q : Exit → Act → World → Prop) : Nat → Array Bool → Act → World → Prop
  | 0, listed, a, w => Region.ready .any ops listed = [] ∧ Q .normal a w
  | fuel + 1, listed, a, w =>
    (Region.ready .any ops listed = [] → Q .normal a w) ∧
    ∀ i ∈ Region.ready .any ops listed, wpOp P ops Q i (fun a' w' => Grow w w' ∧ wpAnyG P ops Q fuel (listed.setIfInBounds i true) a' w') a w
theorem wpAny_of_G : ∀ (fuel : Nat) (listed : Array Bool) (a : Act) (w : World), wpAnyG P ops Q fuel listed a w → wpAny P .any ops Q fuel listed a w
  | 0, _, _, _, h => h
  | fuel + 1, _, _, _, h => ⟨h.1, fun i hi => wpOp_mono (fun a' w' h' => wpAny_of_G fuel _ a' w' h'.2) (h.2 i hi)⟩
theorem wpAnyG_first {i : Nat} {oi : Oper} {v : Value} (hi : ops[i]? = some oi) (hsel : ∀ (j : Nat) (o : Oper) cs b, ops[j]? = some o → o.op ≠ .select cs b)
    (hQ : ∀ c a w, Q (.panic c) (a.put oi.dst v) w → Q (.panic c) a w) (w0 : World) :
    ∀ (fuel : Nat) (listed : Array Bool) (a : Act) (w : World),
      (∀ j oj, ops[j]? = some oj → j ≠ i → listed.getD j true = false → (∀ e ∈ oj.after, Region.binds .any e = true → e.on ≠ i) → oi.apart ops oj = true) →
      i ∈ Region.ready .any ops listed → YieldsIf P ops (Grow w0) oi v a → Grow w0 w →
      wpAnyG P ops Q fuel (listed.setIfInBounds i true) (a.put oi.dst v) w → wpAnyG P ops Q (fuel + 1) listed a w := by
  intro fuel
  induction fuel with
  | zero =>
    intro listed a w _ hr hy hS H
    refine ⟨fun h => (by rw [h] at hr; cases hr), fun j hj => ?_⟩
    by_cases hji : j = i
    · subst hji; exact hy.wpOp hi hS ⟨Grow.refl _, H⟩
    · have := ready_mono hj hji
      rw [H.1] at this
      cases this
  | succ fuel ih =>
    intro listed a w hfree hr hy hS H
    refine ⟨fun h => (by rw [h] at hr; cases hr), fun j hj => ?_⟩
    by_cases hji : j = i
    · subst hji; exact hy.wpOp hi hS ⟨Grow.refl _, H⟩
    · have h1 := H.2 j (ready_mono hj hji)
      obtain ⟨hjun, oj, hoj, hall⟩ := mem_ready.1 hj
      have hnot : ∀ e ∈ oj.after, Region.binds .any e = true → e.on ≠ i := fun e he hb heq => by
        have h1 := hall e he hb
        have h0 := (mem_ready.1 hr).1
        rw [heq] at h1
        rcases Nat.lt_or_ge i listed.size with h' | h'
        · simp [h'] at h0 h1; rw [h0] at h1; cases h1
        · simp [Array.getElem?_eq_none h'] at h1
      have h2 := wpOp_putIf hoj (hfree j oj hoj hji hjun hnot) (fun cs b => hsel i oi cs b hi) (fun cs b => hsel j oj cs b hoj) hQ hy h1
      have hfree' : ∀ k ok, ops[k]? = some ok → k ≠ i → (listed.setIfInBounds j true).getD k true = false →
          (∀ e ∈ ok.after, Region.binds .any e = true → e.on ≠ i) → oi.apart ops ok = true := fun k ok hk hki hun hno => by
        refine hfree k ok hk hki ?_ hno
        by_cases hjk : j = k
        · subst hjk; exact hjun
        · rw [getD_set_ne true hjk] at hun; exact hun
      refine wpOp_mono (fun a' w' h3 => ⟨h3.2.1, ih (listed.setIfInBounds j true) a' w' hfree' (ready_mono hr (Ne.symm hji)) h3.1 (hS.trans h3.2.1) ?_⟩) h2
      rw [Array.setIfInBounds_comm _ _ hji]
      exact h3.2.2
end
section
variable {P : Program} {l : List Oper} {Q : Exit → Act → World → Prop}
theorem drop_get {i : Nat} {oi : Oper} {rest : List Oper} (hi : l.drop i = oi :: rest) : l.toArray[i]? = some oi := by
  rw [List.getElem?_toArray]
  have := congrArg (·[0]?) hi
  simpa [List.getElem?_drop] using this
/-- the beginning -/
theorem wpG_region {id : Nat} {a : Act} {w : World} (hm : P.follows .mixedOrders = true) (h : wpAnyG P l.toArray Q l.length (Array.replicate l.length false) a w.drew) : (Code.region id l.toArray true).wp P Q a w :=
  wp_region_any hm (wpAny_of_G _ _ _ _ h)
/-- a reading operation is taken -/
theorem wpG_take (i : Nat) {oi : Oper} {rest : List Oper} {v : Value} {fuel : Nat} {listed : Array Bool} {a : Act} {w : World} (hi : l.drop i = oi :: rest)
    (hs : (Region.noSelect l.toArray && Region.free .any l.toArray listed i && (Region.ready .any l.toArray listed).contains i) = true)
    (hQ : ∀ c a w, Q (.panic c) (a.put oi.dst v) w → Q (.panic c) a w) (hw : Region.wanted oi (yielded l.toArray a.tmps) = true) (hy : ∀ w', Grow w w' → (execOp a.eval oi).run P w' = .ok (.value v) w')
    (h : wpAnyG P l.toArray Q fuel (listed.setIfInBounds i true) (a.put oi.dst v) w) : wpAnyG P l.toArray Q (fuel + 1) listed a w := by
  simp only [Bool.and_eq_true] at hs
  exact wpAnyG_first (drop_get hi) (Region.noSelect_spec hs.1.1) hQ w fuel listed a w (Region.free_spec (drop_get hi) hs.1.2) (by simpa using hs.2) (.inl ⟨hw, hy⟩) (Grow.refl w) h
/-- one whose guard says no -/
theorem wpG_skip (i : Nat) {oi : Oper} {rest : List Oper} {fuel : Nat} {listed : Array Bool} {a : Act} {w : World} (hi : l.drop i = oi :: rest)
    (hs : (Region.noSelect l.toArray && Region.free .any l.toArray listed i && (Region.ready .any l.toArray listed).contains i) = true)
    (hQ : ∀ c a w, Q (.panic c) (a.put oi.dst undef) w → Q (.panic c) a w) (hw : Region.wanted oi (yielded l.toArray a.tmps) = false)
    (h : wpAnyG P l.toArray Q fuel (listed.setIfInBounds i true) (a.put oi.dst undef) w) : wpAnyG P l.toArray Q (fuel + 1) listed a w := by
  simp only [Bool.and_eq_true] at hs
  exact wpAnyG_first (drop_get hi) (Region.noSelect_spec hs.1.1) hQ w fuel listed a w (Region.free_spec (drop_get hi) hs.1.2) (by simpa using hs.2) (.inr ⟨hw, rfl⟩) (Grow.refl w) h
/-- one that may add to the memory: it is the only one that may come up -/
theorem wpG_call (i : Nat) {oi : Oper} {rest : List Oper} {fuel : Nat} {listed : Array Bool} {a : Act} {w : World} (hi : l.drop i = oi :: rest) (hr : Region.ready .any l.toArray listed = [i])
    (hw : Region.wanted oi (yielded l.toArray a.tmps) = true)
    (h : ∀ K, Hid (∀ a' w', Grow w w' → wpAnyG P l.toArray Q fuel (listed.setIfInBounds i true) a' w' → K a' w') → oi.wp P a w K Q) : wpAnyG P l.toArray Q (fuel + 1) listed a w := by
  refine ⟨fun h0 => (by rw [hr] at h0; cases h0), fun j hj => ?_⟩
  rw [hr] at hj
  obtain rfl : j = i := by simpa using hj
  unfold wpOp
  rw [drop_get hi]
  simp only [hw, if_true]
  exact .inl (h _ (fun a' w' hg hk => ⟨hg, hk⟩))
/-- all have come up -/
theorem wpG_done {listed : Array Bool} {a : Act} {w : World} (hr : Region.ready .any l.toArray listed = []) (h : Q .normal a w) : ∀ fuel, wpAnyG P l.toArray Q fuel listed a w
  | 0 => ⟨hr, h⟩
  | _ + 1 => ⟨fun _ => h, by rw [hr]; simp⟩
end
end Go.Proofs.Ytbccbfmgjeknhaa
namespace Go.Proofs.Ytbccbfmgjeknhaa
open Go.RowKit
section
variable {R : World → World → Prop} {W : List Nat} {P : Program} {ops : Array Oper} {Q : Exit → Act → World → Prop}
/-- whatever order is picked from here on, and each step only adds to the memory -/
def wpAnyR (R : World → World → Prop) (W : List Nat) (P : Program) (ops : Array Oper) (Q : Exit → Act → World → Prop) : Nat → Array Bool → Act → World → Prop
  | 0, listed, a, w => Region.ready .any ops listed = [] ∧ Q .normal a w
  | fuel + 1, listed, a, w =>
    (Region.ready .any ops listed = [] → Q .normal a w) ∧
    ∀ i ∈ Region.ready .any ops listed, wpOp P ops Q i (fun a' w' => (i ∈ W ∨ R w w') ∧ wpAnyR R W P ops Q fuel (listed.setIfInBounds i true) a' w') a w
theorem wpAny_of_R : ∀ (fuel : Nat) (listed : Array Bool) (a : Act) (w : World), wpAnyR R W P ops Q fuel listed a w → wpAny P .any ops Q fuel listed a w
  | 0, _, _, _, h => h
  | fuel + 1, _, _, _, h => ⟨h.1, fun i hi => wpOp_mono (fun a' w' h' => wpAny_of_R fuel _ a' w' h'.2) (h.2 i hi)⟩
theorem wpAnyR_first (hrf : ∀ w, R w w) (htr : ∀ a b c, R a b → R b c → R a c) {i : Nat} {oi : Oper} {v : Value} (hi : ops[i]? = some oi) (hsel : ∀ (j : Nat) (o : Oper) cs b, ops[j]? = some o → o.op ≠ .select cs b)
    (hQ : ∀ c a w, Q (.panic c) (a.put oi.dst v) w → Q (.panic c) a w) (w0 : World) :
    ∀ (fuel : Nat) (listed : Array Bool) (a : Act) (w : World),
      (∀ j oj, ops[j]? = some oj → j ≠ i → listed.getD j true = false → (∀ e ∈ oj.after, Region.binds .any e = true → e.on ≠ i) → oi.apart ops oj = true) →
      (∀ j oj, ops[j]? = some oj → j ∈ W → j ≠ i → listed.getD j true = false → ∃ e ∈ oj.after, Region.binds .any e = true ∧ e.on = i) →
      i ∈ Region.ready .any ops listed → YieldsIf P ops (R w0) oi v a → R w0 w →
      wpAnyR R W P ops Q fuel (listed.setIfInBounds i true) (a.put oi.dst v) w → wpAnyR R W P ops Q (fuel + 1) listed a w := by
  intro fuel
  induction fuel with
  | zero =>
    intro listed a w _ _ hr hy hS H
    refine ⟨fun h => (by rw [h] at hr; cases hr), fun j hj => ?_⟩
    by_cases hji : j = i
    · subst hji; exact hy.wpOp hi hS ⟨.inr (hrf _), H⟩
    · have := ready_mono hj hji
      rw [H.1] at this
      cases this
  | succ fuel ih =>
    intro listed a w hfree hwt hr hy hS H
    refine ⟨fun h => (by rw [h] at hr; cases hr), fun j hj => ?_⟩
    by_cases hji : j = i
    · subst hji; exact hy.wpOp hi hS ⟨.inr (hrf _), H⟩
    · have h1 := H.2 j (ready_mono hj hji)
      obtain ⟨hjun, oj, hoj, hall⟩ := mem_ready.1 hj
      have hnot : ∀ e ∈ oj.after, Region.binds .any e = true → e.on ≠ i := fun e he hb heq => by
        have h1 := hall e he hb
        have h0 := (mem_ready.1 hr).1
        rw [heq] at h1
        rcases Nat.lt_or_ge i listed.size with h' | h'
        · simp [h'] at h0 h1; rw [h0] at h1; cases h1
        · simp [Array.getElem?_eq_none h'] at h1
      have h2 := wpOp_putIf hoj (hfree j oj hoj hji hjun hnot) (fun cs b => hsel i oi cs b hi) (fun cs b => hsel j oj cs b hoj) hQ hy h1
      have hfree' : ∀ k ok, ops[k]? = some ok → k ≠ i → (listed.setIfInBounds j true).getD k true = false →
          (∀ e ∈ ok.after, Region.binds .any e = true → e.on ≠ i) → oi.apart ops ok = true := fun k ok hk hki hun hno => by
        refine hfree k ok hk hki ?_ hno
        by_cases hjk : j = k
        · subst hjk; exact hjun
        · rw [getD_set_ne true hjk] at hun; exact hun
      have hjw : j ∉ W := fun hjW => by
        obtain ⟨e, he, hb, ho⟩ := hwt j oj hoj hjW hji hjun
        exact hnot e he hb ho
      have hwt' : ∀ k ok, ops[k]? = some ok → k ∈ W → k ≠ i → (listed.setIfInBounds j true).getD k true = false → ∃ e ∈ ok.after, Region.binds .any e = true ∧ e.on = i := fun k ok hk hkW hki hun => by
        refine hwt k ok hk hkW hki ?_
        by_cases hjk : j = k
        · subst hjk; exact hjun
        · rw [getD_set_ne true hjk] at hun; exact hun
      refine wpOp_mono (fun a' w' h3 => ⟨h3.2.1, ih (listed.setIfInBounds j true) a' w' hfree' hwt' (ready_mono hr (Ne.symm hji)) h3.1 (htr _ _ _ hS (h3.2.1.resolve_left hjw)) ?_⟩) h2
      rw [Array.setIfInBounds_comm _ _ hji]
      exact h3.2.2
end
section
variable {R : World → World → Prop} {W : List Nat} {P : Program} {l : List Oper} {Q : Exit → Act → World → Prop}
theorem drop_get' {i : Nat} {oi : Oper} {rest : List Oper} (hi : l.drop i = oi :: rest) : l.toArray[i]? = some oi := by
  rw [List.getElem?_toArray]
  have := congrArg (·[0]?) hi
  simpa [List.getElem?_drop] using this
/-- the writing operations that are still to come wait for i -/
def waitB (W : List Nat) (ops : Array Oper) (listed : Array Bool) (i : Nat) : Bool :=
  W.all fun j => j == i || listed.getD j true || (match ops[j]? with | some oj => oj.after.any (fun e => Region.binds .any e && e.on == i) | none => true)
theorem waitB_spec {ops : Array Oper} {listed : Array Bool} {i : Nat} (h : waitB W ops listed i = true) :
    ∀ j oj, ops[j]? = some oj → j ∈ W → j ≠ i → listed.getD j true = false → ∃ e ∈ oj.after, Region.binds .any e = true ∧ e.on = i := by
  intro j oj hoj hjW hji hun
  have h1 := List.all_eq_true.1 h j hjW
  rw [hoj, hun] at h1
  simp only [beq_eq_false_iff_ne.2 hji, Bool.false_or] at h1
  obtain ⟨e, he, hb⟩ := Array.any_eq_true'.1 h1
  simp only [Bool.and_eq_true, beq_iff_eq] at hb
  exact ⟨e, he, hb.1, hb.2⟩
/-- the beginning -/
theorem wpR_region (R : World → World → Prop) (W : List Nat) {id : Nat} {a : Act} {w : World} (hm : P.follows .mixedOrders = true) (h : wpAnyR R W P l.toArray Q l.length (Array.replicate l.length false) a w.drew) : (Code.region id l.toArray true).wp P Q a w :=
  wp_region_any hm (wpAny_of_R (R := R) (W := W) _ _ _ _ h)
/-- a reading operation is taken -/
theorem wpR_take (hrf : ∀ w, R w w) (htr : ∀ a b c, R a b → R b c → R a c) (i : Nat) {oi : Oper} {rest : List Oper} {v : Value} {fuel : Nat} {listed : Array Bool} {a : Act} {w : World} (hi : l.drop i = oi :: rest)
    (hs : (Region.noSelect l.toArray && Region.free .any l.toArray listed i && (Region.ready .any l.toArray listed).contains i && waitB W l.toArray listed i) = true)
    (hQ : ∀ c a w, Q (.panic c) (a.put oi.dst v) w → Q (.panic c) a w) (hw : Region.wanted oi (yielded l.toArray a.tmps) = true) (hy : ∀ w', R w w' → (execOp a.eval oi).run P w' = .ok (.value v) w')
    (h : wpAnyR R W P l.toArray Q fuel (listed.setIfInBounds i true) (a.put oi.dst v) w) : wpAnyR R W P l.toArray Q (fuel + 1) listed a w := by
  simp only [Bool.and_eq_true] at hs
  exact wpAnyR_first hrf htr (drop_get' hi) (Region.noSelect_spec hs.1.1.1) hQ w fuel listed a w (Region.free_spec (drop_get' hi) hs.1.1.2) (waitB_spec hs.2) (by simpa using hs.1.2) (.inl ⟨hw, hy⟩) (hrf w) h
/-- one whose guard says no -/
theorem wpR_skip (hrf : ∀ w, R w w) (htr : ∀ a b c, R a b → R b c → R a c) (i : Nat) {oi : Oper} {rest : List Oper} {fuel : Nat} {listed : Array Bool} {a : Act} {w : World} (hi : l.drop i = oi :: rest)
    (hs : (Region.noSelect l.toArray && Region.free .any l.toArray listed i && (Region.ready .any l.toArray listed).contains i && waitB W l.toArray listed i) = true)
    (hQ : ∀ c a w, Q (.panic c) (a.put oi.dst undef) w → Q (.panic c) a w) (hw : Region.wanted oi (yielded l.toArray a.tmps) = false)
    (h : wpAnyR R W P l.toArray Q fuel (listed.setIfInBounds i true) (a.put oi.dst undef) w) : wpAnyR R W P l.toArray Q (fuel + 1) listed a w := by
  simp only [Bool.and_eq_true] at hs
  exact wpAnyR_first hrf htr (drop_get' hi) (Region.noSelect_spec hs.1.1.1) hQ w fuel listed a w (Region.free_spec (drop_get' hi) hs.1.1.2) (waitB_spec hs.2) (by simpa using hs.1.2) (.inr ⟨hw, rfl⟩) (hrf w) h
/-- one that may change the memory: it is the only one that may come up -/
theorem wpR_call (i : Nat) {oi : Oper} {rest : List Oper} {fuel : Nat} {listed : Array Bool} {a : Act} {w : World} (hi : l.drop i = oi :: rest) (hr : Region.ready .any l.toArray listed = [i])
    (hw : Region.wanted oi (yielded l.toArray a.tmps) = true)
    (h : ∀ K, Hid (∀ a' w', i ∈ W ∨ R w w' → wpAnyR R W P l.toArray Q fuel (listed.setIfInBounds i true) a' w' → K a' w') → oi.wp P a w K Q) : wpAnyR R W P l.toArray Q (fuel + 1) listed a w := by
  refine ⟨fun h0 => (by rw [hr] at h0; cases h0), fun j hj => ?_⟩
  rw [hr] at hj
  obtain rfl : j = i := by simpa using hj
  unfold wpOp
  rw [drop_get' hi]
  simp only [hw, if_true]
  exact .inl (h _ (fun a' w' hg hk => ⟨hg, hk⟩))
/-- all have come up -/
theorem wpR_done {listed : Array Bool} {a : Act} {w : World} (hr : Region.ready .any l.toArray listed = []) (h : Q .normal a w) : ∀ fuel, wpAnyR R W P l.toArray Q fuel listed a w
  | 0 => ⟨hr, h⟩
  | _ + 1 => ⟨fun _ => h, by rw [hr]; simp⟩
end
section
variable {R : World → World → Prop} {W : List Nat} {P : Program} {l : List Oper} {Q : Exit → Act → World → Prop}
/-- two that may change the memory may come up: each is walked -/
theorem wpR_two (i j : Nat) {oi oj : Oper} {ri rj : List Oper} {fuel : Nat} {listed : Array Bool} {a : Act} {w : World} (hi : l.drop i = oi :: ri) (hj : l.drop j = oj :: rj) (hr : Region.ready .any l.toArray listed = [i, j])
    (hwi : Region.wanted oi (yielded l.toArray a.tmps) = true) (hwj : Region.wanted oj (yielded l.toArray a.tmps) = true)
    (h1 : ∀ K, Hid (∀ a' w', i ∈ W ∨ R w w' → wpAnyR R W P l.toArray Q fuel (listed.setIfInBounds i true) a' w' → K a' w') → oi.wp P a w K Q)
    (h2 : ∀ K, Hid (∀ a' w', j ∈ W ∨ R w w' → wpAnyR R W P l.toArray Q fuel (listed.setIfInBounds j true) a' w' → K a' w') → oj.wp P a w K Q) : wpAnyR R W P l.toArray Q (fuel + 1) listed a w := by
  refine ⟨fun h0 => (by rw [hr] at h0; cases h0), fun k hk => ?_⟩
  rw [hr] at hk
  rcases List.mem_cons.1 hk with rfl | hk
  · unfold wpOp
    rw [drop_get' hi]
    simp only [hwi, if_true]
    exact .inl (h1 _ (fun a' w' hg hk => ⟨hg, hk⟩))
  · obtain rfl : k = j := by simpa using hk
    unfold wpOp
    rw [drop_get' hj]
    simp only [hwj, if_true]
    exact .inl (h2 _ (fun a' w' hg hk => ⟨hg, hk⟩))
end
theorem grow_rf : ∀ w, Grow w w := Grow.refl
theorem grow_tr : ∀ a b c, Grow a b → Grow b c → Grow a c := fun _ _ _ => Grow.trans
end Go.Proofs.Ytbccbfmgjeknhaa
namespace Go.Proofs.Ytbccbfmgjeknhaa
theorem byteInfo : (Try.prog.info? 5).map (fun i => (i.zero, i.size, i.bytes)) = some (some (.int .u8 0), 1, 1) := by kernel_rfl
theorem byteT : ByteT Try.prog := ⟨Try.underlying22, info_parts byteInfo⟩
end Go.Proofs.Ytbccbfmgjeknhaa
namespace Go.Proofs.Ytbccbfmgjeknhaa
open Go.RowKit
theorem Grow.of_eq {w w' : World} (h : w = w') : Grow w w' := h ▸ Grow.refl w
/-- block g is known whole -/
def Box (w : World) (g : Nat) (cs : Array Value) : Prop := ∃ t, w.heap[g]? = some (.cells cs t (0, 0))
section
variable {w w' : World} {g : Nat} {cs : Array Value}
theorem Box.lt (h : Box w g cs) : g < w.heap.size := by obtain ⟨t, h⟩ := h; exact (Array.getElem?_eq_some_iff.1 h).1
theorem Box.cell (h : Box w g cs) : ∀ i, w.cell? ⟨g, i, none⟩ = cs[i]? := fun i => by obtain ⟨t, h⟩ := h; exact cell_of_row w g i cs t (0, 0) h
theorem Box.fz (h : Box w g cs) : ∀ i, w.frozen? ⟨g, i, none⟩ = false := fun i => by obtain ⟨t, h⟩ := h; exact frozen_of_row w g i cs t h
theorem Box.keep (h : Box w g cs) (hb : w'.heap[g]? = w.heap[g]?) : Box w' g cs := by obtain ⟨t, h⟩ := h; exact ⟨t, hb.trans h⟩
theorem Box.grow (h : Box w g cs) (hb : Grow w w') : Box w' g cs := h.keep (hb.block g h.lt)
theorem Box.kept {S : List Nat} (h : Box w g cs) (hk : Kept w.heap.size S w w') (hS : g ∉ S) : Box w' g cs := h.keep (hk.block g h.lt hS)
theorem Box.drew (h : Box w g cs) : Box w.drew g cs := h
theorem Box.drewN (h : Box w g cs) (n : Nat) : Box (w.drewN n) g cs := h
theorem Box.new (w : World) (cs : Array Value) (t : TypeId) {g : Nat} (hg : w.heap.size = g) : Box (w.alloc (.cells cs t)) g cs := by subst hg; exact ⟨t, heap_alloc_new w _⟩
theorem Box.set (h : Box w g cs) (i : Nat) (v : Value) : Box (w.setCell ⟨g, i, none⟩ v) g (cs.setIfInBounds i v) := by
  obtain ⟨t, h⟩ := h
  exact ⟨t, heap_setCell_same w g i cs t v h⟩
theorem Box.set_ne (h : Box w g cs) {p : Addr} (hp : p.block ≠ g) (v : Value) : Box (w.setCell p v) g cs := h.keep (Below.heap_setCell _ _ _ _ (fun e => hp e.symm))
theorem Box.alloc (h : Box w g cs) (o : Obj) : Box (w.alloc o) g cs := h.grow ((Grow.refl w).alloc o)
end
/-- what a walk reads of a box: its cells, its mark, its place -/
theorem Box.rules {w : World} {g : Nat} {cs : Array Value} (h : Box w g cs) : (∀ i, w.cell? ⟨g, i, none⟩ = cs[i]?) ∧ (∀ i, w.frozen? ⟨g, i, none⟩ = false) ∧ g < w.heap.size := ⟨h.cell, h.fz, h.lt⟩
/-- the newest box of a world from which a call went on -/
theorem peel {W w1 : World} {cs : Array Value} {t : TypeId} {g : Nat} (hb : Grow (W.alloc (.cells cs t)) w1) (hg : W.heap.size = g) : Box w1 g cs ∧ Grow W w1 :=
  ⟨(Box.new W cs t hg).grow hb, Grow.trans ((Grow.refl W).alloc _) hb⟩
theorem peel1 {W w1 : World} {cs : Array Value} {t : TypeId} (hb : Grow (W.alloc (.cells cs t)) w1) : Box w1 W.heap.size cs ∧ Grow W w1 := peel hb rfl
theorem peel2 {W w1 : World} {cs ds : Array Value} {t u : TypeId} (hb : Grow ((W.alloc (.cells cs t)).alloc (.cells ds u)) w1) : Box w1 W.heap.size cs ∧ Box w1 (W.heap.size + 1) ds ∧ Grow W w1 := by
  obtain ⟨h2, hb⟩ := peel (g := W.heap.size + 1) hb (by simp)
  obtain ⟨h1, hb⟩ := peel hb rfl
  exact ⟨h1, h2, hb⟩
theorem peel3 {W w1 : World} {cs ds es : Array Value} {t u v : TypeId} (hb : Grow (((W.alloc (.cells cs t)).alloc (.cells ds u)).alloc (.cells es v)) w1) : Box w1 W.heap.size cs ∧ Box w1 (W.heap.size + 1) ds ∧ Box w1 (W.heap.size + 1 + 1) es ∧ Grow W w1 := by
  obtain ⟨h3, hb⟩ := peel (g := W.heap.size + 1 + 1) hb (by simp)
  obtain ⟨h1, h2, hb⟩ := peel2 hb
  exact ⟨h1, h2, h3, hb⟩
theorem peel4 {W w1 : World} {cs ds es fs : Array Value} {t u v x : TypeId} (hb : Grow ((((W.alloc (.cells cs t)).alloc (.cells ds u)).alloc (.cells es v)).alloc (.cells fs x)) w1) : Box w1 W.heap.size cs ∧ Box w1 (W.heap.size + 1) ds ∧ Box w1 (W.heap.size + 1 + 1) es ∧ Box w1 (W.heap.size + 1 + 1 + 1) fs ∧ Grow W w1 := by
  obtain ⟨h4, hb⟩ := peel (g := W.heap.size + 1 + 1 + 1) hb (by simp)
  obtain ⟨h1, h2, h3, hb⟩ := peel3 hb
  exact ⟨h1, h2, h3, h4, hb⟩
/-- behind an append to the newest block, that was made empty -/
theorem app_grow {W w1 : World} {n : Nat} (h : W.grownBy w1 (blk (some ⟨n, 0, none⟩))) (hn : n ≤ W.heap.size) : Below n W w1 :=
  ⟨h.os, h.tape, h.output, h.size, fun k hk => h.block k (by omega) (by simp [blk]; omega)⟩
theorem app0 {W w1 : World} {o : Obj} {g : Nat} (h : (W.alloc o).grownBy w1 (blk (some ⟨g, 0, none⟩))) (hg : W.heap.size = g) : Grow W w1 := by
  subst hg
  exact Below.trans ((Grow.refl W).alloc o) (app_grow h (by simp))
theorem app1 {w w1 : World} {cs : Array Value} {t : TypeId} {o : Obj} {g : Nat} (h : ((w.alloc (.cells cs t)).alloc o).grownBy w1 (blk (some ⟨g, 0, none⟩))) (hg : w.heap.size + 1 = g) : Box w1 w.heap.size cs ∧ Grow w w1 :=
  peel1 (app0 h (by simpa using hg))
theorem app2 {w w1 : World} {cs ds : Array Value} {t u : TypeId} {o : Obj} {g : Nat} (h : (((w.alloc (.cells cs t)).alloc (.cells ds u)).alloc o).grownBy w1 (blk (some ⟨g, 0, none⟩))) (hg : w.heap.size + 1 + 1 = g) : Box w1 w.heap.size cs ∧ Box w1 (w.heap.size + 1) ds ∧ Grow w w1 :=
  peel2 (app0 h (by simpa using hg))
theorem Own.made' (w : World) (base g : Nat) (hg : w.heap.size = g) (hb : base ≤ g) : Own (w.alloc (.cells #[] 5)) base (some ⟨g, 0, none⟩) 0 [] := by
  subst hg
  exact Own.made w #[] 0 hb (by decide) rfl
theorem Own.setAt {w : World} {base : Nat} {A : Option Addr} {c : Nat} {l : List UInt8} (h : Own w base A c l) {p : Addr} (hp : ∀ q, blk A = some q → q ≠ p.block) (v : Value) : Own (w.setCell p v) base A c l :=
  h.kept fun g hg => Below.heap_setCell _ _ _ _ (hp g hg)
theorem Bytes.setAt {w : World} {A : Option Addr} {l : List UInt8} (h : Bytes w A l) {p : Addr} (hp : ∀ q, blk A = some q → q ≠ p.block) (v : Value) : Bytes (w.setCell p v) A l :=
  h.keep fun b o hA _ => Below.heap_setCell _ _ _ _ (hp b (by rw [hA]; rfl))
/-- the same, where a call may have turned the block q of old -/
theorem peelK {W w1 : World} {cs : Array Value} {t : TypeId} {g : Nat} {S : List Nat} (hb : Kept (W.alloc (.cells cs t)).heap.size S (W.alloc (.cells cs t)) w1) (hg : W.heap.size = g) (hS : g ∉ S) : Box w1 g cs ∧ Kept W.heap.size S W w1 :=
  ⟨(Box.new W cs t hg).kept hb hS, ((Kept.refl W.heap.size S W).alloc (Nat.le_refl _) _).trans (hb.mono (by simp) (fun _ _ e => e))⟩
theorem peelK1 {W w1 : World} {cs : Array Value} {t : TypeId} {S : List Nat} (hb : Kept (W.alloc (.cells cs t)).heap.size S (W.alloc (.cells cs t)) w1) (hS : W.heap.size ∉ S) : Box w1 W.heap.size cs ∧ Kept W.heap.size S W w1 := peelK hb rfl hS
theorem peelK2 {W w1 : World} {cs ds : Array Value} {t u : TypeId} {S : List Nat} (hb : Kept ((W.alloc (.cells cs t)).alloc (.cells ds u)).heap.size S ((W.alloc (.cells cs t)).alloc (.cells ds u)) w1) (hS : W.heap.size ∉ S) (hS2 : W.heap.size + 1 ∉ S) :
    Box w1 W.heap.size cs ∧ Box w1 (W.heap.size + 1) ds ∧ Kept W.heap.size S W w1 := by
  obtain ⟨h2, hb⟩ := peelK (g := W.heap.size + 1) hb (by simp) hS2
  obtain ⟨h1, hb⟩ := peelK hb rfl hS
  exact ⟨h1, h2, hb⟩
theorem peelK3 {W w1 : World} {cs ds es : Array Value} {t u v : TypeId} {S : List Nat} (hb : Kept (((W.alloc (.cells cs t)).alloc (.cells ds u)).alloc (.cells es v)).heap.size S (((W.alloc (.cells cs t)).alloc (.cells ds u)).alloc (.cells es v)) w1) (hS : W.heap.size ∉ S) (hS2 : W.heap.size + 1 ∉ S) (hS3 : W.heap.size + 1 + 1 ∉ S) :
    Box w1 W.heap.size cs ∧ Box w1 (W.heap.size + 1) ds ∧ Box w1 (W.heap.size + 1 + 1) es ∧ Kept W.heap.size S W w1 := by
  obtain ⟨h3, hb⟩ := peelK (g := W.heap.size + 1 + 1) hb (by simp) hS3
  obtain ⟨h1, h2, hb⟩ := peelK2 hb hS hS2
  exact ⟨h1, h2, h3, hb⟩
theorem Kept.at_ {w w1 w2 : World} {S : List Nat} (h : Kept w.heap.size S w w1) (k : Kept w1.heap.size S w1 w2) : Kept w.heap.size S w w2 := h.trans (k.mono h.size (fun _ _ e => e))
theorem Kept.fresh1 {w w1 w2 : World} {p : Nat} (h : Kept w1.heap.size [p] w1 w2) (hg : Grow w w1) (hp : w.heap.size ≤ p) : Grow w w2 :=
  ((Kept.of_below hg []).trans (h.mono hg.size fun k hk hm => by rcases List.mem_singleton.1 hm with rfl; omega)).to_below
/-- twelve cells of a box are stored anew -/
theorem Box.store12 {w w' : World} {g : Nat} {a0 a1 a2 a3 a4 a5 a6 a7 a8 a9 a10 a11 b0 b1 b2 b3 b4 b5 b6 b7 b8 b9 b10 b11 : Value} (h : Box w g #[a0, a1, a2, a3, a4, a5, a6, a7, a8, a9, a10, a11]) (hW : (World.setCell (World.setCell (World.setCell (World.setCell (World.setCell (World.setCell (World.setCell (World.setCell (World.setCell (World.setCell (World.setCell (World.setCell w ⟨g, 0, none⟩ b0) ⟨g, 1, none⟩ b1) ⟨g, 2, none⟩ b2) ⟨g, 3, none⟩ b3) ⟨g, 4, none⟩ b4) ⟨g, 5, none⟩ b5) ⟨g, 6, none⟩ b6) ⟨g, 7, none⟩ b7) ⟨g, 8, none⟩ b8) ⟨g, 9, none⟩ b9) ⟨g, 10, none⟩ b10) ⟨g, 11, none⟩ b11) = w') : Box w' g #[b0, b1, b2, b3, b4, b5, b6, b7, b8, b9, b10, b11] := by
  subst hW
  have h0 := Box.set h 0 b0
  simp only [List.setIfInBounds_toArray, List.set_cons_zero] at h0
  have h1 := Box.set h0 1 b1
  simp only [List.setIfInBounds_toArray, List.set_cons_zero, List.set_cons_succ] at h1
  have h2 := Box.set h1 2 b2
  simp only [List.setIfInBounds_toArray, List.set_cons_zero, List.set_cons_succ] at h2
  have h3 := Box.set h2 3 b3
  simp only [List.setIfInBounds_toArray, List.set_cons_zero, List.set_cons_succ] at h3
  have h4 := Box.set h3 4 b4
  simp only [List.setIfInBounds_toArray, List.set_cons_zero, List.set_cons_succ] at h4
  have h5 := Box.set h4 5 b5
  simp only [List.setIfInBounds_toArray, List.set_cons_zero, List.set_cons_succ] at h5
  have h6 := Box.set h5 6 b6
  simp only [List.setIfInBounds_toArray, List.set_cons_zero, List.set_cons_succ] at h6
  have h7 := Box.set h6 7 b7
  simp only [List.setIfInBounds_toArray, List.set_cons_zero, List.set_cons_succ] at h7
  have h8 := Box.set h7 8 b8
  simp only [List.setIfInBounds_toArray, List.set_cons_zero, List.set_cons_succ] at h8
  have h9 := Box.set h8 9 b9
  simp only [List.setIfInBounds_toArray, List.set_cons_zero, List.set_cons_succ] at h9
  have h10 := Box.set h9 10 b10
  simp only [List.setIfInBounds_toArray, List.set_cons_zero, List.set_cons_succ] at h10
  have h11 := Box.set h10 11 b11
  simp only [List.setIfInBounds_toArray, List.set_cons_zero, List.set_cons_succ] at h11
  exact h11
theorem Kept.store12 {w w' : World} {g : Nat} {b0 b1 b2 b3 b4 b5 b6 b7 b8 b9 b10 b11 : Value} (hW : (World.setCell (World.setCell (World.setCell (World.setCell (World.setCell (World.setCell (World.setCell (World.setCell (World.setCell (World.setCell (World.setCell (World.setCell w ⟨g, 0, none⟩ b0) ⟨g, 1, none⟩ b1) ⟨g, 2, none⟩ b2) ⟨g, 3, none⟩ b3) ⟨g, 4, none⟩ b4) ⟨g, 5, none⟩ b5) ⟨g, 6, none⟩ b6) ⟨g, 7, none⟩ b7) ⟨g, 8, none⟩ b8) ⟨g, 9, none⟩ b9) ⟨g, 10, none⟩ b10) ⟨g, 11, none⟩ b11) = w') : Kept w.heap.size [g] w w' := by
  subst hW
  exact Kept.setCell (p := ⟨g, 11, none⟩) (Kept.setCell (p := ⟨g, 10, none⟩) (Kept.setCell (p := ⟨g, 9, none⟩) (Kept.setCell (p := ⟨g, 8, none⟩) (Kept.setCell (p := ⟨g, 7, none⟩) (Kept.setCell (p := ⟨g, 6, none⟩) (Kept.setCell (p := ⟨g, 5, none⟩) (Kept.setCell (p := ⟨g, 4, none⟩) (Kept.setCell (p := ⟨g, 3, none⟩) (Kept.setCell (p := ⟨g, 2, none⟩) (Kept.setCell (p := ⟨g, 1, none⟩) (Kept.setCell (p := ⟨g, 0, none⟩) (Kept.refl w.heap.size [g] w) (.inr (by simp)) b0) (.inr (by simp)) b1) (.inr (by simp)) b2) (.inr (by simp)) b3) (.inr (by simp)) b4) (.inr (by simp)) b5) (.inr (by simp)) b6) (.inr (by simp)) b7) (.inr (by simp)) b8) (.inr (by simp)) b9) (.inr (by simp)) b10) (.inr (by simp)) b11
/-- one cell of a box is stored anew -/
theorem Box.store1 {w w' : World} {g i : Nat} {cs : Array Value} {v : Value} (h : Box w g cs) (hW : World.setCell w ⟨g, i, none⟩ v = w') : Box w' g (cs.setIfInBounds i v) := hW ▸ h.set i v
theorem Box.keep_ne {w w' : World} {g : Nat} {p : Addr} {cs : Array Value} {v : Value} (h : Box w g cs) (hW : World.setCell w p v = w') (hp : p.block ≠ g) : Box w' g cs := hW ▸ h.set_ne hp v
theorem Bytes.store1 {w w' : World} {A : Option Addr} {l : List UInt8} {p : Addr} {v : Value} (h : Bytes w A l) (hW : World.setCell w p v = w') (hp : ∀ q, blk A = some q → q ≠ p.block) : Bytes w' A l := hW ▸ h.setAt hp v
theorem Kept.store1 {w w1 w' : World} {B : Nat} {S : List Nat} {p : Addr} {v : Value} (h : Kept B S w w1) (hW : World.setCell w1 p v = w') (hp : B ≤ p.block) : Kept B S w w' := hW ▸ h.setCell (.inl hp) v
theorem Grow.store1 {w w1 w' : World} {p : Addr} {v : Value} (h : Grow w w1) (hW : World.setCell w1 p v = w') (hp : w.heap.size ≤ p.block) : Grow w w' := hW ▸ Below.setCell h hp v
end Go.Proofs.Ytbccbfmgjeknhaa
namespace Go.Proofs.Ytbccbfmgjeknhaa
open Go.RowKit
section
variable {P : Program}
theorem run_append_none (bt : ByteT P) (w : World) {ty : Nat} (A : Addr) {A2 : Option Addr} {c2 : Nat} :
    (Builtin.append_ #[22, 22] ty #[.slice (some A) 0 0, .slice A2 0 c2]).run P w = .ok (.slice (some A) 0 0) w := by
  obtain ⟨i, hi, hz, hs, hby⟩ := bt.info
  cases A2 with
  | none => simp [Builtin.append_, run_underlying bt.und, sizeOf, typeInfo, hi, Builtin.lenOf, Builtin.firstCells, storeCells]
  | some ad =>
    have h := run_loadCells_list (P := P) w ad [] (by simp)
    simp at h
    simp [Builtin.append_, run_underlying bt.und, sizeOf, typeInfo, hi, Builtin.lenOf, Builtin.firstCells, storeCells, h]
theorem run_append_fresh (bt : ByteT P) (w : World) {base ty g : Nat} (hown : Own w base (some ⟨g, 0, none⟩) 0 []) (hbase : base ≤ w.heap.size)
    {A2 : Option Addr} {c2 : Nat} {l2 : List UInt8} (hb : Bytes w A2 l2) (hsum : l2.length ≤ 140737488355328) :
    ∃ A' c' w', (Builtin.append_ #[22, 22] ty #[.slice (some ⟨g, 0, none⟩) 0 0, .slice A2 l2.length c2]).run P w = .ok (.slice A' l2.length c') w' ∧ Own w' base A' c' l2 ∧ Grow w w' := by
  by_cases hl : l2 = []
  · subst hl
    exact ⟨_, _, w, run_append_none bt w _, hown, Grow.refl w⟩
  · obtain ⟨i, hi, hz, hs, hby⟩ := bt.info
    obtain ⟨b, o, rfl, hc⟩ := hb hl
    have h0 : 0 < l2.length := List.length_pos_iff.2 hl
    obtain ⟨v', w', hr, h1, h2⟩ := run_append_arg_grows (P := P) w 22 ty 5 i (.int .u8 0) 1 1 bt.und hi hz hs hby rfl (by omega) ⟨g, 0, none⟩ 0 0 [] (by simp) (by simp)
      ⟨b, o, none⟩ l2.length c2 (l2.map u8) (by simp) (fun j u hu => by
        have hj : j < l2.length := by
          rcases Nat.lt_or_ge j l2.length with h | h
          · exact h
          · rw [List.getElem?_eq_none (by simpa using h)] at hu; cases hu
        rw [u8_map_get l2 j hj] at hu
        injection hu with hu
        subst hu
        have e : (⟨b, o, none⟩ : Addr).add j = ⟨b, o + j, none⟩ := by unfold Addr.add; split <;> simp_all
        rw [e, hc j hj]) (by omega) (by unfold maxLen; omega) (by omega)
    rw [List.nil_append, Nat.zero_add] at h1
    have hg : Grow w w' := ⟨h2.os, h2.tape, h2.output, h2.size, fun k hk => h2.block k hk (by simp)⟩
    rcases h1.2 with ⟨hv, hn⟩ | ⟨g', cap, cur, hv, r⟩
    · omega
    · subst hv
      exact ⟨_, cap, w', hr, Own.mono (show Own w' w.heap.size (some ⟨g', 0, none⟩) cap l2 from h1) hbase, hg⟩
theorem oper_append_fresh (bt : ByteT P) {o : Oper} {a : Act} {w : World} {K : Act → World → Prop} {Q : Exit → Act → World → Prop} (s x : Operand)
    (ho : o.op = .call { callee := .builtin .append, args := #[s, x], argTypes := #[22, 22] }) {base g : Nat} (hown : Own w base (some ⟨g, 0, none⟩) 0 []) (hbase : base ≤ w.heap.size)
    {A2 : Option Addr} {c2 : Nat} {l2 : List UInt8} (hb : Bytes w A2 l2) (hs : a.eval s = .slice (some ⟨g, 0, none⟩) 0 0) (hx : a.eval x = .slice A2 l2.length c2) (hsum : l2.length ≤ 140737488355328)
    (h : ∀ A' c' w', Own w' base A' c' l2 → Grow w w' → K (a.put o.dst (.slice A' l2.length c')) w') : Oper.wp P o a w K Q := by
  obtain ⟨A', c', w', hr, h1, h2⟩ := run_append_fresh bt w (ty := o.type) hown hbase (c2 := c2) hb hsum
  unfold Oper.wp execOp
  simp only [ho, resolve, invoke, builtin, Sem.run_bind, Sem.run_pure, Result.andThen_ok, List.map_toArray, List.map_cons, List.map_nil, hs, hx, hr]
  exact h A' c' w' h1 h2
theorem wpList_append_fresh (bt : ByteT P) {ops : Array Oper} {rest : List Oper} {o : Oper} {a : Act} {w : World} {Q : Exit → Act → World → Prop} (hgd : o.guard = none) (s x : Operand)
    (ho : o.op = .call { callee := .builtin .append, args := #[s, x], argTypes := #[22, 22] }) {base g : Nat} (hown : Own w base (some ⟨g, 0, none⟩) 0 []) (hbase : base ≤ w.heap.size)
    {A2 : Option Addr} {c2 : Nat} {l2 : List UInt8} (hb : Bytes w A2 l2) (hs : a.eval s = .slice (some ⟨g, 0, none⟩) 0 0) (hx : a.eval x = .slice A2 l2.length c2) (hsum : l2.length ≤ 140737488355328)
    (h : ∀ A' c' w', Own w' base A' c' l2 → Grow w w' → wpList P ops Q rest (a.put o.dst (.slice A' l2.length c')) w') : wpList P ops Q (o :: rest) a w :=
  wpList_plain hgd fun _ hK => oper_append_fresh bt s x ho hown hbase hb hs hx hsum fun A' c' w' h1 h2 => hK _ _ (h A' c' w' h1 h2)
end
end Go.Proofs.Ytbccbfmgjeknhaa
