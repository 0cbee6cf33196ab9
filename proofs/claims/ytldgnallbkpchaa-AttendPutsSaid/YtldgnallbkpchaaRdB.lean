/- The walks of numbers that a reader of package buf reads. -/
import Derived.Test.YtldgnallbkpchaaRd
import Derived.Test.YtldgnallbkpchaaRegion2
import Derived.Laws.Rows
import Derived.Deep.RegionLaw
namespace Go.Proofs.Ytldgnallbkpchaa
open Go.RowKit
theorem or_part (X c m : Nat) (hX : X < 2 ^ m) (h : X + 2 ^ m * c < 18446744073709551616) : bits .or .u64 (X : Int) (IntKind.u64.wrap ((c : Int) * 2 ^ m)) = ((X + 2 ^ m * c : Nat) : Int) := by
  have e : (c : Int) * 2 ^ m = ((2 ^ m * c : Nat) : Int) := by rw [Int.natCast_mul, Int.mul_comm]; simp
  have e2 : IntKind.u64.wrap ((2 ^ m * c : Nat) : Int) = ((2 ^ m * c : Nat) : Int) := by rw [IntKind.wrap_u64]; omega
  rw [e, e2, u64_or_nat _ _ (by omega) (by omega), Nat.or_comm, ← Nat.two_pow_add_eq_or_of_lt hX, Nat.add_comm]
theorem pow_256 (k : Nat) : (2 : Nat) ^ (8 * k) = 256 ^ k := by rw [Nat.pow_mul]
theorem num_step (l : List UInt8) (hl : l.length = 8) (k : Nat) (hk : k < 8) :
    bits .or .u64 ((Buf.num (l.take k) : Nat) : Int) (IntKind.u64.wrap (((l[k]'(by omega)).toNat : Int) * 2 ^ (8 * k))) = ((Buf.num (l.take (k + 1)) : Nat) : Int) := by
  have h1 := Buf.num_lt (l.take k)
  have e1 : (l.take k).length = k := by rw [List.length_take]; omega
  have e2 : Buf.num (l.take (k + 1)) = Buf.num (l.take k) + 2 ^ (8 * k) * (l[k]'(by omega)).toNat := by
    rw [take_succ' l k (by omega), Buf.num_snoc, e1, pow_256]
  have h3 := Buf.num_lt (l.take (k + 1))
  have h4 : 256 ^ (l.take (k + 1)).length ≤ 256 ^ 8 := Nat.pow_le_pow_right (by omega) (by rw [List.length_take]; omega)
  rw [e2]
  rw [e1, ← pow_256] at h1
  exact or_part _ _ _ h1 (by omega)
set_option maxRecDepth 100000 in
set_option maxHeartbeats 1000000 in
theorem unumber_any (l : List UInt8) (cs : Array Value) (w : World) (hl : l.length = 8) (hcs : Hid (cs = (l.map u8).toArray)) :
    Calls Try.prog 146 #[.agg cs] w fun r w' => r = .returned (.int .u64 (Buf.num l)) ∧ Grow w w' := by
  have hh := Holds.new w cs 128 (0, 0) rfl
  go_enter Try.func146, Try.ntmps146
  go_wp2
  go_loop [3, 5] (fun x i => ∃ k : Nat, k ≤ 8 ∧ i = .int .i64 k ∧ x = .int .u64 (Buf.num (l.take k))) (fun _ i => 8 - (intOf i).toNat)
  case atStart => exact ⟨0, by omega, rfl, rfl⟩
  case round =>
    obtain ⟨k, hk, rfl, rfl⟩ := hrel
    by_cases hlt : k < 8
    · have hc : cs[k]? = some (.int .u8 ((l[k]'(by omega)).toNat : Int)) := by rw [hcs.out, List.getElem?_toArray, u8_map_get l k (by omega)]
      have hcb := (l[k]'(by omega)).toNat_lt
      have HS := hide (num_step l hl k hlt)
      go_wp2
      go_round
      case rel => exact ⟨k + 1, by omega, by go_num, by rw [HS.out]⟩
      case measure => simp [intOf]; omega
    · obtain rfl : k = 8 := by omega
      have HT := show l.take 8 = l from List.take_of_length_le (by omega)
      go_wp2
      go_ret
      exact ⟨rfl, (Grow.refl w).alloc _⟩
/-- the builtin copy inside a region -/
theorem oper_copy_splice {P : Program} {o : Oper} {a : Act} {w : World} {K : Act → World → Prop} {Q : Exit → Act → World → Prop} (hgd : o.guard = none) (d s : Operand) (dT sT : TypeId)
    (ho : o.op = .call { callee := .builtin .copy, args := #[d, s], argTypes := #[dT, sT] }) (elem : TypeId) (hu : P.underlying dT = some (.slice elem)) (hsz : (P.info? elem).map (·.size) = some 1)
    (dp sp : Option Addr) (dLen dCap sLen sCap : Nat) (hd : a.eval d = .slice dp dLen dCap) (hs : a.eval s = .slice sp sLen sCap)
    (g off : Nat) (cur : List Value) (t : TypeId) (hg : w.heap[g]? = some (.cells cur.toArray t (0, 0))) (cs : List Value) (hn : cs.length = Nat.min sLen dLen)
    (hpos : 0 < cs.length → dp = some ⟨g, off, none⟩ ∧ ∃ ad, sp = some ad ∧ ∀ j v, cs[j]? = some v → w.cell? (ad.add j) = some v)
    (hfit : off + cs.length ≤ cur.length) (h1 : ∀ v ∈ cs, v.oneCell' = true)
    (h : ∀ w', Hid (w'.heap[g]? = some (.cells (splice cur off cs).toArray t (0, 0))) → Below g w w' → K (a.put o.dst (goInt cs.length)) w') : Oper.wp P o a w K Q := by
  have h2 := step_copy_splice (P := P) (ops := #[]) (E := True) (K := K) (Q := Q) hgd d s dT sT ho elem hu hsz dp sp dLen dCap sLen sCap hd hs g off cur t hg cs hn hpos hfit h1 g w (Below.refl _ _) (Nat.le_refl _) h
  rwa [if_pos (by simp [Region.wanted, hgd])] at h2
theorem Bytes.cells {w : World} {A : Option Addr} {l : List UInt8} (h : Bytes w A l) (hl : 0 < (l.map u8).length) : ∃ ad, A = some ad ∧ ∀ j v, (l.map u8)[j]? = some v → w.cell? (ad.add j) = some v := by
  obtain ⟨b, o, hA, hc⟩ := h (by rintro rfl; simp at hl)
  refine ⟨_, hA, fun j v hv => ?_⟩
  have hj : j < l.length := by
    rcases Nat.lt_or_ge j l.length with h | h
    · exact h
    · rw [List.getElem?_eq_none (by simpa using h)] at hv; cases hv
  rw [u8_map_get l j hj] at hv
  injection hv with hv
  subst hv
  have e : (⟨b, o, none⟩ : Addr).add j = ⟨b, o + j, none⟩ := by unfold Addr.add; split <;> simp_all
  rw [e, hc j hj]
theorem u8_one (l : List UInt8) : ∀ v ∈ l.map u8, v.oneCell' = true := by
  intro u hu
  simp only [List.mem_map] at hu
  obtain ⟨x, _, rfl⟩ := hu
  rfl
/-- eight bytes of which the first are given -/
def pad8 (l : List UInt8) : List UInt8 := l ++ List.replicate (8 - l.length) 0
theorem num_zeros : ∀ n, Buf.num (List.replicate n 0) = 0
  | 0 => rfl
  | n + 1 => by simp [List.replicate_succ, Buf.num, num_zeros n]
theorem num_append (m : List UInt8) : ∀ l, Buf.num (l ++ m) = Buf.num l + 256 ^ l.length * Buf.num m
  | [] => by simp [Buf.num]
  | c :: l => by
    simp only [List.cons_append, Buf.num, num_append m l, List.length_cons, Nat.pow_succ]
    rw [Nat.mul_add, ← Nat.mul_assoc, Nat.mul_comm 256 (256 ^ l.length)]
    omega
theorem num_pad8 (l : List UInt8) : Buf.num (pad8 l) = Buf.num l := by unfold pad8; rw [num_append, num_zeros]; simp
theorem pad8_splice (l : List UInt8) : splice [Value.int .u8 0, .int .u8 0, .int .u8 0, .int .u8 0, .int .u8 0, .int .u8 0, .int .u8 0, .int .u8 0] 0 (l.map u8) = (pad8 l).map u8 := by
  have e : [Value.int .u8 0, .int .u8 0, .int .u8 0, .int .u8 0, .int .u8 0, .int .u8 0, .int .u8 0, .int .u8 0] = (List.replicate 8 (0 : UInt8)).map u8 := by rfl
  rw [e]
  unfold splice pad8
  rw [List.take_zero, List.nil_append, Nat.zero_add, List.length_map, ← List.map_drop, List.map_append, List.drop_replicate]
theorem rtake_len (s : List UInt8 × Int) (n : Nat) : (rtake s n).1.length ≤ n := by
  unfold rtake Buf.rget
  split
  · show (if s.1.length < n then (([] : List UInt8), ([] : List UInt8), (3 : Int)) else (s.1.take n, s.1.drop n, 0)).1.length ≤ n
    split
    · simp
    · simp; omega
  · simp
theorem pad8_length (l : List UInt8) (h : l.length ≤ 8) : (pad8 l).length = 8 := by unfold pad8; simp; omega
set_option maxRecDepth 100000 in
set_option maxHeartbeats 1000000 in
theorem rfixed_any (N p : Nat) (s : List UInt8 × Int) (n : Nat) (w : World) (h : Rd w N p s) (h1 : 1 ≤ n) (h8 : n ≤ 8) :
    Calls Try.prog 56 #[.pointer (some ⟨p, 0, none⟩), .int .i64 n] w fun r w' => r = .returned (.int .u64 (Buf.num (rtake s n).1)) ∧ Rd w' N p (rtake s n).2 ∧ Kept w.heap.size [p] w w' := by
  have hd1 : decide ((n : Int) < 1) = false := by simp; omega
  have hd2 : decide (8 < (n : Int)) = false := by simp; omega
  go_enter Try.func56, Try.ntmps56
  go_wp2_with fail
  have hrf : ∀ w : World, (fun _ _ : World => True) w w := fun _ => trivial
  have htr : ∀ a b c : World, (fun _ _ : World => True) a b → (fun _ _ : World => True) b c → (fun _ _ : World => True) a c := fun _ _ _ _ _ => trivial
  refine wpR_region (fun _ _ => True) [] (by kernel_rfl) ?_
  refine wpR_take hrf htr 0 rfl (by kernel_rfl) (fun _ _ _ h => h) rfl (v := ?_) ?_ ?_
  rotate_left
  · (intro w' hG; go_simp; try with_reducible rfl)
  try simp only [Act.put, List.setIfInBounds_toArray, List.set_cons_zero, List.set_cons_succ]
  refine wpR_take hrf htr 1 rfl (by kernel_rfl) (fun _ _ _ h => h) rfl (v := ?_) ?_ ?_
  rotate_left
  · (intro w' hG; go_simp; try with_reducible rfl)
  try simp only [Act.put, List.setIfInBounds_toArray, List.set_cons_zero, List.set_cons_succ]
  refine wpR_take hrf htr 2 rfl (by kernel_rfl) (fun _ _ _ h => h) rfl (v := ?_) ?_ ?_
  rotate_left
  · (intro w' hG; go_simp; try with_reducible rfl)
  try simp only [Act.put, List.setIfInBounds_toArray, List.set_cons_zero, List.set_cons_succ]
  have HA := hide (h.grow ((Grow.refl w).alloc (.cells #[.int .u8 0, .int .u8 0, .int .u8 0, .int .u8 0, .int .u8 0, .int .u8 0, .int .u8 0, .int .u8 0] 128)).drew)
  refine wpR_call 3 rfl (by kernel_rfl) rfl fun K hK => ?_
  go_simp
  refine (take_any N p s n _ (h.grow ((Grow.refl w).alloc _)).drew).mono ?_
  rintro r w1 ⟨A, c, rfl, hc, hb, hr, hk⟩
  refine hK.out _ _ (.inr (trivial)) ?_
  clear hK
  try simp only [Act.put, List.setIfInBounds_toArray, List.set_cons_zero, List.set_cons_succ]
  have hg1 : w1.heap[w.heap.size]? = some (.cells #[.int .u8 0, .int .u8 0, .int .u8 0, .int .u8 0, .int .u8 0, .int .u8 0, .int .u8 0, .int .u8 0] 128 (0, 0)) := (hk.block _ (by simp) (by have := h.lt; have := h.size; simp; omega)).trans (heap_alloc_new w _)
  have hl8 := rtake_len s n
  generalize hT : rtake s n = T at *
  have HT := hide hT
  clear hT
  refine wpR_call 4 rfl (by kernel_rfl) rfl fun K hK => ?_
  refine oper_copy_splice rfl (.tmp 18) (.tmp 21) 25 25 rfl 5 Try.underlying25 (by kernel_rfl) _ A 8 8 T.1.length c rfl rfl w.heap.size 0 _ _ hg1 (T.1.map u8) ?_ ?_ ?_ (u8_one _) ?_
  · rw [List.length_map]; exact (Nat.min_eq_left (by omega)).symm
  · exact fun h0 => ⟨rfl, hb.cells h0⟩
  · rw [List.length_map]; simp; omega
  intro w2 hg2 hb2
  rw [pad8_splice _] at hg2
  refine hK.out _ _ (.inr (trivial)) ?_
  clear hK
  try simp only [Act.put, List.setIfInBounds_toArray, List.set_cons_zero, List.set_cons_succ]
  refine wpR_done (by kernel_rfl) ?_ _
  go_wp2_with (refine wpList_load_row rfl 128 (.tmp 5) rfl w.heap.size rfl _ _ _ _ hg2.out Try.underlying128 rfl (by rw [List.size_toArray, List.length_map, pad8_length _ (by omega)]; kernel_rfl) ?_)
  refine (unumber_any (pad8 T.1) _ _ (pad8_length _ (by omega)) (hide rfl)).mono ?_
  rintro r w3 ⟨rfl, hg3⟩
  go_wp2
  go_ret
  rw [num_pad8, HT.out]
  exact ⟨rfl, (hr.below (hb2.mono h.size)).grow hg3, ((((Kept.refl w.heap.size [p] w).alloc (Nat.le_refl _) _).drew.trans (hk.mono (by simp) (fun _ _ e => e))).trans (Kept.of_below hb2 _)).grow hg3⟩
def rfix (n : Int) (s : List UInt8 × Int) : Nat × List UInt8 × Int := Buf.rget 0 (fun b => Buf.getFixed b n) s
theorem rfix_in (s : List UInt8 × Int) (n : Nat) (h1 : 1 ≤ n) (h8 : n ≤ 8) : rfix n s = (Buf.num (rtake s n).1, (rtake s n).2) := by
  unfold rfix rtake Buf.rget Buf.getFixed
  by_cases h : s.2 = 0
  · rw [if_pos h, if_pos h]
    dsimp only
    rw [if_neg (by omega), Int.toNat_natCast]
    by_cases hl : s.1.length < n
    · simp [hl, Buf.num]
    · simp [hl]
  · rw [if_neg h, if_neg h]; rfl
set_option maxRecDepth 100000 in
set_option maxHeartbeats 1000000 in
theorem rfixed_no (N p : Nat) (s : List UInt8 × Int) (n : Int) (w : World) (h : Rd w N p s) (hn : n < 1 ∨ 8 < n) :
    Calls Try.prog 56 #[.pointer (some ⟨p, 0, none⟩), .int .i64 n] w fun r w' => r = .returned (.int .u64 (rfix n s).1) ∧ Rd w' N p (rfix n s).2 ∧ Kept w.heap.size [p] w w' := by
  obtain ⟨b, e⟩ := s
  have hc0 := h.c0
  have hf := h.fz 0
  by_cases he : e = 0
  · subst he
    have HP := hide (show rfix n (b, 0) = (0, [], 1) by unfold rfix Buf.rget Buf.getFixed; rw [if_pos rfl]; dsimp only; rw [if_pos hn])
    rcases hn with hn | hn
    all_goals
      go_enter Try.func56, Try.ntmps56
      go_wp2_with fail
      refine (fail_set p 1 _ hc0 hf).mono ?_
      rintro r w' ⟨rfl, rfl⟩
      go_wp2
      go_ret
      rw [HP.out]
      exact ⟨rfl, h.setErr 1 (by decide), (Kept.refl _ _ w).setCell (p := ⟨p, 0, none⟩) (.inr (by simp)) _⟩
  · have he' : (e == 0) = false := by simpa using he
    have HP := hide (show rfix n (b, e) = (0, b, e) by unfold rfix Buf.rget; rw [if_neg he])
    clear he
    rcases hn with hn | hn
    all_goals
      go_enter Try.func56, Try.ntmps56
      go_wp2_with fail
      refine (fail_keep p 1 e _ hc0 he').mono ?_
      rintro r w' ⟨rfl, rfl⟩
      go_wp2
      go_ret
      rw [HP.out]
      exact ⟨rfl, h, Kept.refl _ _ _⟩
/-- a number of any width -/
theorem rfix_any (N p : Nat) (s : List UInt8 × Int) (n : Int) (w : World) (h : Rd w N p s) :
    Calls Try.prog 56 #[.pointer (some ⟨p, 0, none⟩), .int .i64 n] w fun r w' => r = .returned (.int .u64 (rfix n s).1) ∧ Rd w' N p (rfix n s).2 ∧ Kept w.heap.size [p] w w' := by
  by_cases hn : n < 1 ∨ 8 < n
  · exact rfixed_no N p s n w h hn
  · obtain ⟨m, rfl⟩ := Int.eq_ofNat_of_zero_le (show 0 ≤ n by omega)
    have := rfixed_any N p s m w h (by omega) (by omega)
    rw [rfix_in s m (by omega) (by omega)]
    exact this
end Go.Proofs.Ytldgnallbkpchaa
