/- Chapter 41: whether two states are the same; a state of the document's as the program's. -/
import Derived.Test.YtbccbfmgjeknhaaLu
namespace Go.Proofs.Ytbccbfmgjeknhaa
open Go.RowKit
theorem run_eq_u32s (d : Nat) (L : List Nat) (hL : L.length = 64) (w : World) : (Op.equalIn (d + 2) 32 (.agg (L.map u32v).toArray) (.agg (L.map u32v).toArray)).run Try.prog w = .ok true w := by
  obtain ⟨i0, hi0, hz0, hs0, hb0⟩ := info_parts u32Info
  rw [Op.equalIn]
  simp only [Sem.run_bind, run_underlying Try.underlying32, Result.andThen_ok, sizeOf, typeInfo, Std.Legacy.Range.forIn_eq_forIn_range', Std.Legacy.Range.size, Nat.sub_zero, Nat.add_sub_cancel, Nat.div_one]
  simp only [run_program, Result.andThen_ok, hi0, Sem.run_pure, hs0]
  have hl : ∀ i ∈ List.range' 0 64 1, i < 64 := fun i hi => by simpa using (List.mem_range'_1.1 hi).2
  generalize List.range' 0 64 1 = l at hl ⊢
  induction l with
  | nil => simp
  | cons i l ih =>
    have hi : i < 64 := hl i (by simp)
    have px : (part 31 (L.map u32v).toArray (i * 1)).run Try.prog w = .ok (u32v L[i]) w := by
      simp [part, isAgg, run_underlying Try.underlying31, List.getElem?_eq_getElem (show i < L.length by omega)]
    have pe : (Op.equalIn (d + 1) 31 (u32v L[i]) (u32v L[i])).run Try.prog w = .ok true w := by
      rw [u32v, run_equalIn_int w d _ .u32 .u32 _ _ Try.underlying31]
      simp
    simp only [List.forIn_cons, Sem.run_bind, px, pe, Result.andThen_ok]
    simp only [Bool.not_true, Bool.false_eq_true, if_false, Sem.run_pure, Result.andThen_ok]
    exact ih fun j hj => hl j (by simp [hj])
theorem lcs_of (l : Lg) (h : l.of.length = 64) : (lcs l).toArray.extract 2 66 = (l.of.map u32v).toArray := by
  unfold lcs
  rw [List.extract_toArray]
  congr 1
  rw [List.extract_eq_take_drop]
  simp only [List.drop_succ_cons, List.drop_zero]
  exact List.take_of_length_le (by simp [h])
theorem eqFields_cons {P : Program} {d : Nat} {xs : Array Value} {f : Field} {fs : List Field} {a : Value} {w : World} (h : f.name ≠ "_") (ha : (part f.type xs f.offset).run P w = .ok a w) (he : (Op.equalIn d f.type a a).run P w = .ok true w) (hxy : (Op.eqFields d xs xs fs).run P w = .ok true w) : (Op.eqFields d xs xs (f :: fs)).run P w = .ok true w := by
  unfold Op.eqFields
  rw [if_pos h]
  simp only [Sem.run_bind, ha, he, Result.andThen_ok, Bool.not_true, Bool.false_eq_true, if_false]
  exact hxy
theorem run_eq_lg (d : Nat) (l : Lg) (h : l.of.length = 64) (w : World) : (Op.equalIn (d + 3) 34 (.agg (lcs l).toArray) (.agg (lcs l).toArray)).run Try.prog w = .ok true w := by
  have hf : (Try.prog.fieldsOf 34).toList = [{ name := "Count", type := 2, offset := 0, embedded := false, tag := "", pkgPath := "", byteOffset := 0 }, { name := "Sum", type := 30, offset := 1, embedded := false, tag := "", pkgPath := "", byteOffset := 8 }, { name := "Of", type := 32, offset := 2, embedded := false, tag := "", pkgPath := "", byteOffset := 16 }] := by
    unfold Program.fieldsOf
    rw [Try.underlying34]
  have hs : Try.prog.underlying 34 = some (.struct (Try.prog.fieldsOf 34)) := by
    unfold Program.fieldsOf
    rw [Try.underlying34]
  have hi : (sizeOf 32).run Try.prog w = .ok 64 w := by
    have h64 : (Try.prog.info? 32).map (·.size) = some 64 := by kernel_rfl
    cases hq : Try.prog.info? 32 with
    | none => rw [hq] at h64; cases h64
    | some i =>
      have h65 : i.size = 64 := by simpa [hq] using h64
      simp [sizeOf, typeInfo, hq, h65]
  have p0 : (part 2 (lcs l).toArray 0).run Try.prog w = .ok (.int .i64 l.count) w := by
    simp [part, isAgg, run_underlying Try.underlying2, lcs]
  have p1 : (part 30 (lcs l).toArray 1).run Try.prog w = .ok (.int .u64 (l.sum : Int)) w := by
    simp [part, isAgg, run_underlying Try.underlying30, lcs]
  have p2 : (part 32 (lcs l).toArray 2).run Try.prog w = .ok (.agg (l.of.map u32v).toArray) w := by
    have h0 : (isAgg 32).run Try.prog w = .ok true w := by
      simp [isAgg, run_underlying Try.underlying32]
    unfold part
    simp only [Sem.run_bind, h0, Result.andThen_ok, if_true, hi, Sem.run_pure]
    rw [← lcs_of l h]
  have q0 : (Op.equalIn (d + 2) 2 (.int .i64 l.count) (.int .i64 l.count)).run Try.prog w = .ok true w := by
    rw [run_equalIn_int w (d + 1) 2 .i64 .i64 l.count l.count Try.underlying2, beq_self_eq_true]
  have q1 : (Op.equalIn (d + 2) 30 (.int .u64 (l.sum : Int)) (.int .u64 (l.sum : Int))).run Try.prog w = .ok true w := by
    rw [run_equalIn_int w (d + 1) 30 .u64 .u64 (l.sum : Int) (l.sum : Int) Try.underlying30, beq_self_eq_true]
  have q2 := run_eq_u32s d l.of h w
  rw [show d + 3 = (d + 2) + 1 from rfl, run_equalIn_struct w (d + 2) _ _ _ hs Try.stoodInHeld34, hf]
  refine eqFields_cons (by simp) p0 q0 (eqFields_cons (by simp) p1 q1 (eqFields_cons (by simp) p2 q2 ?_))
  unfold Op.eqFields
  rfl
theorem run_eql_lg (l : Lg) (h : l.of.length = 64) (w : World) : (binOp .eql 34 (.agg (lcs l).toArray) (.agg (lcs l).toArray)).run Try.prog w = .ok (.bool true) w := by
  have e := run_eq_lg 9997 l h w
  rw [run_eql_struct, e]
  rfl
theorem wpList_wanted {P : Program} {ops : Array Oper} {rest : List Oper} {o : Oper} {a : Act} {w : World} {Q : Exit → Act → World → Prop} (hw : Region.wanted o (yielded ops a.tmps) = true)
    (h : ∀ K : Act → World → Prop, (∀ a w, wpList P ops Q rest a w → K a w) → o.wp P a w K Q) : wpList P ops Q (o :: rest) a w := wpList_step fun K hK => by
  rw [if_pos hw]
  exact h K hK
theorem wpList_load_want {P : Program} {ops : Array Oper} {rest : List Oper} {op : Oper} {a : Act} {w : World} {Q : Exit → Act → World → Prop} (hw : Region.wanted op (yielded ops a.tmps) = true) (ty : TypeId) (x : Operand) (ho : op.op = .load ty x)
    (b o : Nat) (hx : a.eval x = .pointer (some ⟨b, o, none⟩)) (cs : List Value) (d : TypeDesc) (hc : w.rangeAt b o cs)
    (hu : P.underlying ty = some d) (hd : d.isRow = true) (hi : (P.info? ty).map (·.size) = some cs.length)
    (h : wpList P ops Q rest (a.put op.dst (.agg cs.toArray)) w) : wpList P ops Q (op :: rest) a w :=
  wpList_wanted hw fun _ hK => wp_load_mid ty x ho b o hx cs d hc hu hd hi (hK _ _ h)
theorem wpList_eql_lg {ops : Array Oper} {rest : List Oper} {op : Oper} {a : Act} {w : World} {Q : Exit → Act → World → Prop} (hw : Region.wanted op (yielded ops a.tmps) = true) (x y : Operand) (z : TypeId) (ho : op.op = .binOp .eql 34 x y z)
    (l : Lg) (hl : l.of.length = 64) (hx : a.eval x = .agg (lcs l).toArray) (hy : a.eval y = .agg (lcs l).toArray)
    (h : wpList Try.prog ops Q rest (a.put op.dst (.bool true)) w) : wpList Try.prog ops Q (op :: rest) a w :=
  wpList_wanted hw fun K hK => by
    unfold Oper.wp execOp
    simp only [ho, hx, hy, Sem.run_bind, run_eqGuard_agg w _ _ _ _ _ _ Try.eqGuardType34, Result.andThen_ok, run_eql_lg l hl]
    exact hK _ _ h
set_option maxRecDepth 100000 in
set_option maxHeartbeats 1000000 in
theorem same41_any (s : St) (w : World) (h : s.Ok) : Calls Try.prog 22 #[.agg (scs s).toArray, .agg (scs s).toArray] w fun r w' => r = .returned (.bool true) ∧ Grow w w' := by
  have hb2 := Box.new w (scs s).toArray 42 rfl
  have hb3 := Box.new (w.alloc (.cells (scs s).toArray 42)) (scs s).toArray 36 rfl
  rw [show (w.alloc (.cells (scs s).toArray 42)).heap.size = w.heap.size + 1 from by simp] at hb3
  have hb2 := hb2.grow ((Grow.refl _).alloc (.cells (scs s).toArray 36))
  have hg := ((Grow.refl w).alloc (.cells (scs s).toArray 42)).alloc (.cells (scs s).toArray 36)
  have hr2 := hide (range_of hb2 _ (scs_l s))
  have hr3 := hide (range_of hb3 _ (scs_l s))
  have hC0 : (scs s).toArray[0]? = some (.int .i64 s.no) := rfl
  have hC1 : (scs s).toArray[1]? = some (.int .u64 (s.set : Int)) := rfl
  have hsz := hide (lg_size s.l h.l.len)
  have hlen := hide h.l.len
  clear hb2 hb3 h
  generalize (scs s).toArray = C at *
  obtain ⟨no, set, l⟩ := s
  dsimp only at *
  go_enter Try.func22, Try.ntmps22
  go_wp2_with (first | refine wpList_load_want rfl 34 (.tmp 18) rfl w.heap.size 2 rfl (lcs l) _ hr2.out Try.underlying34 rfl hsz.out ?_ | refine wpList_load_want rfl 34 (.tmp 20) rfl (w.heap.size + 1) 2 rfl (lcs l) _ hr3.out Try.underlying34 rfl hsz.out ?_ | refine wpList_eql_lg rfl (.tmp 19) (.tmp 21) _ rfl l hlen.out rfl rfl ?_)
  go_ret
  exact ⟨rfl, hg⟩
end Go.Proofs.Ytbccbfmgjeknhaa
