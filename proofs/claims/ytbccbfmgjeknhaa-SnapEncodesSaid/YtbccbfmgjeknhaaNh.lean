/- Chapter 41: a state of the document's as the program's (ours). -/
import Derived.Test.YtbccbfmgjeknhaaLz
import Derived.Test.YtbccbfmgjeknhaaLw
namespace Go.Proofs.Ytbccbfmgjeknhaa
open Go.RowKit
theorem results_mid1' {fn : Func} {p : Tmp} {ty : TypeId} (h : fn.results = #[.cell p ty]) (tmps : Array Value) (P : Program) (w : World) :
    (results fn tmps).run P w = ((asAddr (tmps.getD p undef)).run P w).andThen fun a w₁ => (loadVar ty a).run P w₁ := by
  simp only [results, h]
  simp [Sem.run_bind, Result.andThen]
theorem results_mid1 {P : Program} {fn : Func} {p : Tmp} {ty : TypeId} (h : fn.results = #[.cell p ty]) (tmps : Array Value) (w : World) (b o : Nat) (cs : List Value) (d : TypeDesc) (hp : tmps.getD p undef = .pointer (some ⟨b, o, none⟩)) (hc : w.rangeAt b o cs)
    (hu : P.underlying ty = some d) (hd : d.isRow = true) (hi : (P.info? ty).map (·.size) = some cs.length) : (results fn tmps).run P w = .ok (.agg cs.toArray) w := by
  rw [results_mid1' h, hp]
  simp [asAddr, Result.andThen, run_loadVar_mid w b o ty cs d hc hu hd hi]
set_option maxRecDepth 100000 in
theorem built_st (no : Int) (set : Nat) (l : Lg) (h : l.of.length = 64) : Try.prog.built 42 [(0, .int .i64 no), (1, .int .u64 (set : Int)), (2, .agg (lcs l).toArray)] = some (scs ⟨no, set, l⟩).toArray := by
  have hi : (Try.prog.info? 42).map (·.zero) = some (some (.agg Try.zeroCells42)) := by kernel_rfl
  have hp : (match Try.prog.underlying 42 with | some (.struct fs) => fs.toList.mapM (fun f => (Try.prog.info? f.type).map fun i => (f.offset, i.size)) | _ => none) = some [(0, 1), (1, 1), (2, 66)] := by kernel_rfl
  have hz : (scs zeroSt).length = 68 := by simp [scs, lcs, zeroSt, zeroLg]
  unfold Program.built
  cases hq : Try.prog.info? 42 with
  | none => rw [hq] at hi; cases hi
  | some it =>
    have hzz : it.zero = some (.agg Try.zeroCells42) := by
      rw [hq] at hi
      exact Option.some.inj hi
    rewrite [Try.underlying42] at hp ⊢
    dsimp only at hp ⊢
    rewrite [hzz, hp]
    dsimp only
    rewrite [show Value.cells (.agg Try.zeroCells42) = Try.zeroCells42 from rfl, zero_st]
    exact fill_rst _ _ _ _ _ rfl rfl rfl hz (by simp [lcs, h]) rfl rfl
theorem wpList_built_st {ops : Array Oper} {rest : List Oper} {op : Oper} {a : Act} {w : World} {Q : Exit → Act → World → Prop} (hgd : op.guard = none) (x y z : Operand) (ho : op.op = .build 42 #[(0, x), (1, y), (2, z)])
    (no : Int) (set : Nat) (l : Lg) (hl : l.of.length = 64) (hx : a.eval x = .int .i64 no) (hy : a.eval y = .int .u64 (set : Int)) (hz : a.eval z = .agg (lcs l).toArray)
    (h : wpList Try.prog ops Q rest (a.put op.dst (.agg (scs ⟨no, set, l⟩).toArray)) w) : wpList Try.prog ops Q (op :: rest) a w :=
  wpList_plain hgd fun K hK => by
    unfold Oper.wp execOp
    have e : Try.prog.built 42 (Array.map (fun (p : Nat × Operand) => (p.1, a.eval p.2)) #[(0, x), (1, y), (2, z)]).toList = some (scs ⟨no, set, l⟩).toArray := by
      simp only [List.map_toArray, List.map_cons, List.map_nil, hx, hy, hz]
      exact built_st no set l hl
    simp only [ho, Sem.run_bind, run_build w _ _ _ e, Result.andThen_ok]
    exact hK _ _ h
set_option maxRecDepth 100000 in
set_option maxHeartbeats 1000000 in
theorem ours_any (s : St) (w : World) (h : s.Ok) : Calls Try.prog 18 #[.agg (scs s).toArray] w fun r w' => r = .returned (.agg (scs s).toArray) ∧ Grow w w' := by
  have hb2 := Box.new w (scs s).toArray 36 rfl
  have hg1 := ((Grow.refl w).alloc (.cells (scs s).toArray 36)).alloc (.cells Try.zeroCells42 42)
  have hb2 := hb2.grow ((Grow.refl _).alloc (.cells Try.zeroCells42 42))
  have hb3 := Box.new (w.alloc (.cells (scs s).toArray 36)) Try.zeroCells42 42 rfl
  rw [show (w.alloc (.cells (scs s).toArray 36)).heap.size = w.heap.size + 1 from by simp] at hb3
  have hra := hide (range_of hb2 _ (scs_l s))
  have hC0 : (scs s).toArray[0]? = some (.int .i64 s.no) := rfl
  have hC1 : (scs s).toArray[1]? = some (.int .u64 (s.set : Int)) := rfl
  have hszl := hide (lg_size s.l h.l.len)
  have hsz := hide (st_size s h.l.len)
  have hone := hide (scs_one s)
  have hlen := hide h.l.len
  have hz : Try.zeroCells42.size = (scs s).length := by rw [zero_st, List.size_toArray, scs_len s h]; decide
  have hbt := hb3.there
  rw [hz] at hbt
  have hst : Below (w.heap.size + 1) ((w.alloc (.cells (scs s).toArray 36)).alloc (.cells Try.zeroCells42 42)) (((w.alloc (.cells (scs s).toArray 36)).alloc (.cells Try.zeroCells42 42)).setCells (w.heap.size + 1) 0 (scs s)) := Below.setCells (Nat.le_refl _) _ _ (Below.refl _ _)
  have hg2 := hide (Below.trans hg1 (Below.mono hst (by omega)))
  clear hb2 hb3 hst hg1 hz h
  obtain ⟨C, hC⟩ : ∃ C, Hid (scs s = C) := ⟨_, hide rfl⟩
  rw [hC.out] at hsz hone hbt hg2 hra hC0 hC1 ⊢
  obtain ⟨no, set, l⟩ := s
  dsimp only at *
  go_enter Try.func18, Try.ntmps18
  go_wp2_with (first | (refine wpList_built_st rfl (.tmp 4) (.tmp 6) (.tmp 8) rfl no set l hlen.out ?_ ?_ ?_ ?_; (rfl); (rfl); (rfl); (rewrite [hC.out])) | (refine wpList_store_mid rfl 42 (.tmp 2) (.tmp 9) rfl (w.heap.size + 1) 0 _ rfl rfl ?_ ?_ ?_ ?_; (rw [List.size_toArray]; exact hbt); (rw [List.size_toArray]; exact hsz.out); (exact all_oneCell_toArray hone.out)) | (refine wpList_load_mid rfl 34 (.tmp 7) rfl w.heap.size 2 rfl (lcs l) _ hra.out Try.underlying34 rfl hszl.out ?_))
  refine bodyPost_ret (results_mid1 rfl _ _ (w.heap.size + 1) 0 C _ rfl (World.rangeAt_setCells_same _ _ _ _ hbt) Try.underlying42 rfl hsz.out) rfl ?_
  exact ⟨rfl, hg2.out⟩
end Go.Proofs.Ytbccbfmgjeknhaa
