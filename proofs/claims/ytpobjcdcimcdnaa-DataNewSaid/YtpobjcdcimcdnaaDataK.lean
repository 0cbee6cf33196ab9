/- The walk of the statement DataNew. -/
import Derived.Test.YtpobjcdcimcdnaaFewT
import Derived.Deep.CutRange
namespace Go.Proofs.Ytpobjcdcimcdnaa
open Go.RowKit
theorem Kept.freshD {w w1 w2 : World} {A : Option Addr} (hk : Kept w1.heap.size (blk A).toList w1 w2) (hg : Grow w w1) (hA : ∀ q, blk A = some q → w.heap.size ≤ q) : Grow w w2 :=
  Below.trans hg (Kept.to_below (hk.mono hg.size (fun k hk hm => by have := hA k (by simpa using hm); omega)))
theorem Bytes.notbox {w wl : World} {A B : Option Addr} {m : List UInt8} {g n c : Nat} {p : Pkt} (h3 : Bytes w A m) (hf : ∀ b o, A = some ⟨b, o, none⟩ → o = 0) (x0 : Box w g (pcells p B n c)) (hK : Kept w.heap.size [g] w wl) : Bytes wl A m := by
  intro hne
  refine h3.kept hK (fun q hq hm => ?_) hne
  obtain ⟨b, o, e, hc⟩ := h3 hne
  have ho := hf b o e
  subst ho
  subst e
  have hb : b = q := by simpa [blk] using hq
  have hg : q = g := by simpa using hm
  subst hb
  subst hg
  have h1 := hc 0 (List.length_pos_iff.2 hne)
  have h2 := x0.cell 0
  rw [Nat.zero_add] at h1
  rw [h1] at h2
  simp at h2
theorem u8_u8d (x : Int) : u8 (u8of x) = .int .u8 (IntKind.u8.wrap x) := byte_val _ (u8w_bounds x).1 (u8w_bounds x).2
set_option maxRecDepth 100000 in
set_option maxHeartbeats 8000000 in
theorem dataNew_any (t f q : Int) (A : Option Addr) (l : List UInt8) (c : Nat) (w : World) (hl : l.length ≤ c) (_hc : c ≤ 9223372036854775807) (hb : Bytes w A l) :
    Calls Try.prog 10 #[kv t f q, .slice A l.length c] w fun e w' => e = .returned (.bool true) ∧ Grow w w' := by
  obtain ⟨m, hm⟩ : ∃ m, m = l.take 1100 := ⟨_, rfl⟩
  have hmm : m.length = min 1100 l.length := by rw [hm, List.length_take]
  have hb := hm ▸ hb.take 1100
  have hmin : (if 1100 < (l.length : Int) then (1100 : Int) else (l.length : Int)) = ((m.length : Nat) : Int) := by split <;> omega
  have hmc : m.length ≤ c := by omega
  have hmN : m.length ≤ 1100 := by omega
  clear hm hmm hl
  go_enter Try.func10, Try.ntmps10
  go_wp2_with (at_builtin; refine wpList_append_fresh byteT rfl (.tmp 8) (.tmp 13) rfl (Own.made' _ (w.heap.size + 1) (w.heap.size + 1) (by simp) (by omega)) (by simp <;> omega) ((hb.alloc _).alloc _) rfl rfl (by omega) ?_)
  intro A1 c1 w1 hown1 hb1
  have hb1 := Grow.trans ((Grow.refl _).alloc _) hb1
  obtain ⟨k0, hg1⟩ := peel1 hb1
  have k0_ := hide k0
  clear k0
  have k0 := k0_
  clear k0_
  have hb := hb.grow hg1
  have HG1 := hide (show Grow w w1 from hg1)
  have hsz1 : w.heap.size ≤ w1.heap.size := HG1.out.size
  have hq1 : w.heap.size ≤ w1.heap.size := hg1.size
  have HS1 := hide hg1
  clear hb1 hg1
  obtain ⟨ck0, fk0, lk0⟩ := (show Box w1 _ _ from k0.out).rules
  have h1 := hown1.bytes
  have hc1 := hown1.le
  have hge1 := fun q h => hown1.base (q := q) h
  have hlt1 := fun q h => hown1.lt (q := q) h
  clear hb
  have HA := hide (fun W h => datanew_any t f q A1 m c1 W h (by omega) hc1.1)
  have HX := hide (fun W => works10_any W)
  have HN := hide (fun A c W => refdatanew_any t f q A m.length c W)
  go_upto_region 2 with fail
  go_cut [5] from 15 to 19 (fun s5 wx => ∃ (g : Nat) (A3 : Option Addr) (c3 : Nat), s5 = .pointer (some ⟨g, 0, none⟩) ∧ w1.heap.size ≤ g ∧ Box wx g (pcells (dataP t f q 1) A3 m.length c3) ∧ Bytes wx A3 m ∧ (∀ q, blk A3 = some q → w1.heap.size ≤ q) ∧ Grow w1 wx)
  case first =>
    refine wpR_region (Grow) [6] (by kernel_rfl) ?_
    have hgx : Grow w1 w1.drew := (Grow.refl w1).drew
    have hsz : w1.heap.size ≤ w1.drew.heap.size := hgx.size
    have h1 := h1.drew
    generalize World.drew w1 = wx at *
    have Rk0 := fun (W : World) (h : Grow wx W) => (((show Box w1 _ _ from k0.out).grow hgx).grow h).cell
    have Fk0 := fun (W : World) (h : Grow wx W) => (((show Box w1 _ _ from k0.out).grow hgx).grow h).fz
    refine wpR_take grow_rf grow_tr 0 rfl (by kernel_rfl) (fun _ _ _ h => h) rfl (v := ?_) ?_ ?_
    rotate_left
    · (intro w' hG; go_simp; try with_reducible rfl)
    try simp only [Act.put, List.setIfInBounds_toArray, List.set_cons_zero, List.set_cons_succ]
    refine wpR_take grow_rf grow_tr 2 rfl (by kernel_rfl) (fun _ _ _ h => h) rfl (v := ?_) ?_ ?_
    rotate_left
    · (intro w' hG; go_simp; try with_reducible rfl)
    try simp only [Act.put, List.setIfInBounds_toArray, List.set_cons_zero, List.set_cons_succ]
    refine wpR_two 1 5 rfl rfl (by kernel_rfl) rfl rfl (fun K hK => ?_) (fun K hK => ?_)
    · go_simp
      skip
      refine hK.out _ _ (.inr ((Grow.refl wx).alloc _)) ?_
      clear hK
      try simp only [Act.put, List.setIfInBounds_toArray, List.set_cons_zero, List.set_cons_succ]
      have ho0 := Own.made' wx w1.heap.size wx.heap.size rfl (by omega)
      have hb := (Grow.refl wx).alloc (.cells #[] 5)
      generalize World.alloc wx (.cells #[] 5) = v1 at *
      have hgx := Grow.trans hgx hb
      have hsz : w1.heap.size ≤ v1.heap.size := hgx.size
      have h1 := h1.grow hb
      clear hb
      refine wpR_two 3 5 rfl rfl (by kernel_rfl) rfl rfl (fun K hK => ?_) (fun K hK => ?_)
      · refine oper_append_fresh byteT (.tmp 16) (.tmp 17) rfl ho0 (by omega) h1 rfl rfl (by omega) ?_
        intro A3 c3 v13 hown2 hb
        refine hK.out _ _ (.inr (hb)) ?_
        clear hK
        try simp only [Act.put, List.setIfInBounds_toArray, List.set_cons_zero, List.set_cons_succ]
        have h3 := hown2.bytes
        have hge3 := fun q h => hown2.base (q := q) h
        have hf3 : ∀ b o, A3 = some ⟨b, o, none⟩ → o = 0 := fun b o e => by rcases hown2.form with ⟨h0, _, _⟩ | ⟨g, hA, _⟩ <;> simp_all
        clear hown2 ho0
        have hgx := Grow.trans hgx hb
        have hsz : w1.heap.size ≤ v13.heap.size := hgx.size
        have h1 := h1.grow hb
        clear hb
        refine wpR_two 4 5 rfl rfl (by kernel_rfl) rfl rfl (fun K hK => ?_) (fun K hK => ?_)
        · go_simp
          refine (HN.out A3 c3 _).mono ?_
          rintro r v134 ⟨rfl, hb⟩
          refine hK.out _ _ (.inr (hb)) ?_
          clear hK
          try simp only [Act.put, List.setIfInBounds_toArray, List.set_cons_zero, List.set_cons_succ]
          have hgx := Grow.trans hgx hb
          have hsz : w1.heap.size ≤ v134.heap.size := hgx.size
          have h1 := h1.grow hb
          have h3 := h3.grow hb
          clear hb
          refine wpR_call 5 rfl (by kernel_rfl) rfl fun K hK => ?_
          go_simp
          skip
          refine hK.out _ _ (.inr ((Grow.refl v134).alloc _)) ?_
          clear hK
          try simp only [Act.put, List.setIfInBounds_toArray, List.set_cons_zero, List.set_cons_succ]
          have x0 := Box.new v134 (pcells noP none 0 0) 65 rfl
          have hx0 : w1.heap.size ≤ v134.heap.size := by omega
          have hb := (Grow.refl v134).alloc (.cells (pcells noP none 0 0) 65)
          generalize World.alloc v134 _ = v1345 at *
          have hgx := Grow.trans hgx hb
          have hsz : w1.heap.size ≤ v1345.heap.size := hgx.size
          have h1 := h1.grow hb
          have h3 := h3.grow hb
          clear hb
          obtain ⟨cx0, fx0, lx0⟩ := x0.rules
          refine wpR_call 6 rfl (by kernel_rfl) rfl fun K hK => ?_
          go_simp
          skip
          refine hK.out _ _ (.inl (by simp)) ?_
          clear hK
          try simp only [Act.put, List.setIfInBounds_toArray, List.set_cons_zero, List.set_cons_succ]
          refine wpR_done (by kernel_rfl) ?_ _
          generalize hW : (World.setCell (World.setCell (World.setCell (World.setCell (World.setCell (World.setCell (World.setCell (World.setCell (World.setCell (World.setCell (World.setCell (World.setCell _ _ _) _ _) _ _) _ _) _ _) _ _) _ _) _ _) _ _) _ _) _ _) _ _) = wl
          have y0 := Box.store12 x0 hW
          have hK := Kept.store12 hW
          have hgl := Kept.fresh1 hK hgx hx0
          have hl3 : Bytes wl A3 m := h3.notbox hf3 x0 hK
          go_wp2
          go_meet
          exact ⟨_, A3, c3, rfl, hx0, y0, hl3, hge3, hgl⟩
        · go_simp
          skip
          refine hK.out _ _ (.inr ((Grow.refl v13).alloc _)) ?_
          clear hK
          try simp only [Act.put, List.setIfInBounds_toArray, List.set_cons_zero, List.set_cons_succ]
          have x0 := Box.new v13 (pcells noP none 0 0) 65 rfl
          have hx0 : w1.heap.size ≤ v13.heap.size := by omega
          have hb := (Grow.refl v13).alloc (.cells (pcells noP none 0 0) 65)
          generalize World.alloc v13 _ = v135 at *
          have hgx := Grow.trans hgx hb
          have hsz : w1.heap.size ≤ v135.heap.size := hgx.size
          have h1 := h1.grow hb
          have h3 := h3.grow hb
          clear hb
          refine wpR_call 4 rfl (by kernel_rfl) rfl fun K hK => ?_
          go_simp
          refine (HN.out A3 c3 _).mono ?_
          rintro r v1354 ⟨rfl, hb⟩
          refine hK.out _ _ (.inr (hb)) ?_
          clear hK
          try simp only [Act.put, List.setIfInBounds_toArray, List.set_cons_zero, List.set_cons_succ]
          have hgx := Grow.trans hgx hb
          have hsz : w1.heap.size ≤ v1354.heap.size := hgx.size
          have h1 := h1.grow hb
          have h3 := h3.grow hb
          have x0 := x0.grow hb
          clear hb
          obtain ⟨cx0, fx0, lx0⟩ := x0.rules
          refine wpR_call 6 rfl (by kernel_rfl) rfl fun K hK => ?_
          go_simp
          skip
          refine hK.out _ _ (.inl (by simp)) ?_
          clear hK
          try simp only [Act.put, List.setIfInBounds_toArray, List.set_cons_zero, List.set_cons_succ]
          refine wpR_done (by kernel_rfl) ?_ _
          generalize hW : (World.setCell (World.setCell (World.setCell (World.setCell (World.setCell (World.setCell (World.setCell (World.setCell (World.setCell (World.setCell (World.setCell (World.setCell _ _ _) _ _) _ _) _ _) _ _) _ _) _ _) _ _) _ _) _ _) _ _) _ _) = wl
          have y0 := Box.store12 x0 hW
          have hK := Kept.store12 hW
          have hgl := Kept.fresh1 hK hgx hx0
          have hl3 : Bytes wl A3 m := h3.notbox hf3 x0 hK
          go_wp2
          go_meet
          exact ⟨_, A3, c3, rfl, hx0, y0, hl3, hge3, hgl⟩
      · go_simp
        skip
        refine hK.out _ _ (.inr ((Grow.refl v1).alloc _)) ?_
        clear hK
        try simp only [Act.put, List.setIfInBounds_toArray, List.set_cons_zero, List.set_cons_succ]
        have x0 := Box.new v1 (pcells noP none 0 0) 65 rfl
        have hx0 : w1.heap.size ≤ v1.heap.size := by omega
        have hb := (Grow.refl v1).alloc (.cells (pcells noP none 0 0) 65)
        generalize World.alloc v1 _ = v15 at *
        have hgx := Grow.trans hgx hb
        have hsz : w1.heap.size ≤ v15.heap.size := hgx.size
        have h1 := h1.grow hb
        have ho0 := ho0.below hb
        clear hb
        refine wpR_call 3 rfl (by kernel_rfl) rfl fun K hK => ?_
        refine oper_append_fresh byteT (.tmp 16) (.tmp 17) rfl ho0 (by omega) h1 rfl rfl (by omega) ?_
        intro A3 c3 v153 hown2 hb
        refine hK.out _ _ (.inr (hb)) ?_
        clear hK
        try simp only [Act.put, List.setIfInBounds_toArray, List.set_cons_zero, List.set_cons_succ]
        have h3 := hown2.bytes
        have hge3 := fun q h => hown2.base (q := q) h
        have hf3 : ∀ b o, A3 = some ⟨b, o, none⟩ → o = 0 := fun b o e => by rcases hown2.form with ⟨h0, _, _⟩ | ⟨g, hA, _⟩ <;> simp_all
        clear hown2 ho0
        have hgx := Grow.trans hgx hb
        have hsz : w1.heap.size ≤ v153.heap.size := hgx.size
        have h1 := h1.grow hb
        have x0 := x0.grow hb
        clear hb
        refine wpR_call 4 rfl (by kernel_rfl) rfl fun K hK => ?_
        go_simp
        refine (HN.out A3 c3 _).mono ?_
        rintro r v1534 ⟨rfl, hb⟩
        refine hK.out _ _ (.inr (hb)) ?_
        clear hK
        try simp only [Act.put, List.setIfInBounds_toArray, List.set_cons_zero, List.set_cons_succ]
        have hgx := Grow.trans hgx hb
        have hsz : w1.heap.size ≤ v1534.heap.size := hgx.size
        have h1 := h1.grow hb
        have x0 := x0.grow hb
        have h3 := h3.grow hb
        clear hb
        obtain ⟨cx0, fx0, lx0⟩ := x0.rules
        refine wpR_call 6 rfl (by kernel_rfl) rfl fun K hK => ?_
        go_simp
        skip
        refine hK.out _ _ (.inl (by simp)) ?_
        clear hK
        try simp only [Act.put, List.setIfInBounds_toArray, List.set_cons_zero, List.set_cons_succ]
        refine wpR_done (by kernel_rfl) ?_ _
        generalize hW : (World.setCell (World.setCell (World.setCell (World.setCell (World.setCell (World.setCell (World.setCell (World.setCell (World.setCell (World.setCell (World.setCell (World.setCell _ _ _) _ _) _ _) _ _) _ _) _ _) _ _) _ _) _ _) _ _) _ _) _ _) = wl
        have y0 := Box.store12 x0 hW
        have hK := Kept.store12 hW
        have hgl := Kept.fresh1 hK hgx hx0
        have hl3 : Bytes wl A3 m := h3.notbox hf3 x0 hK
        go_wp2
        go_meet
        exact ⟨_, A3, c3, rfl, hx0, y0, hl3, hge3, hgl⟩
    · go_simp
      skip
      refine hK.out _ _ (.inr ((Grow.refl wx).alloc _)) ?_
      clear hK
      try simp only [Act.put, List.setIfInBounds_toArray, List.set_cons_zero, List.set_cons_succ]
      have x0 := Box.new wx (pcells noP none 0 0) 65 rfl
      have hx0 : w1.heap.size ≤ wx.heap.size := by omega
      have hb := (Grow.refl wx).alloc (.cells (pcells noP none 0 0) 65)
      generalize World.alloc wx _ = v5 at *
      have hgx := Grow.trans hgx hb
      have hsz : w1.heap.size ≤ v5.heap.size := hgx.size
      have h1 := h1.grow hb
      clear hb
      refine wpR_call 1 rfl (by kernel_rfl) rfl fun K hK => ?_
      go_simp
      skip
      refine hK.out _ _ (.inr ((Grow.refl v5).alloc _)) ?_
      clear hK
      try simp only [Act.put, List.setIfInBounds_toArray, List.set_cons_zero, List.set_cons_succ]
      have ho0 := Own.made' v5 w1.heap.size v5.heap.size rfl (by omega)
      have hb := (Grow.refl v5).alloc (.cells #[] 5)
      generalize World.alloc v5 (.cells #[] 5) = v51 at *
      have hgx := Grow.trans hgx hb
      have hsz : w1.heap.size ≤ v51.heap.size := hgx.size
      have h1 := h1.grow hb
      have x0 := x0.grow hb
      clear hb
      refine wpR_call 3 rfl (by kernel_rfl) rfl fun K hK => ?_
      refine oper_append_fresh byteT (.tmp 16) (.tmp 17) rfl ho0 (by omega) h1 rfl rfl (by omega) ?_
      intro A3 c3 v513 hown2 hb
      refine hK.out _ _ (.inr (hb)) ?_
      clear hK
      try simp only [Act.put, List.setIfInBounds_toArray, List.set_cons_zero, List.set_cons_succ]
      have h3 := hown2.bytes
      have hge3 := fun q h => hown2.base (q := q) h
      have hf3 : ∀ b o, A3 = some ⟨b, o, none⟩ → o = 0 := fun b o e => by rcases hown2.form with ⟨h0, _, _⟩ | ⟨g, hA, _⟩ <;> simp_all
      clear hown2 ho0
      have hgx := Grow.trans hgx hb
      have hsz : w1.heap.size ≤ v513.heap.size := hgx.size
      have h1 := h1.grow hb
      have x0 := x0.grow hb
      clear hb
      refine wpR_call 4 rfl (by kernel_rfl) rfl fun K hK => ?_
      go_simp
      refine (HN.out A3 c3 _).mono ?_
      rintro r v5134 ⟨rfl, hb⟩
      refine hK.out _ _ (.inr (hb)) ?_
      clear hK
      try simp only [Act.put, List.setIfInBounds_toArray, List.set_cons_zero, List.set_cons_succ]
      have hgx := Grow.trans hgx hb
      have hsz : w1.heap.size ≤ v5134.heap.size := hgx.size
      have h1 := h1.grow hb
      have x0 := x0.grow hb
      have h3 := h3.grow hb
      clear hb
      obtain ⟨cx0, fx0, lx0⟩ := x0.rules
      refine wpR_call 6 rfl (by kernel_rfl) rfl fun K hK => ?_
      go_simp
      skip
      refine hK.out _ _ (.inl (by simp)) ?_
      clear hK
      try simp only [Act.put, List.setIfInBounds_toArray, List.set_cons_zero, List.set_cons_succ]
      refine wpR_done (by kernel_rfl) ?_ _
      generalize hW : (World.setCell (World.setCell (World.setCell (World.setCell (World.setCell (World.setCell (World.setCell (World.setCell (World.setCell (World.setCell (World.setCell (World.setCell _ _ _) _ _) _ _) _ _) _ _) _ _) _ _) _ _) _ _) _ _) _ _) _ _) = wl
      have y0 := Box.store12 x0 hW
      have hK := Kept.store12 hW
      have hgl := Kept.fresh1 hK hgx hx0
      have hl3 : Bytes wl A3 m := h3.notbox hf3 x0 hK
      go_wp2
      go_meet
      exact ⟨_, A3, c3, rfl, hx0, y0, hl3, hge3, hgl⟩
  case rest =>
    obtain ⟨g5, A3, c3, rfl, hg5, x5, h3, hge3, hb2⟩ := hcut
    obtain ⟨w2, hw2⟩ : ∃ x, x = wc := ⟨_, rfl⟩
    subst hw2
    clear ck0 fk0 lk0
    have hg2 := hb2
    have k0_ := hide ((show Box w1 _ _ from k0.out).grow hg2)
    clear k0
    have k0 := k0_
    clear k0_
    have h1 := h1.grow hg2
    have HG2 := hide (Grow.trans (show Grow w w1 from HG1.out) hg2)
    clear HG1
    have hsz2 : w.heap.size ≤ w2.heap.size := HG2.out.size
    have hq2 : w1.heap.size ≤ w2.heap.size := hg2.size
    have HS2 := hide hg2
    clear hb2 hg2
    obtain ⟨ck0, fk0, lk0⟩ := (show Box w2 _ _ from k0.out).rules
    have x0 := hide x5
    clear x5
    clear ck0 fk0 lk0
    obtain ⟨ck0, fk0, lk0⟩ := (show Box w2 _ _ from k0.out).rules
    obtain ⟨cx0, fx0, lx0⟩ := (show Box w2 _ _ from x0.out).rules
    have hown1 := hown1.below HS2.out
    go_wp2_with fail
    refine (HA.out _ h1).mono ?_
    rintro r w3 ⟨A4, c4, rfl, hown4, hb3⟩
    have h4 := hown4.bytes
    have hge4 := fun q h => hown4.base (q := q) h
    clear hown4
    clear ck0 fk0 lk0 cx0 fx0 lx0
    have hg3 := hb3
    have k0_ := hide ((show Box w2 _ _ from k0.out).grow hg3)
    clear k0
    have k0 := k0_
    clear k0_
    have x0_ := hide ((show Box w2 _ _ from x0.out).grow hg3)
    clear x0
    have x0 := x0_
    clear x0_
    have h1 := h1.grow hg3
    have h3 := h3.grow hg3
    have HG3 := hide (Grow.trans (show Grow w w2 from HG2.out) hg3)
    clear HG2
    have hsz3 : w.heap.size ≤ w3.heap.size := HG3.out.size
    have hq3 : w2.heap.size ≤ w3.heap.size := hg3.size
    have HS3 := hide hg3
    clear hb3 hg3
    obtain ⟨ck0, fk0, lk0⟩ := (show Box w3 _ _ from k0.out).rules
    obtain ⟨cx0, fx0, lx0⟩ := (show Box w3 _ _ from x0.out).rules
    have hown1 := hown1.below HS3.out
    go_wp2_with fail
    generalize hW4 : World.alloc w3 _ = w4
    have hb4 := Grow.of_eq hW4
    clear hW4
    clear ck0 fk0 lk0 cx0 fx0 lx0
    obtain ⟨y0, hg4⟩ := peel1 hb4
    have k0_ := hide ((show Box w3 _ _ from k0.out).grow hg4)
    clear k0
    have k0 := k0_
    clear k0_
    have x0_ := hide ((show Box w3 _ _ from x0.out).grow hg4)
    clear x0
    have x0 := x0_
    clear x0_
    have y0_ := hide y0
    clear y0
    have y0 := y0_
    clear y0_
    have h1 := h1.grow hg4
    have h3 := h3.grow hg4
    have h4 := h4.grow hg4
    have HG4 := hide (Grow.trans (show Grow w w3 from HG3.out) hg4)
    clear HG3
    have hsz4 : w.heap.size ≤ w4.heap.size := HG4.out.size
    have hq4 : w3.heap.size ≤ w4.heap.size := hg4.size
    have HS4 := hide hg4
    clear hb4 hg4
    obtain ⟨ck0, fk0, lk0⟩ := (show Box w4 _ _ from k0.out).rules
    obtain ⟨cx0, fx0, lx0⟩ := (show Box w4 _ _ from x0.out).rules
    obtain ⟨cy0, fy0, ly0⟩ := (show Box w4 _ _ from y0.out).rules
    have hown1 := hown1.below HS4.out
    have HS := hide (fun W h1 h2 => refsame_any (dataP t f q 1) (dataP t f q 1) A4 A3 m m c4 c3 W h1 h2)
    rw [sameB_refl, beq_self_eq_true, Bool.true_and] at HS
    have HD := hide (fun W => datagood_any (dataP t f q 1) A4 m.length c4 W (by omega))
    have HR := hide (fun W h => refdatagood_any (dataP t f q 1) A3 m c3 W h)
    generalize dataB (dataP t f q 1) m.length = bb at *
    clear HA HN
    go_wp2_with fail
    have Rk0 := fun (W : World) (h : Grow w4.drew W) => ((show Box w4 _ _ from k0.out).grow (Grow.of_drew h)).cell
    have Fk0 := fun (W : World) (h : Grow w4.drew W) => ((show Box w4 _ _ from k0.out).grow (Grow.of_drew h)).fz
    have Rx0 := fun (W : World) (h : Grow w4.drew W) => ((show Box w4 _ _ from x0.out).grow (Grow.of_drew h)).cell
    have Fx0 := fun (W : World) (h : Grow w4.drew W) => ((show Box w4 _ _ from x0.out).grow (Grow.of_drew h)).fz
    have Ry0 := fun (W : World) (h : Grow w4.drew W) => ((show Box w4 _ _ from y0.out).grow (Grow.of_drew h)).cell
    have Fy0 := fun (W : World) (h : Grow w4.drew W) => ((show Box w4 _ _ from y0.out).grow (Grow.of_drew h)).fz
    refine wpR_region (Grow) [] (by kernel_rfl) ?_
    refine wpR_take grow_rf grow_tr 0 rfl (by kernel_rfl) (fun _ _ _ h => h) rfl (v := ?_) ?_ ?_
    rotate_left
    · (intro w' hG; go_simp; try with_reducible rfl)
    try simp only [Act.put, List.setIfInBounds_toArray, List.set_cons_zero, List.set_cons_succ]
    refine wpR_take grow_rf grow_tr 1 rfl (by kernel_rfl) (fun _ _ _ h => h) rfl (v := ?_) ?_ ?_
    rotate_left
    · (intro w' hG; go_simp; try with_reducible rfl)
    try simp only [Act.put, List.setIfInBounds_toArray, List.set_cons_zero, List.set_cons_succ]
    refine wpR_call 2 rfl (by kernel_rfl) rfl fun K hK => ?_
    go_simp
    refine (HS.out _ h4.drew h3.drew).mono ?_
    rintro r w5 ⟨rfl, hb5⟩
    refine hK.out _ _ (.inr (hb5)) ?_
    clear hK
    try simp only [Act.put, List.setIfInBounds_toArray, List.set_cons_zero, List.set_cons_succ]
    clear Rk0 Fk0 Rx0 Fx0 Ry0 Fy0
    have hb5 := Grow.of_drew hb5
    clear ck0 fk0 lk0 cx0 fx0 lx0 cy0 fy0 ly0
    have hg5 := hb5
    have k0_ := hide ((show Box w4 _ _ from k0.out).grow hg5)
    clear k0
    have k0 := k0_
    clear k0_
    have x0_ := hide ((show Box w4 _ _ from x0.out).grow hg5)
    clear x0
    have x0 := x0_
    clear x0_
    have y0_ := hide ((show Box w4 _ _ from y0.out).grow hg5)
    clear y0
    have y0 := y0_
    clear y0_
    have h1 := h1.grow hg5
    have h3 := h3.grow hg5
    have h4 := h4.grow hg5
    have HG5 := hide (Grow.trans (show Grow w w4 from HG4.out) hg5)
    clear HG4
    have hsz5 : w.heap.size ≤ w5.heap.size := HG5.out.size
    have hq5 : w4.heap.size ≤ w5.heap.size := hg5.size
    have HS5 := hide hg5
    clear hb5 hg5
    obtain ⟨ck0, fk0, lk0⟩ := (show Box w5 _ _ from k0.out).rules
    obtain ⟨cx0, fx0, lx0⟩ := (show Box w5 _ _ from x0.out).rules
    obtain ⟨cy0, fy0, ly0⟩ := (show Box w5 _ _ from y0.out).rules
    have Rk0 := fun (W : World) (h : Grow w5 W) => ((show Box w5 _ _ from k0.out).grow h).cell
    have Fk0 := fun (W : World) (h : Grow w5 W) => ((show Box w5 _ _ from k0.out).grow h).fz
    have Rx0 := fun (W : World) (h : Grow w5 W) => ((show Box w5 _ _ from x0.out).grow h).cell
    have Fx0 := fun (W : World) (h : Grow w5 W) => ((show Box w5 _ _ from x0.out).grow h).fz
    have Ry0 := fun (W : World) (h : Grow w5 W) => ((show Box w5 _ _ from y0.out).grow h).cell
    have Fy0 := fun (W : World) (h : Grow w5 W) => ((show Box w5 _ _ from y0.out).grow h).fz
    refine wpR_take grow_rf grow_tr 3 rfl (by kernel_rfl) (fun _ _ _ h => h) rfl (v := ?_) ?_ ?_
    rotate_left
    · (intro w' hG; go_simp; try with_reducible rfl)
    try simp only [Act.put, List.setIfInBounds_toArray, List.set_cons_zero, List.set_cons_succ]
    refine wpR_take grow_rf grow_tr 4 rfl (by kernel_rfl) (fun _ _ _ h => h) rfl (v := ?_) ?_ ?_
    rotate_left
    · (intro w' hG; go_simp; try with_reducible rfl)
    try simp only [Act.put, List.setIfInBounds_toArray, List.set_cons_zero, List.set_cons_succ]
    refine wpR_take grow_rf grow_tr 5 rfl (by kernel_rfl) (fun _ _ _ h => h) rfl (v := ?_) ?_ ?_
    rotate_left
    · (intro w' hG; go_simp; try with_reducible rfl)
    try simp only [Act.put, List.setIfInBounds_toArray, List.set_cons_zero, List.set_cons_succ]
    refine wpR_take grow_rf grow_tr 7 rfl (by kernel_rfl) (fun _ _ _ h => h) rfl (v := ?_) ?_ ?_
    rotate_left
    · (intro w' hG; go_simp; try with_reducible rfl)
    try simp only [Act.put, List.setIfInBounds_toArray, List.set_cons_zero, List.set_cons_succ]
    refine wpR_call 6 rfl (by kernel_rfl) rfl fun K hK => ?_
    go_simp
    refine (HD.out _).mono ?_
    rintro r w6 ⟨rfl, hb6⟩
    refine hK.out _ _ (.inr (hb6)) ?_
    clear hK
    try simp only [Act.put, List.setIfInBounds_toArray, List.set_cons_zero, List.set_cons_succ]
    clear Rk0 Fk0 Rx0 Fx0 Ry0 Fy0
    clear ck0 fk0 lk0 cx0 fx0 lx0 cy0 fy0 ly0
    have hg6 := hb6
    have k0_ := hide ((show Box w5 _ _ from k0.out).grow hg6)
    clear k0
    have k0 := k0_
    clear k0_
    have x0_ := hide ((show Box w5 _ _ from x0.out).grow hg6)
    clear x0
    have x0 := x0_
    clear x0_
    have y0_ := hide ((show Box w5 _ _ from y0.out).grow hg6)
    clear y0
    have y0 := y0_
    clear y0_
    have h1 := h1.grow hg6
    have h3 := h3.grow hg6
    have h4 := h4.grow hg6
    have HG6 := hide (Grow.trans (show Grow w w5 from HG5.out) hg6)
    clear HG5
    have hsz6 : w.heap.size ≤ w6.heap.size := HG6.out.size
    have hq6 : w5.heap.size ≤ w6.heap.size := hg6.size
    have HS6 := hide hg6
    clear hb6 hg6
    obtain ⟨ck0, fk0, lk0⟩ := (show Box w6 _ _ from k0.out).rules
    obtain ⟨cx0, fx0, lx0⟩ := (show Box w6 _ _ from x0.out).rules
    obtain ⟨cy0, fy0, ly0⟩ := (show Box w6 _ _ from y0.out).rules
    have Rk0 := fun (W : World) (h : Grow w6 W) => ((show Box w6 _ _ from k0.out).grow h).cell
    have Fk0 := fun (W : World) (h : Grow w6 W) => ((show Box w6 _ _ from k0.out).grow h).fz
    have Rx0 := fun (W : World) (h : Grow w6 W) => ((show Box w6 _ _ from x0.out).grow h).cell
    have Fx0 := fun (W : World) (h : Grow w6 W) => ((show Box w6 _ _ from x0.out).grow h).fz
    have Ry0 := fun (W : World) (h : Grow w6 W) => ((show Box w6 _ _ from y0.out).grow h).cell
    have Fy0 := fun (W : World) (h : Grow w6 W) => ((show Box w6 _ _ from y0.out).grow h).fz
    refine wpR_call 8 rfl (by kernel_rfl) rfl fun K hK => ?_
    go_simp
    refine (HR.out _ h3).mono ?_
    rintro r w7 ⟨rfl, hb7⟩
    refine hK.out _ _ (.inr (hb7)) ?_
    clear hK
    try simp only [Act.put, List.setIfInBounds_toArray, List.set_cons_zero, List.set_cons_succ]
    clear Rk0 Fk0 Rx0 Fx0 Ry0 Fy0
    clear ck0 fk0 lk0 cx0 fx0 lx0 cy0 fy0 ly0
    have hg7 := hb7
    have k0_ := hide ((show Box w6 _ _ from k0.out).grow hg7)
    clear k0
    have k0 := k0_
    clear k0_
    have x0_ := hide ((show Box w6 _ _ from x0.out).grow hg7)
    clear x0
    have x0 := x0_
    clear x0_
    have y0_ := hide ((show Box w6 _ _ from y0.out).grow hg7)
    clear y0
    have y0 := y0_
    clear y0_
    have h1 := h1.grow hg7
    have h3 := h3.grow hg7
    have h4 := h4.grow hg7
    have HG7 := hide (Grow.trans (show Grow w w6 from HG6.out) hg7)
    clear HG6
    have hsz7 : w.heap.size ≤ w7.heap.size := HG7.out.size
    have hq7 : w6.heap.size ≤ w7.heap.size := hg7.size
    have HS7 := hide hg7
    clear hb7 hg7
    obtain ⟨ck0, fk0, lk0⟩ := (show Box w7 _ _ from k0.out).rules
    obtain ⟨cx0, fx0, lx0⟩ := (show Box w7 _ _ from x0.out).rules
    obtain ⟨cy0, fy0, ly0⟩ := (show Box w7 _ _ from y0.out).rules
    have Rk0 := fun (W : World) (h : Grow w7 W) => ((show Box w7 _ _ from k0.out).grow h).cell
    have Fk0 := fun (W : World) (h : Grow w7 W) => ((show Box w7 _ _ from k0.out).grow h).fz
    have Rx0 := fun (W : World) (h : Grow w7 W) => ((show Box w7 _ _ from x0.out).grow h).cell
    have Fx0 := fun (W : World) (h : Grow w7 W) => ((show Box w7 _ _ from x0.out).grow h).fz
    have Ry0 := fun (W : World) (h : Grow w7 W) => ((show Box w7 _ _ from y0.out).grow h).cell
    have Fy0 := fun (W : World) (h : Grow w7 W) => ((show Box w7 _ _ from y0.out).grow h).fz
    refine wpR_take grow_rf grow_tr 9 rfl (by kernel_rfl) (fun _ _ _ h => h) rfl (v := ?_) ?_ ?_
    rotate_left
    · (intro w' hG; go_simp; try with_reducible rfl)
    try simp only [Act.put, List.setIfInBounds_toArray, List.set_cons_zero, List.set_cons_succ]
    refine wpR_take grow_rf grow_tr 10 rfl (by kernel_rfl) (fun _ _ _ h => h) rfl (v := ?_) ?_ ?_
    rotate_left
    · (intro w' hG; go_simp; try with_reducible rfl)
    try simp only [Act.put, List.setIfInBounds_toArray, List.set_cons_zero, List.set_cons_succ]
    refine wpR_done (by kernel_rfl) ?_ _
    clear Rk0 Fk0 Rx0 Fx0 Ry0 Fy0
    have hown1 := hown1.below HS5.out
    have hown1 := hown1.below HS6.out
    have hown1 := hown1.below HS7.out
    clear HD HR h1
    clear ck0 fk0 lk0 cx0 fx0 lx0 cy0 fy0 ly0
    have hk0 := Kept.refl w7.heap.size (blk A1).toList w7
    go_wp2
    go_loopw [36] (fun i wr => ∃ (k : Nat) (l' : List UInt8), k ≤ m.length ∧ i = .int .i64 k ∧ l'.length = m.length ∧ Own wr (w.heap.size + 1) A1 c1 l' ∧ Kept w7.heap.size (blk A1).toList w7 wr) (fun i _ => m.length - (intOf i).toNat)
    case atStart => exact ⟨0, m, by omega, rfl, rfl, hown1, hk0⟩
    case round =>
      obtain ⟨k, l', hk, rfl, hll, hown, hK⟩ := hrel
      clear hown1 hk0
      by_cases hlt : k < m.length
      · obtain ⟨g, rfl⟩ : ∃ g, A1 = some ⟨g, 0, none⟩ := by
          rcases hown.form with ⟨_, h0, _⟩ | ⟨g, hA, _⟩
          · rw [h0] at hll; simp at hll; omega
          · exact ⟨g, hA⟩
        have hcell := hown.cell k (by omega)
        have hfr := hown.frozen k
        obtain ⟨x, HXX⟩ : ∃ x : UInt8, Hid (x = l'[k]'(by omega)) := ⟨_, hide rfl⟩
        rw [← HXX.out] at hcell
        have hx8 := u8_lt x
        have hset := hown.set k (u8of ((x.toNat : Int) + 1))
        rw [u8_u8d, IntKind.wrap_u8] at hset
        clear HXX hge1 hlt1 HS HX
        go_wp2
        go_roundw
        case rel => exact ⟨k + 1, l'.set k _, by omega, by go_num, by rw [List.length_set]; exact hll, hset, hK.setCell (p := ⟨g, k, none⟩) (.inr (by simp [blk])) _⟩
        case measure => simp [intOf]; omega
      · have hkm : k = m.length := by omega
        subst hkm
        have HGr := hide (Kept.freshD hK HG7.out (fun q h => by have := hge1 q h; omega))
        have hszr : w.heap.size ≤ wr.heap.size := HGr.out.size
        have x0_ := hide ((show Box w7 _ _ from x0.out).kept hK (fun hm => by have := hlt1 _ (by simpa using hm); omega))
        clear x0
        have x0 := x0_
        clear x0_
        have y0_ := hide ((show Box w7 _ _ from y0.out).kept hK (fun hm => by have := hlt1 _ (by simpa using hm); omega))
        clear y0
        have y0 := y0_
        clear y0_ k0
        have h4 := h4.kept hK (fun q h hm => by have := hge4 q h; have := hlt1 q (by simpa using hm); omega)
        have h3 := h3.kept hK (fun q h hm => by have := hge3 q h; have := hlt1 q (by simpa using hm); omega)
        clear hK hown hlt hge1 hlt1 hge3 hge4
        obtain ⟨cx0, fx0, lx0⟩ := (show Box wr _ _ from x0.out).rules
        obtain ⟨cy0, fy0, ly0⟩ := (show Box wr _ _ from y0.out).rules
        go_wp2_with fail
        refine (HS.out _ h4 h3).mono ?_
        rintro r w8 ⟨rfl, hb8⟩
        clear cx0 fx0 cy0 fy0
        go_wp2_with fail
        refine (HX.out _).mono ?_
        rintro r w9 ⟨rfl, hb9⟩
        go_wp2
        go_ret
        exact ⟨rfl, Grow.trans (Grow.trans HGr.out hb8) hb9⟩
end Go.Proofs.Ytpobjcdcimcdnaa
