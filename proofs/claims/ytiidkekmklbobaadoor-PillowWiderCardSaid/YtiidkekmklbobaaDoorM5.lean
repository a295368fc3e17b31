/- Contract of visit, and the plain law of what remains. -/
import Derived.Test.YtiidkekmklbobaaDoorM4
set_option linter.unusedVariables false
set_option linter.unusedSimpArgs false
namespace Go.Proofs.YtiidkekmklbobaaDoor
open Go.RowKit Go.Proofs.YtiidkekmklbobaaDoorW.PrintWords
attribute [local go_sem] mx_two mn_two blk_add
theorem OutO.pushed {w w1 : World} {base : Nat} {ov lv lv1 : Value} {outs : List (List Int)} {l : List Int} (h : OutO w base ov outs lv.ownBlock) (hl : OwnI w base lv l) (hg : w.grownBy w1 lv.ownBlock) (hat : Later w lv lv1) : OutO w1 base ov outs lv1.ownBlock := by
  obtain ⟨vs, h1, h2⟩ := h
  refine ⟨vs, own_other_block h1 hg fun k hk he => ?_, fun j xs hj => ?_⟩
  · obtain ⟨c1, e1⟩ := own_typed h1 k hk
    obtain ⟨c2, e2⟩ := own_typed hl k he
    rw [e1] at e2
    simp at e2
  · obtain ⟨v, h3, h4, h5⟩ := h2 j xs hj
    refine ⟨v, h3, own_other_block h4 hg fun k hk => h5 k hk, fun k hk he => ?_⟩
    rcases hat with e | ⟨b, e, hb⟩
    · rw [e] at he; exact h5 k hk he
    · rw [e] at he
      injection he with he
      have := own_lt h4 k hk
      omega
/-- l has been appended to, and stored. -/
theorem VS.pushed {bs bc bm bn : Nat} {W w w1 : World} {lv ov lv1 : Value} {l l1 : List Int} {outs : List (List Int)} (h : VS bs bc bm bn W w lv ov l outs) (hb : Below (W.heap.size + 4) w w1) (hl : OwnI w1 (W.heap.size + 4) lv1 l1) (hg : w.grownBy w1 lv.ownBlock) (hat : Later w lv lv1) :
    VS bs bc bm bn W (w1.setCell ⟨W.heap.size + 1, 0, none⟩ lv1) lv1 ov l1 outs ∧ Kv (W.heap.size + 1) W.heap.size lv ov w (w1.setCell ⟨W.heap.size + 1, 0, none⟩ lv1) := by
  have hsz := h.sz
  have hsz1 := hb.size
  have hB : Blk w1 (W.heap.size + 1) 26 [lv] := (hb.block _ (by omega)).trans h.bl
  have hBo : Blk w1 W.heap.size 29 [ov] := (hb.block _ (by omega)).trans h.bo
  refine ⟨⟨?_, by simp; omega, ?_, ?_, hB.set_ 0 lv1, hl.far (by omega) 0 lv1, (h.o.pushed h.l hg hat).far (by omega) 0 lv1⟩, ?_⟩
  · exact (h.b.trans (hb.mono (by omega))).setCell (by simp) _
  · refine (World.cell?_setCell_other _ _ _ _ (h := fun e => ?_)).trans ((hb.cell (p := ⟨W.heap.size + 2, 0, none⟩) (by simp)).trans h.v)
    injection e with e1; omega
  · exact (Below.heap_setCell _ _ _ _ (by simp)).trans hBo
  · refine ⟨hb.os, hb.tape, hb.output, by simpa using hsz1, fun b hb1 h1 h2 h3 h4 => ?_⟩
    exact (Below.heap_setCell _ _ _ _ (by simpa using h1)).trans (hg.block b hb1 h3)
theorem OwnI.form {w : World} {base : Nat} {v : Value} {xs : List Int} (h : OwnI w base v xs) : (v = .slice none 0 0 ∧ xs = []) ∨ ∃ g c, v = .slice (some ⟨g, 0, none⟩) xs.length c ∧ xs.length ≤ c := by
  rcases h.2 with ⟨h1, h2⟩ | ⟨g, c, cur, h1, _, _, h2, _⟩
  · exact .inl ⟨h1, List.length_eq_zero_iff.1 h2⟩
  · exact .inr ⟨g, c, h1, h2⟩
theorem Later.refl (w : World) (v : Value) : Later w v v := .inl rfl
theorem Later.trans {w w1 : World} {v v1 v2 : Value} (h : Later w v v1) (k : Later w1 v1 v2) (hs : w.heap.size ≤ w1.heap.size) : Later w v v2 := by
  rcases k with e | ⟨b, e, hb⟩
  · rcases h with e1 | ⟨b, e1, hb⟩
    · exact .inl (e.trans e1)
    · exact .inr ⟨b, e.trans e1, hb⟩
  · exact .inr ⟨b, e, by omega⟩
theorem Later.mono {w w1 : World} {v v1 : Value} (h : Later w1 v v1) (hs : w.heap.size ≤ w1.heap.size) : Later w v v1 := Later.trans (.inl rfl) h hs
theorem Kv.of_below {bl bo : Nat} {lv ov : Value} {w w1 : World} (h : Below w.heap.size w w1) : Kv bl bo lv ov w w1 := (Kv.refl bl bo lv ov w).then h
/-- A row has been put into out. -/
theorem VS.added {bs bc bm bn : Nat} {W w w1 : World} {lv ov ov1 : Value} {l : List Int} {outs outs1 : List (List Int)} (h : VS bs bc bm bn W w lv ov l outs) (hO : OutO w1 (W.heap.size + 4) ov1 outs1 lv.ownBlock) (hb : Below (W.heap.size + 4) w w1) (hg : w.grownBy w1 ov.ownBlock) :
    VS bs bc bm bn W (w1.setCell ⟨W.heap.size, 0, none⟩ ov1) lv ov1 l outs1 ∧ Kv (W.heap.size + 1) W.heap.size lv ov w (w1.setCell ⟨W.heap.size, 0, none⟩ ov1) := by
  have hsz := h.sz
  have hsz1 := hb.size
  have hB : Blk w1 (W.heap.size + 1) 26 [lv] := (hb.block _ (by omega)).trans h.bl
  have hBo : Blk w1 W.heap.size 29 [ov] := (hb.block _ (by omega)).trans h.bo
  have hl1 : OwnI w1 (W.heap.size + 4) lv l := by
    refine own_other_block h.l hg fun k hk he => ?_
    obtain ⟨c1, e1⟩ := own_typed h.l k hk
    obtain ⟨vs, h1, _⟩ := h.o
    obtain ⟨c2, e2⟩ := own_typed h1 k he
    rw [e1] at e2
    simp at e2
  refine ⟨⟨?_, by simp; omega, ?_, hBo.set_ 0 ov1, ?_, hl1.far (by omega) 0 ov1, hO.far (by omega) 0 ov1⟩, ?_⟩
  · exact (h.b.trans (hb.mono (by omega))).setCell (by simp) _
  · refine (World.cell?_setCell_other _ _ _ _ (h := fun e => ?_)).trans ((hb.cell (p := ⟨W.heap.size + 2, 0, none⟩) (by simp)).trans h.v)
    injection e with e1; omega
  · exact (Below.heap_setCell _ _ _ _ (by simp)).trans hB
  · refine ⟨hb.os, hb.tape, hb.output, by simpa using hsz1, fun b hb1 h1 h2 h3 h4 => ?_⟩
    exact (Below.heap_setCell _ _ _ _ (by simpa using h2)).trans (hg.block b hb1 h4)
/-- l has been cut back by its last element. -/
theorem VS.popped {bs bc bm bn : Nat} {W w : World} {g n c : Nat} {ov : Value} {l : List Int} {z : Int} {outs : List (List Int)} (h : VS bs bc bm bn W w (.slice (some ⟨g, 0, none⟩) n c) ov (l ++ [z]) outs) :
    VS bs bc bm bn W (w.setCell ⟨W.heap.size + 1, 0, none⟩ (.slice (some ⟨g, 0, none⟩) l.length c)) (.slice (some ⟨g, 0, none⟩) l.length c) ov l outs ∧ Kv (W.heap.size + 1) W.heap.size (.slice (some ⟨g, 0, none⟩) n c) ov w (w.setCell ⟨W.heap.size + 1, 0, none⟩ (.slice (some ⟨g, 0, none⟩) l.length c)) := by
  have hsz := h.sz
  refine ⟨⟨h.b.setCell (by simp) _, by simpa using hsz, ?_, ?_, h.bl.set_ 0 _, (OwnI.cut h.l).far (by omega) 0 _, ?_⟩, ?_⟩
  · refine (World.cell?_setCell_other _ _ _ _ (h := fun e => ?_)).trans h.v
    injection e with e1; omega
  · exact (Below.heap_setCell _ _ _ _ (by simp)).trans h.bo
  · exact OutO.far (a := some g) h.o (by omega) 0 _
  · exact ⟨rfl, rfl, rfl, by simp, fun b hb1 h1 h2 h3 h4 => Below.heap_setCell _ _ _ _ (by simpa using h1)⟩
section
variable {ops : Array Oper} {o : Oper} {a : Act} {Q : Exit → Act → World → Prop} {K : Act → World → Prop}
/-- append(out, row), as a step of a region that draws. -/
theorem append_row_step {w0 W0 W : World} (base : Nat) (ov x : Value) (xs : List Int) (outs : List (List Int)) (avoid : Option Nat) (hw : Region.wanted o (yielded ops a.tmps) = true) (s z : Operand)
    (ho : o.op = .call { callee := .builtin .append, args := #[s, z], argTypes := #[29, 29] })
    (hs : a.eval s = ov) (hx : a.eval z = .slice (some ⟨W.heap.size, 0, none⟩) 1 1) (hx1 : x.oneCell' = true)
    (HO : OutO W0 base ov outs avoid) (HX : OwnI W0 base x xs) (hav : ∀ k, x.ownBlock = some k → avoid ≠ some k) (HW : Below W0.heap.size W0 W) (HB : Below base w0 W0) (hbase : base ≤ W0.heap.size) (hl : outs.length ≤ 1000000000)
    (h : ∀ v1 w1, OutO w1 base v1 (outs ++ [xs]) avoid → Below base w0 w1 → W.grownBy w1 ov.ownBlock → (v1.ownBlock = ov.ownBlock ∨ ∃ b, v1.ownBlock = some b ∧ W.heap.size ≤ b) → K (a.put o.dst v1) w1) :
    if Region.wanted o (yielded ops a.tmps) = true then Oper.wp Tryd.prog o a (W.alloc (.cells #[x] 26)) K Q else K (a.put o.dst undef) (W.alloc (.cells #[x] 26)) := by
  obtain ⟨vs, h1, h2⟩ := HO
  have hvl : vs.length = outs.length := by have := h1.1; omega
  refine step_append_cells (w0 := w0) base hw s z 29 26 (.slice none 0 0) 1 24 ho (by kernel_rfl) info26 rfl (by decide) (by decide) ov outs.length vs [x] hs hx rfl (by simpa using hx1) (pw_own_below h1 HW) (HB.trans (HW.mono hbase)) (Nat.le_trans hbase HW.size) (by omega) ?_
  intro v1 w1 hown hb hg hat
  refine h v1 w1 ⟨vs ++ [x], by rw [List.length_append]; exact hown, fun j ys hj => ?_⟩ hb hg hat
  have hbW : Below W0.heap.size W0 W := HW
  have far : ∀ (u : Value) (us : List Int), OwnI W0 base u us → OwnI w1 base u us := fun u us hu => by
    refine own_other_block (hu.below HW) hg fun k hk he => ?_
    obtain ⟨c1, e1⟩ := own_typed (hu.below HW) k hk
    obtain ⟨c2, e2⟩ := own_typed (pw_own_below h1 HW) k he
    rw [e1] at e2
    simp at e2
  by_cases hjl : j < outs.length
  · rw [List.getElem?_append_left hjl] at hj
    obtain ⟨u, g1, g2, g3⟩ := h2 j ys hj
    exact ⟨u, by rw [List.getElem?_append_left (by omega)]; exact g1, far u ys g2, g3⟩
  · rw [List.getElem?_append_right (by omega)] at hj
    have hj0 : j - outs.length = 0 := by
      rcases Nat.eq_zero_or_pos (j - outs.length) with h0 | h0
      · exact h0
      · rw [List.getElem?_eq_none (by simp; omega)] at hj; cases hj
    rw [hj0] at hj
    simp at hj
    subst hj
    exact ⟨x, by rw [List.getElem?_append_right (by omega), hvl, hj0]; rfl, far x xs HX, hav⟩
end
end Go.Proofs.YtiidkekmklbobaaDoor
set_option linter.unusedVariables false
set_option linter.unusedSimpArgs false
namespace Go.Proofs.YtiidkekmklbobaaDoor
open Go.RowKit Go.Proofs.YtiidkekmklbobaaDoorW.PrintWords
attribute [local go_sem] mx_two mn_two blk_add
theorem cell_of_same {w w1 : World} {b o : Nat} {u : Value} (h : w1.heap[b]? = w.heap[b]?) (hc : w.cell? ⟨b, o, none⟩ = some u) : w1.cell? ⟨b, o, none⟩ = some u := by
  rw [← hc]
  simp only [World.cell?, h]
theorem out_slice {w : World} {base : Nat} {v : Value} {outs : List (List Int)} {x : List Int} {a : Option Nat} (h : OutO w base v (outs ++ [x]) a) : ∃ A c, v = .slice A (outs.length + 1) c := by
  obtain ⟨vs, h1, _⟩ := h
  rw [show (outs ++ [x]).length = outs.length + 1 by simp] at h1
  exact own_slice h1
set_option maxRecDepth 100000 in
set_option maxHeartbeats 3200000 in
theorem visit_leaf (p : Pil) (A : Option Addr) (c : Nat) (A1 : Option Addr) (c1 : Nat) (ws : List (Int × Int)) (F most gT base0 bs bc bm bn : Nat) (W : World) (hX : Fx p A c A1 c1 ws F most gT base0 bs bc bm bn W)
    (i k left : Nat) (x : Int × Int) (l : List Int) (outs : List (List Int)) (lv ov : Value) (w : World) (hi : i < p.log.length) (hk : k < 3) (hl : left < F + 1) (hx : small x.1 ∧ small x.2) (hS : VS bs bc bm bn W w lv ov l outs)
    (hgo : goesB p ws i (k : Int) left x = true) (hout : outs.length ≤ most) (hll : l.length ≤ 1000) (hlast : i + 1 = p.log.length) :
    Calls Tryd.prog 88 (#[.int .i64 i, .int .i64 (k : Int), .int .i64 left, spv x.1 x.2] ++ capV bs bc bm bn W.heap.size) w fun e w' => e = .returned (.tuple #[]) ∧ ∃ lv' ov', VS bs bc bm bn W w' lv' ov' l (outs ++ [l ++ [(k : Int)]]) ∧ Kv (W.heap.size + 1) W.heap.size lv ov w w' ∧ Later w lv lv' ∧ Later w ov ov' := by
  show Calls Tryd.prog 88 #[.int .i64 i, .int .i64 (k : Int), .int .i64 left, spv x.1 x.2, .pointer (some ⟨bs, 0, none⟩), .pointer (some ⟨bc, 0, none⟩), .pointer (some ⟨W.heap.size, 0, none⟩), .pointer (some ⟨bm, 0, none⟩), .pointer (some ⟨W.heap.size + 1, 0, none⟩), .pointer (some ⟨bn, 0, none⟩), .pointer (some ⟨W.heap.size + 2, 0, none⟩)] w _
  have hbw : Below w.heap.size w ((w.alloc (.cells #[.int .i64 i] 3)).alloc (.cells #[.int .i64 x.1, .int .i64 x.2] 42)) := ((Below.refl _ _).alloc (Nat.le_refl _) _).alloc (by simp) _
  have HX := Lib.hid hX
  have HS := Lib.hid hS
  have hT : Hid (∀ w3, Below w.heap.size w w3 → w3.cell? ⟨bs, 0, none⟩ = some (.int .i64 p.no) ∧ w3.cell? ⟨bs, 1, none⟩ = some (.int .i64 p.cell) ∧ w3.cell? ⟨bs, 2, none⟩ = some (.int .i64 p.noise) ∧ w3.cell? ⟨bs, 3, none⟩ = some (.int .i64 p.slab) ∧ w3.cell? ⟨bs, 4, none⟩ = some (.int .i64 p.jump) ∧ w3.cell? ⟨bs, 5, none⟩ = some (.int .i64 p.faults) ∧ w3.cell? ⟨bs, 6, none⟩ = some (.slice A p.log.length c)) := fun w3 hb => by
    have hb2 : Below W.heap.size W w3 := hS.b.trans (hb.mono (by have := hS.sz; omega))
    exact ⟨pw_cell_below hb2 (hX.s 0 (by omega)), pw_cell_below hb2 (hX.s 1 (by omega)), pw_cell_below hb2 (hX.s 2 (by omega)), pw_cell_below hb2 (hX.s 3 (by omega)), pw_cell_below hb2 (hX.s 4 (by omega)), pw_cell_below hb2 (hX.s 5 (by omega)), pw_cell_below hb2 (hX.s 6 (by omega))⟩
  have HLO : Hid (∀ w3, Below w.heap.size w w3 → Calls Tryd.prog 72 #[p.val A c, .int .i64 i, .int .i64 (k : Int)] w3 fun e w' => e = .returned (spv (loadsF p i (k : Int)).1 (loadsF p i (k : Int)).2) ∧ Below w3.heap.size w3 w') := fun w3 hb => by
    have hb2 : Below W.heap.size W w3 := hS.b.trans (hb.mono (by have := hS.sz; omega))
    exact loads_any p A c i (k : Int) w3 hX.hp (Kd.C_below hX.a hb2) hi
  clear hX hS
  obtain ⟨x1, x2⟩ := x
  dsimp only at *
  go_enter Tryd.func88, Tryd.ntmps88
  have hT2 : Hid (∀ w3, Below (w.heap.size + 1 + 1) ((w.alloc (.cells #[.int .i64 i] 3)).alloc (.cells #[.int .i64 x1, .int .i64 x2] 42)) w3 → Below w.heap.size w w3 ∧ w3.cell? ⟨w.heap.size, 0, none⟩ = some (.int .i64 i) ∧ w3.cell? ⟨w.heap.size + 1, 0, none⟩ = some (.int .i64 x1) ∧ w3.cell? ⟨w.heap.size + 1, 1, none⟩ = some (.int .i64 x2) ∧ w.heap.size + 1 + 1 ≤ w3.heap.size) := fun w3 hb => by
    have hb2 : Below ((w.alloc (.cells #[.int .i64 i] 3)).alloc (.cells #[.int .i64 x1, .int .i64 x2] 42)).heap.size ((w.alloc (.cells #[.int .i64 i] 3)).alloc (.cells #[.int .i64 x1, .int .i64 x2] 42)) w3 := hb.mono (by simp)
    exact ⟨hbw.trans (hb.mono (by omega)), pw_cell_below hb2 (by simp [go_sem]), pw_cell_below hb2 (by simp [go_sem]), pw_cell_below hb2 (by simp [go_sem]), by have := hb.size; simpa using this⟩
  clear hbw
  go_wp2
  refine wp_region_tail 7 (fun w3 => Below (w.heap.size + 1 + 1) ((w.alloc (.cells #[.int .i64 i] 3)).alloc (.cells #[.int .i64 x1, .int .i64 x2] 42)) w3) (by kernel_rfl) (by kernel_rfl) (below_drew (Below.refl _ _)) ?_
  simp only [List.take_succ_cons, List.take_zero, List.drop_succ_cons, List.drop_zero]
  repeat (refine wpQuiet_step (fun K hK => ?_); go_simp; (first | (refine hK _ ?_) | (refine ⟨_, fun _ _ => rfl, hK _ ?_⟩) | (refine ⟨_, fun w3 hw3 => less_exact trivial (meet_any _ _ _ _ w3) hw3 (hT2.out w3 hw3).2.2.2.2, hK _ ?_⟩) | (refine ⟨_, fun w3 hw3 => less_exact trivial (HLO.out w3 (hT2.out w3 hw3).1) hw3 (hT2.out w3 hw3).2.2.2.2, hK _ ?_⟩) | (apply Exists.intro; refine ⟨fun w3 hw3 => ?_, hK _ ?_⟩; focus (have t0 := (hT2.out w3 hw3).2.1; have u1 := (hT2.out w3 hw3).2.2.1; have u2 := (hT2.out w3 hw3).2.2.2.1; obtain ⟨t1, t2, t3, t4, t5, t6, t7⟩ := hT.out w3 (hT2.out w3 hw3).1; first | (go_simp; done) | (go_simp; rfl)))); clear hK K)
  refine wpQuiet_nil ?_
  intro w3 hw3
  have hB3 : Blk w3 (w.heap.size + 1) 42 (sc [(x1, x2)]) := by
    have h := Blk.new (w.alloc (.cells #[.int .i64 i] 3)) 42 (sc [(x1, x2)])
    rw [show (w.alloc (.cells #[.int .i64 i] 3)).heap.size = w.heap.size + 1 by simp] at h
    exact h.below (hw3.mono (by simp))
  obtain ⟨hw4, v0, v1, v2, v3⟩ := hT2.out w3 hw3
  have v4 : ∀ j, w3.frozen? ⟨w.heap.size + 1, j, none⟩ = false := hB3.frozen
  have H4 : Hid (Below w.heap.size w ((w3.setCell ⟨w.heap.size + 1, 0, none⟩ (.int .i64 (max x1 (loadsF p i (k : Int)).1))).setCell ⟨w.heap.size + 1, 1, none⟩ (.int .i64 (min x2 (loadsF p i (k : Int)).2))) ∧ Blk ((w3.setCell ⟨w.heap.size + 1, 0, none⟩ (.int .i64 (max x1 (loadsF p i (k : Int)).1))).setCell ⟨w.heap.size + 1, 1, none⟩ (.int .i64 (min x2 (loadsF p i (k : Int)).2))) (w.heap.size + 1) 42 (sc [meetF (x1, x2) (loadsF p i (k : Int))])) := by
    refine ⟨(hw4.setCell (by simp) _).setCell (by simp) _, ?_⟩
    have h2 := hB3.set2 0 (max x1 (loadsF p i (k : Int)).1) (min x2 (loadsF p i (k : Int)).2)
    simpa [meetF] using h2
  have v5 : Hid (((w3.setCell ⟨w.heap.size + 1, 0, none⟩ (.int .i64 (max x1 (loadsF p i (k : Int)).1))).setCell ⟨w.heap.size + 1, 1, none⟩ (.int .i64 (min x2 (loadsF p i (k : Int)).2))).cell? ⟨w.heap.size, 0, none⟩ = some (.int .i64 i)) := by
    show World.cell? _ _ = _
    refine (World.cell?_setCell_other _ _ _ _ (h := fun e => ?_)).trans ((World.cell?_setCell_other _ _ _ _ (h := fun e => ?_)).trans v0)
    · injection e with e1; omega
    · injection e with e1; omega
  clear hB3 hT2 HLO
  go_upto_region 2 with fail
  generalize (w3.setCell ⟨w.heap.size + 1, 0, none⟩ (.int .i64 (max x1 (loadsF p i (k : Int)).1))).setCell ⟨w.heap.size + 1, 1, none⟩ (.int .i64 (min x2 (loadsF p i (k : Int)).2)) = w4 at H4 v5 ⊢
  clear v0 v1 v2 v3 v4 hw3 hw4 w3
  have hW4 : Hid (Below W.heap.size W w4) := HS.out.b.trans (H4.out.1.mono (by have := HS.out.sz; omega))
  obtain ⟨gR, v, r1, r2, r3⟩ := HX.out.row hW4.out i k left hi hk hl
  have HR := Lib.hid r3
  obtain ⟨Av, cv, rfl⟩ := own_slice r3
  have c0 : w4.cell? ⟨bc, 0, none⟩ = some (.slice (some ⟨gT, 0, none⟩) p.log.length p.log.length) := pw_cell_below hW4.out HX.out.c
  have c1' : w4.cell? ⟨w.heap.size, 0, none⟩ = some (.int .i64 i) := v5.out
  have HCN := Lib.hid (contains_any (meetF (x1, x2) (loadsF p i (k : Int))) (w.heap.size + 1) (chF p ws i (k : Int) left) _ base0 w4 H4.out.2.lt (H4.out.2.cell 0) (H4.out.2.cell 1) r3 (by have := ch_len p ws HX.out.hp (p.log.length - 1 - i) (k : Int) left; unfold chF; omega))
  clear r3
  have j1 : (i : Int) < (p.log.length : Int) := by omega
  have j2 : (k : Int) < 3 := by omega
  have j3 : (left : Int) < (F : Int) + 1 := by omega
  rw [show (chF p ws i (k : Int) left).any (meetsB (meetF (x1, x2) (loadsF p i (k : Int)))) = true from hgo] at HCN
  obtain ⟨Ao, co, hov⟩ : ∃ A c, ov = .slice A outs.length c := by obtain ⟨vs, h, _⟩ := HS.out.o; exact own_slice h
  subst hov
  obtain ⟨Al, cl, hlv⟩ : ∃ A c, lv = .slice A l.length c := own_slice HS.out.l
  subst hlv
  have o1 : w4.cell? ⟨W.heap.size, 0, none⟩ = some (.slice Ao outs.length co) := pw_cell_below H4.out.1 (HS.out.bo.cell 0)
  have o2 : w4.cell? ⟨bm, 0, none⟩ = some (.int .i64 most) := pw_cell_below hW4.out HX.out.m
  have o3 : W.heap.size < w4.heap.size := by have := HS.out.sz; have := H4.out.1.size; omega
  have o4 : bm < w4.heap.size := World.block_lt_of_cell? _ _ o2
  have o5 : w4.cell? ⟨W.heap.size + 1, 0, none⟩ = some (.slice Al l.length cl) := pw_cell_below H4.out.1 (HS.out.bl.cell 0)
  have o6 : W.heap.size + 1 < w4.heap.size := by have := HS.out.sz; have := H4.out.1.size; omega
  have hm2 : ¬ (most : Int) < (outs.length : Int) := by omega
  have HS4 := Lib.hid (HS.out.below H4.out.1)
  go_upto_region 5 with (first | (go_at_call 89; refine HCN.out.mono ?_; rintro e w5 ⟨rfl, hb5⟩; obtain ⟨hc5, hf5⟩ := bcell hb5; have hs5 := hb5.size; have HS5 := Lib.hid (HS4.out.below hb5)) | (at_builtin; refine append_int (w0 := w5) (W0 := w5) (W := w5) (W.heap.size + 4) (.slice Al l.length cl) (k : Int) l rfl (.tmp 42) (.tmp 44) rfl rfl rfl HS5.out.l (Below.refl _ _) (Below.refl _ _) HS5.out.sz (by omega) ?_; intro v1 w6 hl6 hb6 hg6 hat6; obtain ⟨A6, c6, rfl⟩ := own_slice hl6; have hB6 : Blk w6 (W.heap.size + 1) 26 [.slice Al l.length cl] := (hb6.block _ (by omega)).trans HS5.out.bl; have e6 := hB6.cell 0; have f6 := hB6.frozen 0))
  have hl7 : OwnI w6 (W.heap.size + 4) (.slice A6 (l.length + 1) c6) (l ++ [(k : Int)]) := by simpa using hl6
  have HAT : Hid (Later w5 (.slice Al l.length cl) (.slice A6 (l.length + 1) c6)) := by
    show Later _ _ _
    have h := hat6; rw [show (l ++ [(k : Int)]).length = l.length + 1 by simp] at h; exact h
  obtain ⟨hS7, hK7⟩ := HS5.out.pushed hb6 hl7 hg6 HAT.out
  have HK5 := Lib.hid (show Kv (W.heap.size + 1) W.heap.size (.slice Al l.length cl) (.slice Ao outs.length co) w w5 from (Kv.of_below H4.out.1).then hb5)
  have g7 : (w6.setCell ⟨W.heap.size + 1, 0, none⟩ (.slice A6 (l.length + 1) c6)).cell? ⟨w.heap.size, 0, none⟩ = some (.int .i64 i) := by
    have hs := HS.out.sz
    have hs4 := H4.out.1.size
    have ll := own_lt HS.out.l
    have q : w5.cell? ⟨w.heap.size, 0, none⟩ = some (.int .i64 i) := pw_cell_below hb5 c1'
    refine cell_of_same (hK7.block w.heap.size (by have := World.block_lt_of_cell? _ _ q; exact this) (by omega) (by omega) (fun e => ?_) (fun e => ?_)) q
    · have := ll _ e.symm; omega
    · obtain ⟨vs, h, _⟩ := HS.out.o
      have := own_lt h _ e.symm
      omega
  have HS7 := Lib.hid hS7
  have HK7 := Lib.hid (show Kv (W.heap.size + 1) W.heap.size (.slice Al l.length cl) (.slice Ao outs.length co) w5 (w6.setCell ⟨W.heap.size + 1, 0, none⟩ (.slice A6 (l.length + 1) c6)) from hK7)
  clear hS7 hK7 hl7 hl6
  generalize w6.setCell ⟨W.heap.size + 1, 0, none⟩ (.slice A6 (l.length + 1) c6) = w7 at HS7 HK7 g7 ⊢
  have n7 : w7.cell? ⟨bn, 0, none⟩ = some (.int .i64 p.log.length) := pw_cell_below HS7.out.b HX.out.n
  have e7 : ((i : Int) == (p.log.length : Int) - 1) = true := by simp; omega
  have fw : IntKind.i64.wrap ((p.log.length : Int) - 1) = (p.log.length : Int) - 1 := by have := HX.out.hp.l; rw [IntKind.wrap_i64]; omega
  have p7 := HS7.out.bo.cell 0
  have q7 := HS7.out.bl.cell 0
  have lt7 : W.heap.size < w7.heap.size := HS7.out.bo.lt
  have lt7' : W.heap.size + 1 < w7.heap.size := HS7.out.bl.lt
  have fz7 : ∀ j, w7.frozen? ⟨W.heap.size, j, none⟩ = false := HS7.out.bo.frozen
  obtain ⟨g6, hA6, hc6⟩ : ∃ g, A6 = some ⟨g, 0, none⟩ ∧ l.length + 1 ≤ c6 := by
    rcases HS7.out.l.form with ⟨h, _⟩ | ⟨g, c, h, hc⟩
    · simp at h
    · simp at h
      exact ⟨g, h.1, by have := h.2; simp at hc; omega⟩
  subst hA6
  have HCL : Hid (∀ w8, Below w7.heap.size w7 w8 → Calls Tryd.prog 92 #[.slice (some ⟨g6, 0, none⟩) (l.length + 1) c6] w8 fun e w' => ∃ A' c', e = .returned (.slice A' (l.length + 1) c') ∧ OwnI w' w7.heap.size (.slice A' (l.length + 1) c') (l ++ [(k : Int)]) ∧ Below w7.heap.size w7 w') := fun w8 hb8 =>
    (clone_any (l ++ [(k : Int)]) _ (W.heap.size + 4) w8 (HS7.out.l.below hb8) (by simp) (by simp; omega)).mono fun e w' ⟨v', h1, h2, h3⟩ => by
      obtain ⟨A', c', rfl⟩ := own_slice h2
      rw [show (l ++ [(k : Int)]).length = l.length + 1 by simp] at h1 h2
      exact ⟨A', c', h1, own_weaken h2 hb8.size, hb8.trans (h3.mono hb8.size)⟩
  have HAV : Hid (∀ (A' : Option Addr) c' (w' : World), OwnI w' w7.heap.size (.slice A' (l.length + 1) c') (l ++ [(k : Int)]) → OwnI w' (W.heap.size + 4) (.slice A' (l.length + 1) c') (l ++ [(k : Int)]) ∧ ∀ k', (Value.slice A' (l.length + 1) c').ownBlock = some k' → (Value.slice (some ⟨g6, 0, none⟩) (l.length + 1) c6).ownBlock ≠ some k') := fun A' c' w' h => by
    refine ⟨own_weaken h HS7.out.sz, fun k' hk he => ?_⟩
    have h1 := own_base h k' hk
    have h2 := own_lt HS7.out.l k' he
    omega
  have hol : outs.length ≤ 1000000000 := by have := HX.out.mo; omega
  go_wp2
  go_region_law (first | (go_simp; go_at_call 92; refine (HCL.out _ (by repeat (first | exact Below.refl _ _ | refine below_drew ?_))).mono ?_; rintro e w8 ⟨A8, c8, rfl, hO8, hb8⟩; have hO8 := HAV.out _ _ _ hO8; have HS8 := Lib.hid (HS7.out.below hb8); have e8 := HS8.out.bo.cell 0; have l8 := HS8.out.bo.lt) | (refine append_row_step (w0 := w8) (W0 := w8) (W := w8) (W.heap.size + 4) (.slice Ao outs.length co) (.slice A8 (l.length + 1) c8) (l ++ [(k : Int)]) outs (Value.slice (some ⟨g6, 0, none⟩) (l.length + 1) c6).ownBlock (by rfl) (.tmp 50) (.tmp 53) (by rfl) (by rfl) (by rfl) (by rfl) HS8.out.o hO8.1 hO8.2 (Below.refl _ _) (Below.refl _ _) HS8.out.sz hol ?_; intro v9 w9 hO9 hb9 hg9 hat9; obtain ⟨A9, c9, rfl⟩ := out_slice hO9; have hB9 : Blk w9 W.heap.size 29 [.slice Ao outs.length co] := ((hb9.block _ (by omega)).trans HS8.out.bo); have e9 := hB9.cell 0; have f9 := hB9.frozen))
  all_goals
    obtain ⟨hS10, hK10⟩ := HS8.out.added (ov1 := .slice A9 (outs.length + 1) c9) hO9 hb9 hg9
    have HAT9 := Lib.hid (show Later w8 (.slice Ao outs.length co) (.slice A9 (outs.length + 1) c9) from hat9)
    have HS10 := Lib.hid hS10
    have HK10 := Lib.hid hK10
    have HB8 := Lib.hid hb8
    clear hS10 hK10 hO9 hg9 hat9 e9 f9 e8 hb9 hB9
    generalize w9.setCell ⟨W.heap.size, 0, none⟩ (.slice A9 (outs.length + 1) c9) = w10 at HS10 HK10 ⊢
    have p10 := HS10.out.bl.cell 0
    have f10 := HS10.out.bl.frozen
    clear hb8 l8 hO8
    go_wp2
    go_end0
    obtain ⟨hS11, hK11⟩ := HS10.out.popped
    have k8 := (HK5.out.trans HK7.out (Later.refl _ _) (Later.refl _ _)).then HB8.out
    have a1 : Later w (.slice Al l.length cl) (.slice (some ⟨g6, 0, none⟩) (l.length + 1) c6) := HAT.out.mono HK5.out.size
    have a2 : Later w (.slice Ao outs.length co) (.slice A9 (outs.length + 1) c9) := HAT9.out.mono k8.size
    exact ⟨rfl, _, _, hS11, (k8.trans HK10.out a1 (Later.refl _ _)).trans hK11 a1 a2, a1, a2⟩
end Go.Proofs.YtiidkekmklbobaaDoor
set_option linter.unusedVariables false
set_option linter.unusedSimpArgs false
namespace Go.Proofs.YtiidkekmklbobaaDoor
open Go.RowKit Go.Proofs.YtiidkekmklbobaaDoorW.PrintWords
attribute [local go_sem] mx_two mn_two blk_add
/-- What the first k states that may follow add. -/
def foldK (p : Pil) (i : Nat) (st : Int) (left : Nat) (f : Int → Nat → List (List Int) → List (List Int)) (outs : List (List Int)) : Nat → List (List Int)
  | 0 => outs
  | k + 1 => match nextAt (shiftF p i) st left k with
    | none => foldK p i st left f outs k
    | some q => f q.1 q.2 (foldK p i st left f outs k)
theorem fold_nexts (p : Pil) (i : Nat) (st : Int) (left : Nat) (f : Int → Nat → List (List Int) → List (List Int)) (outs : List (List Int)) :
    foldK p i st left f outs 3 = (nextsF p i st left).foldl (fun o q => f q.1 q.2 o) outs := by
  have h : ∀ n, foldK p i st left f outs n = ((List.range n).filterMap (nextAt (shiftF p i) st left)).foldl (fun o q => f q.1 q.2 o) outs := by
    intro n
    induction n with
    | zero => rfl
    | succ n ih =>
      rw [List.range_succ, List.filterMap_append, List.foldl_append, ← ih]
      simp only [foldK]
      cases hn : nextAt (shiftF p i) st left n <;> simp [hn]
  exact h 3
/-- What a call of 'visit' does, at entry i with the load in x. -/
def VisC (bs bc bm bn F : Nat) (W : World) (l : List Int) (i : Nat) (x : Int × Int) (f : Int → Nat → List (List Int) → List (List Int)) : Prop :=
  ∀ (k left : Nat) (outs : List (List Int)) (lv ov : Value) (w : World), k < 3 → left < F + 1 → VS bs bc bm bn W w lv ov l outs →
    Calls Tryd.prog 88 (#[.int .i64 i, .int .i64 (k : Int), .int .i64 left, spv x.1 x.2] ++ capV bs bc bm bn W.heap.size) w
      fun e w' => e = .returned (.tuple #[]) ∧ ∃ lv' ov', VS bs bc bm bn W w' lv' ov' l (f k left outs) ∧ Kv (W.heap.size + 1) W.heap.size lv ov w w' ∧ Later w lv lv' ∧ Later w ov ov'
theorem OutO.form {w : World} {base : Nat} {v : Value} {outs : List (List Int)} {a : Option Nat} (h : OutO w base v outs a) : ∃ vs, w.ownsRow base 26 1 v outs.length vs := ⟨_, h.choose_spec.1⟩
set_option maxHeartbeats 1600000 in
theorem visit_next (p : Pil) (A : Option Addr) (c : Nat) (A1 : Option Addr) (c1 : Nat) (ws : List (Int × Int)) (F most gT base0 bs bc bm bn : Nat) (W : World) (hX : Fx p A c A1 c1 ws F most gT base0 bs bc bm bn W)
    (i k left bi bx : Nat) (x : Int × Int) (l : List Int) (outs : List (List Int)) (lv ov : Value) (w : World) (hi : i + 1 < p.log.length) (hk : k < 3) (hl : left < F + 1) (hx : 0 ≤ x.1 ∧ x.1 ≤ x.2 ∧ x.2 ≤ 65536) (hS : VS bs bc bm bn W w lv ov l outs)
    (hbi : w.cell? ⟨bi, 0, none⟩ = some (.int .i64 i)) (hx1 : w.cell? ⟨bx, 0, none⟩ = some (.int .i64 x.1)) (hx2 : w.cell? ⟨bx, 1, none⟩ = some (.int .i64 x.2))
    (hni : W.heap.size + 4 ≤ bi ∧ some bi ≠ lv.ownBlock ∧ some bi ≠ ov.ownBlock) (hnx : W.heap.size + 4 ≤ bx ∧ some bx ≠ lv.ownBlock ∧ some bx ≠ ov.ownBlock)
    (f : Int → Nat → List (List Int) → List (List Int)) (ih : VisC bs bc bm bn F W l (i + 1) (x.1 + (sp ws i).1, x.2 + (sp ws i).2) f) :
    Calls Tryd.prog 93 #[storyv p A c A1 ws.length c1, .int .i64 i, .int .i64 (k : Int), .int .i64 left, .func (.func 94) #[] #[.pointer (some ⟨W.heap.size + 2, 0, none⟩), .pointer (some ⟨bi, 0, none⟩), .pointer (some ⟨bx, 0, none⟩), .pointer (some ⟨bs, 0, none⟩)]] w
      fun e w' => e = .returned (.tuple #[]) ∧ ∃ lv' ov', VS bs bc bm bn W w' lv' ov' l (foldK p i (k : Int) left f outs 3) ∧ Kv (W.heap.size + 1) W.heap.size lv ov w w' ∧ Later w lv lv' ∧ Later w ov ov' := by
  have hL := hX.hp.l
  have hf1 := hX.hp.f1
  have hF := hX.hF
  have hwl : ws.length = p.log.length - 1 := by
    have := hX.hwe
    simp only [weatherB, Bool.and_eq_true, beq_iff_eq] at this
    exact this.1
  have eg94 : ∀ args w, (callFunc 94 args).run Tryd.prog w = .ok (.enter 94 args) w := enters_of Tryd.func94 (by kernel_rfl) rfl
  have eg88 : ∀ args w, (callFunc 88 args).run Tryd.prog w = .ok (.enter 88 args) w := enters_of Tryd.func88 (by kernel_rfl) rfl
  obtain ⟨adw, hadw, q1, q2⟩ := at_span hX.w i (by omega)
  have hwi := weather_at hX.hwe i
  have hbox : Below w.heap.size w (w.alloc (boxS p A c A1 ws.length c1)) := (Below.refl _ _).alloc (Nat.le_refl _) _
  have hbw : ∀ w', VS bs bc bm bn W w' lv ov l outs → Below W.heap.size W w' := fun w' h => h.b
  refine (next_any p A c A1 ws.length c1 i (k : Int) left 94 _ w hX.hp hi (by omega) eg94
    (fun j w' => w'.heap[w.heap.size]? = some (boxS p A c A1 ws.length c1) ∧ w.heap.size + 1 ≤ w'.heap.size ∧ ∃ lv' ov', VS bs bc bm bn W w' lv' ov' l (foldK p i (k : Int) left f outs j) ∧ Kv (W.heap.size + 1) W.heap.size lv ov w w' ∧ Later w lv lv' ∧ Later w ov ov')
    ⟨by simpa using heap_alloc_new w (boxS p A c A1 ws.length c1), by simp, lv, ov, hS.below hbox, Kv.of_below hbox, .inl rfl, .inl rfl⟩ ?_ ?_ ?_ ?_ ?_).mono ?_
  · rintro j w' ⟨h, _⟩; exact h
  · rintro j w' ⟨_, _, lv', ov', hv, _⟩; exact Kd.C_below hX.a hv.b
  · rintro j w' w'' ⟨h1, h2, lv', ov', hv, hkv, ha, hb⟩ hbw'
    exact ⟨(hbw'.block _ (by omega)).trans h1, Nat.le_trans h2 hbw'.size, lv', ov', hv.below hbw', hkv.then hbw', ha, hb⟩
  · rintro j w' hj hn ⟨h1, h2, lv', ov', hv, hkv, ha, hb⟩
    refine ⟨h1, h2, lv', ov', ?_, hkv, ha, hb⟩
    simp only [foldK, hn]
    exact hv
  · rintro j w' z rest hj hn ⟨h1, h2, lv', ov', hv, hkv, ha, hb⟩
    obtain ⟨rfl, hrest⟩ := nextAt_some hn
    have kept : ∀ b o u, W.heap.size + 4 ≤ b → some b ≠ lv.ownBlock → some b ≠ ov.ownBlock → w.cell? ⟨b, o, none⟩ = some u → w'.cell? ⟨b, o, none⟩ = some u := fun b o u hb4 hn1 hn2 hc => by
      have hlt := World.block_lt_of_cell? w _ hc
      have hh := hkv.block b hlt (by omega) (by omega) hn1 hn2
      rw [← hc]
      simp only [World.cell?, hh]
    have hbW : Below W.heap.size W w' := hv.b
    refine onward_any (j : Int) rest i x (sp ws i) adw ws.length c1 (W.heap.size + 2) bi bx bs 88 (capV bs bc bm bn W.heap.size) _ w' eg88 hv.v (kept bi 0 _ hni.1 hni.2.1 hni.2.2 hbi) (kept bx 0 _ hnx.1 hnx.2.1 hnx.2.2 hx1) (kept bx 1 _ hnx.1 hnx.2.1 hnx.2.2 hx2)
      ?_ (pw_cell_below hbW q1) (pw_cell_below hbW q2) (by omega) (by omega) (by unfold small; omega) (by unfold small; omega) ?_
    · rw [← hadw]; exact pw_cell_below hbW (hX.s 7 (by omega))
    · intro w3 hb3
      have hv3 := hv.below hb3
      have hk3 := hkv.then hb3
      refine (ih j rest _ lv' ov' w3 hj (by omega) hv3).mono ?_
      rintro e w4 ⟨he, lv4, ov4, hv4, hkv4, ha4, hb4⟩
      have hsz3 : w'.heap.size ≤ w3.heap.size := hb3.size
      have hbx3 : w3.heap[w.heap.size]? = some (boxS p A c A1 ws.length c1) := (hb3.block _ (by omega)).trans h1
      have n1 : some w.heap.size ≠ lv'.ownBlock := own_ne hv3.l (show w3.heap[w.heap.size]? = some (.cells _ 87 (0, 0)) from hbx3) (by decide)
      have n2 : some w.heap.size ≠ ov'.ownBlock := by
        obtain ⟨vs, h⟩ := hv3.o.form
        exact own_ne h (show w3.heap[w.heap.size]? = some (.cells _ 87 (0, 0)) from hbx3) (by decide)
      have hWs := hS.sz
      refine ⟨he, (hkv4.block _ (by omega) (by omega) (by omega) n1 n2).trans hbx3, Nat.le_trans (by omega) hkv4.size, lv4, ov4, ?_, hk3.trans hkv4 ha hb, ha.trans ha4 hk3.size, hb.trans hb4 hk3.size⟩
      simp only [foldK, hn]
      exact hv4
  · rintro e w' ⟨he, _, _, lv', ov', hv, hkv, ha, hb⟩
    exact ⟨he, lv', ov', hv, hkv, ha, hb⟩
end Go.Proofs.YtiidkekmklbobaaDoor
set_option linter.unusedVariables false
set_option linter.unusedSimpArgs false
namespace Go.Proofs.YtiidkekmklbobaaDoor
open Go.RowKit Go.Proofs.YtiidkekmklbobaaDoorW.PrintWords
attribute [local go_sem] mx_two mn_two blk_add
theorem own_some {w : World} {base : Nat} {A : Option Addr} {n c : Nat} {xs : List Int} {z : Int} (h : OwnI w base (.slice A n c) (xs ++ [z])) : ∃ g, A = some ⟨g, 0, none⟩ ∧ xs.length + 1 ≤ c := by
  rcases h.form with ⟨_, h2⟩ | ⟨g, c', h1, h2⟩
  · simp at h2
  · injection h1 with h3 h4 h5
    subst h5
    exact ⟨g, h3, by simpa using h2⟩
set_option maxRecDepth 100000 in
set_option maxHeartbeats 3200000 in
theorem visit_node (p : Pil) (A : Option Addr) (c : Nat) (A1 : Option Addr) (c1 : Nat) (ws : List (Int × Int)) (F most gT base0 bs bc bm bn : Nat) (W : World) (hX : Fx p A c A1 c1 ws F most gT base0 bs bc bm bn W)
    (i k left : Nat) (x : Int × Int) (l : List Int) (outs : List (List Int)) (lv ov : Value) (w : World) (hi : i < p.log.length) (hk : k < 3) (hl : left < F + 1) (hx : small x.1 ∧ small x.2) (hS : VS bs bc bm bn W w lv ov l outs)
    (hgo : goesB p ws i (k : Int) left x = true) (hout : outs.length ≤ most) (hll : l.length ≤ 1000) (hlast : i + 1 < p.log.length) (hgb : 0 ≤ (meetF x (loadsF p i (k : Int))).1 ∧ (meetF x (loadsF p i (k : Int))).1 ≤ (meetF x (loadsF p i (k : Int))).2 ∧ (meetF x (loadsF p i (k : Int))).2 ≤ 65536)
    (f : Int → Nat → List (List Int) → List (List Int)) (ih : VisC bs bc bm bn F W (l ++ [(k : Int)]) (i + 1) ((meetF x (loadsF p i (k : Int))).1 + (sp ws i).1, (meetF x (loadsF p i (k : Int))).2 + (sp ws i).2) f) :
    Calls Tryd.prog 88 (#[.int .i64 i, .int .i64 (k : Int), .int .i64 left, spv x.1 x.2] ++ capV bs bc bm bn W.heap.size) w fun e w' => e = .returned (.tuple #[]) ∧ ∃ lv' ov', VS bs bc bm bn W w' lv' ov' l (foldK p i (k : Int) left f outs 3) ∧ Kv (W.heap.size + 1) W.heap.size lv ov w w' ∧ Later w lv lv' ∧ Later w ov ov' := by
  show Calls Tryd.prog 88 #[.int .i64 i, .int .i64 (k : Int), .int .i64 left, spv x.1 x.2, .pointer (some ⟨bs, 0, none⟩), .pointer (some ⟨bc, 0, none⟩), .pointer (some ⟨W.heap.size, 0, none⟩), .pointer (some ⟨bm, 0, none⟩), .pointer (some ⟨W.heap.size + 1, 0, none⟩), .pointer (some ⟨bn, 0, none⟩), .pointer (some ⟨W.heap.size + 2, 0, none⟩)] w _
  have hbw : Below w.heap.size w ((w.alloc (.cells #[.int .i64 i] 3)).alloc (.cells #[.int .i64 x.1, .int .i64 x.2] 42)) := ((Below.refl _ _).alloc (Nat.le_refl _) _).alloc (by simp) _
  have HX := Lib.hid hX
  have HS := Lib.hid hS
  have HGB := Lib.hid hgb
  have HIH := Lib.hid ih
  have hT : Hid (∀ w3, Below w.heap.size w w3 → w3.cell? ⟨bs, 0, none⟩ = some (.int .i64 p.no) ∧ w3.cell? ⟨bs, 1, none⟩ = some (.int .i64 p.cell) ∧ w3.cell? ⟨bs, 2, none⟩ = some (.int .i64 p.noise) ∧ w3.cell? ⟨bs, 3, none⟩ = some (.int .i64 p.slab) ∧ w3.cell? ⟨bs, 4, none⟩ = some (.int .i64 p.jump) ∧ w3.cell? ⟨bs, 5, none⟩ = some (.int .i64 p.faults) ∧ w3.cell? ⟨bs, 6, none⟩ = some (.slice A p.log.length c)) := fun w3 hb => by
    have hb2 : Below W.heap.size W w3 := hS.b.trans (hb.mono (by have := hS.sz; omega))
    exact ⟨pw_cell_below hb2 (hX.s 0 (by omega)), pw_cell_below hb2 (hX.s 1 (by omega)), pw_cell_below hb2 (hX.s 2 (by omega)), pw_cell_below hb2 (hX.s 3 (by omega)), pw_cell_below hb2 (hX.s 4 (by omega)), pw_cell_below hb2 (hX.s 5 (by omega)), pw_cell_below hb2 (hX.s 6 (by omega))⟩
  have HLO : Hid (∀ w3, Below w.heap.size w w3 → Calls Tryd.prog 72 #[p.val A c, .int .i64 i, .int .i64 (k : Int)] w3 fun e w' => e = .returned (spv (loadsF p i (k : Int)).1 (loadsF p i (k : Int)).2) ∧ Below w3.heap.size w3 w') := fun w3 hb => by
    have hb2 : Below W.heap.size W w3 := hS.b.trans (hb.mono (by have := hS.sz; omega))
    exact loads_any p A c i (k : Int) w3 hX.hp (Kd.C_below hX.a hb2) hi
  clear hX hS hgb ih
  obtain ⟨x1, x2⟩ := x
  dsimp only at *
  go_enter Tryd.func88, Tryd.ntmps88
  have hT2 : Hid (∀ w3, Below (w.heap.size + 1 + 1) ((w.alloc (.cells #[.int .i64 i] 3)).alloc (.cells #[.int .i64 x1, .int .i64 x2] 42)) w3 → Below w.heap.size w w3 ∧ w3.cell? ⟨w.heap.size, 0, none⟩ = some (.int .i64 i) ∧ w3.cell? ⟨w.heap.size + 1, 0, none⟩ = some (.int .i64 x1) ∧ w3.cell? ⟨w.heap.size + 1, 1, none⟩ = some (.int .i64 x2) ∧ w.heap.size + 1 + 1 ≤ w3.heap.size) := fun w3 hb => by
    have hb2 : Below ((w.alloc (.cells #[.int .i64 i] 3)).alloc (.cells #[.int .i64 x1, .int .i64 x2] 42)).heap.size ((w.alloc (.cells #[.int .i64 i] 3)).alloc (.cells #[.int .i64 x1, .int .i64 x2] 42)) w3 := hb.mono (by simp)
    exact ⟨hbw.trans (hb.mono (by omega)), pw_cell_below hb2 (by simp [go_sem]), pw_cell_below hb2 (by simp [go_sem]), pw_cell_below hb2 (by simp [go_sem]), by have := hb.size; simpa using this⟩
  clear hbw
  go_wp2
  refine wp_region_tail 7 (fun w3 => Below (w.heap.size + 1 + 1) ((w.alloc (.cells #[.int .i64 i] 3)).alloc (.cells #[.int .i64 x1, .int .i64 x2] 42)) w3) (by kernel_rfl) (by kernel_rfl) (below_drew (Below.refl _ _)) ?_
  simp only [List.take_succ_cons, List.take_zero, List.drop_succ_cons, List.drop_zero]
  repeat (refine wpQuiet_step (fun K hK => ?_); go_simp; (first | (refine hK _ ?_) | (refine ⟨_, fun _ _ => rfl, hK _ ?_⟩) | (refine ⟨_, fun w3 hw3 => less_exact trivial (meet_any _ _ _ _ w3) hw3 (hT2.out w3 hw3).2.2.2.2, hK _ ?_⟩) | (refine ⟨_, fun w3 hw3 => less_exact trivial (HLO.out w3 (hT2.out w3 hw3).1) hw3 (hT2.out w3 hw3).2.2.2.2, hK _ ?_⟩) | (apply Exists.intro; refine ⟨fun w3 hw3 => ?_, hK _ ?_⟩; focus (have t0 := (hT2.out w3 hw3).2.1; have u1 := (hT2.out w3 hw3).2.2.1; have u2 := (hT2.out w3 hw3).2.2.2.1; obtain ⟨t1, t2, t3, t4, t5, t6, t7⟩ := hT.out w3 (hT2.out w3 hw3).1; first | (go_simp; done) | (go_simp; rfl)))); clear hK K)
  refine wpQuiet_nil ?_
  intro w3 hw3
  have hB3 : Blk w3 (w.heap.size + 1) 42 (sc [(x1, x2)]) := by
    have h := Blk.new (w.alloc (.cells #[.int .i64 i] 3)) 42 (sc [(x1, x2)])
    rw [show (w.alloc (.cells #[.int .i64 i] 3)).heap.size = w.heap.size + 1 by simp] at h
    exact h.below (hw3.mono (by simp))
  obtain ⟨hw4, v0, v1, v2, v3⟩ := hT2.out w3 hw3
  have v4 : ∀ j, w3.frozen? ⟨w.heap.size + 1, j, none⟩ = false := hB3.frozen
  have H4 : Hid (Below w.heap.size w ((w3.setCell ⟨w.heap.size + 1, 0, none⟩ (.int .i64 (max x1 (loadsF p i (k : Int)).1))).setCell ⟨w.heap.size + 1, 1, none⟩ (.int .i64 (min x2 (loadsF p i (k : Int)).2))) ∧ Blk ((w3.setCell ⟨w.heap.size + 1, 0, none⟩ (.int .i64 (max x1 (loadsF p i (k : Int)).1))).setCell ⟨w.heap.size + 1, 1, none⟩ (.int .i64 (min x2 (loadsF p i (k : Int)).2))) (w.heap.size + 1) 42 (sc [meetF (x1, x2) (loadsF p i (k : Int))])) := by
    refine ⟨(hw4.setCell (by simp) _).setCell (by simp) _, ?_⟩
    have h2 := hB3.set2 0 (max x1 (loadsF p i (k : Int)).1) (min x2 (loadsF p i (k : Int)).2)
    simpa [meetF] using h2
  have v5 : Hid (((w3.setCell ⟨w.heap.size + 1, 0, none⟩ (.int .i64 (max x1 (loadsF p i (k : Int)).1))).setCell ⟨w.heap.size + 1, 1, none⟩ (.int .i64 (min x2 (loadsF p i (k : Int)).2))).cell? ⟨w.heap.size, 0, none⟩ = some (.int .i64 i)) := by
    show World.cell? _ _ = _
    refine (World.cell?_setCell_other _ _ _ _ (h := fun e => ?_)).trans ((World.cell?_setCell_other _ _ _ _ (h := fun e => ?_)).trans v0)
    · injection e with e1; omega
    · injection e with e1; omega
  clear hB3 hT2 HLO
  go_upto_region 2 with fail
  generalize (w3.setCell ⟨w.heap.size + 1, 0, none⟩ (.int .i64 (max x1 (loadsF p i (k : Int)).1))).setCell ⟨w.heap.size + 1, 1, none⟩ (.int .i64 (min x2 (loadsF p i (k : Int)).2)) = w4 at H4 v5 ⊢
  clear v0 v1 v2 v3 v4 hw3 hw4 w3
  have hW4 : Hid (Below W.heap.size W w4) := HS.out.b.trans (H4.out.1.mono (by have := HS.out.sz; omega))
  obtain ⟨gR, v, r1, r2, r3⟩ := HX.out.row hW4.out i k left hi hk hl
  have HR := Lib.hid r3
  obtain ⟨Av, cv, rfl⟩ := own_slice r3
  have c0 : w4.cell? ⟨bc, 0, none⟩ = some (.slice (some ⟨gT, 0, none⟩) p.log.length p.log.length) := pw_cell_below hW4.out HX.out.c
  have c1' : w4.cell? ⟨w.heap.size, 0, none⟩ = some (.int .i64 i) := v5.out
  have HCN := Lib.hid (contains_any (meetF (x1, x2) (loadsF p i (k : Int))) (w.heap.size + 1) (chF p ws i (k : Int) left) _ base0 w4 H4.out.2.lt (H4.out.2.cell 0) (H4.out.2.cell 1) r3 (by have := ch_len p ws HX.out.hp (p.log.length - 1 - i) (k : Int) left; unfold chF; omega))
  clear r3
  have j1 : (i : Int) < (p.log.length : Int) := by omega
  have j2 : (k : Int) < 3 := by omega
  have j3 : (left : Int) < (F : Int) + 1 := by omega
  rw [show (chF p ws i (k : Int) left).any (meetsB (meetF (x1, x2) (loadsF p i (k : Int)))) = true from hgo] at HCN
  obtain ⟨Ao, co, hov⟩ : ∃ A c, ov = .slice A outs.length c := by obtain ⟨vs, h, _⟩ := HS.out.o; exact own_slice h
  subst hov
  obtain ⟨Al, cl, hlv⟩ : ∃ A c, lv = .slice A l.length c := own_slice HS.out.l
  subst hlv
  have o1 : w4.cell? ⟨W.heap.size, 0, none⟩ = some (.slice Ao outs.length co) := pw_cell_below H4.out.1 (HS.out.bo.cell 0)
  have o2 : w4.cell? ⟨bm, 0, none⟩ = some (.int .i64 most) := pw_cell_below hW4.out HX.out.m
  have o3 : W.heap.size < w4.heap.size := by have := HS.out.sz; have := H4.out.1.size; omega
  have o4 : bm < w4.heap.size := World.block_lt_of_cell? _ _ o2
  have o5 : w4.cell? ⟨W.heap.size + 1, 0, none⟩ = some (.slice Al l.length cl) := pw_cell_below H4.out.1 (HS.out.bl.cell 0)
  have o6 : W.heap.size + 1 < w4.heap.size := by have := HS.out.sz; have := H4.out.1.size; omega
  have hm2 : ¬ (most : Int) < (outs.length : Int) := by omega
  have HS4 := Lib.hid (HS.out.below H4.out.1)
  go_upto_region 5 with (first | (go_at_call 89; refine HCN.out.mono ?_; rintro e w5 ⟨rfl, hb5⟩; obtain ⟨hc5, hf5⟩ := bcell hb5; have hs5 := hb5.size; have HS5 := Lib.hid (HS4.out.below hb5)) | (at_builtin; refine append_int (w0 := w5) (W0 := w5) (W := w5) (W.heap.size + 4) (.slice Al l.length cl) (k : Int) l rfl (.tmp 42) (.tmp 44) rfl rfl rfl HS5.out.l (Below.refl _ _) (Below.refl _ _) HS5.out.sz (by omega) ?_; intro v1 w6 hl6 hb6 hg6 hat6; obtain ⟨A6, c6, rfl⟩ := own_slice hl6; have hB6 : Blk w6 (W.heap.size + 1) 26 [.slice Al l.length cl] := (hb6.block _ (by omega)).trans HS5.out.bl; have e6 := hB6.cell 0; have f6 := hB6.frozen 0))
  have hl7 : OwnI w6 (W.heap.size + 4) (.slice A6 (l.length + 1) c6) (l ++ [(k : Int)]) := by simpa using hl6
  have HAT : Hid (Later w5 (.slice Al l.length cl) (.slice A6 (l.length + 1) c6)) := by
    show Later _ _ _
    have h := hat6; rw [show (l ++ [(k : Int)]).length = l.length + 1 by simp] at h; exact h
  obtain ⟨hS7, hK7⟩ := HS5.out.pushed hb6 hl7 hg6 HAT.out
  have HK5 := Lib.hid (show Kv (W.heap.size + 1) W.heap.size (.slice Al l.length cl) (.slice Ao outs.length co) w w5 from (Kv.of_below H4.out.1).then hb5)
  have g7 : (w6.setCell ⟨W.heap.size + 1, 0, none⟩ (.slice A6 (l.length + 1) c6)).cell? ⟨w.heap.size, 0, none⟩ = some (.int .i64 i) := by
    have hs := HS.out.sz
    have hs4 := H4.out.1.size
    have ll := own_lt HS.out.l
    have q : w5.cell? ⟨w.heap.size, 0, none⟩ = some (.int .i64 i) := pw_cell_below hb5 c1'
    refine cell_of_same (hK7.block w.heap.size (by have := World.block_lt_of_cell? _ _ q; exact this) (by omega) (by omega) (fun e => ?_) (fun e => ?_)) q
    · have := ll _ e.symm; omega
    · obtain ⟨vs, h, _⟩ := HS.out.o
      have := own_lt h _ e.symm
      omega
  have hlv := own_lt HS.out.l
  have hov : ∀ b, (Value.slice Ao outs.length co).ownBlock = some b → b < w.heap.size := fun b hb => by
    obtain ⟨vs, h⟩ := HS.out.o.form
    exact own_lt h b hb
  have hXB : Blk (w6.setCell ⟨W.heap.size + 1, 0, none⟩ (.slice A6 (l.length + 1) c6)) (w.heap.size + 1) 42 (sc [meetF (x1, x2) (loadsF p i (k : Int))]) := by
    have h5 := H4.out.2.below hb5
    have hs := HS.out.sz
    refine (hK7.block (w.heap.size + 1) h5.lt (by omega) (by omega) (fun e => ?_) (fun e => ?_)).trans h5
    · have := hlv _ e.symm; omega
    · have := hov _ e.symm; omega
  have HXB := Lib.hid hXB
  have NE : Hid ((W.heap.size + 4 ≤ w.heap.size ∧ some w.heap.size ≠ (Value.slice A6 (l.length + 1) c6).ownBlock ∧ some w.heap.size ≠ (Value.slice Ao outs.length co).ownBlock) ∧ (W.heap.size + 4 ≤ w.heap.size + 1 ∧ some (w.heap.size + 1) ≠ (Value.slice A6 (l.length + 1) c6).ownBlock ∧ some (w.heap.size + 1) ≠ (Value.slice Ao outs.length co).ownBlock)) := by
    have hs := HS.out.sz
    have hlt5 := (H4.out.2.below hb5).lt
    have key : ∀ b, w.heap.size ≤ b → b < w5.heap.size → some b ≠ (Value.slice A6 (l.length + 1) c6).ownBlock ∧ some b ≠ (Value.slice Ao outs.length co).ownBlock := fun b h1 h2 => by
      refine ⟨fun e => ?_, fun e => ?_⟩
      · rcases HAT.out with e2 | ⟨b2, e2, hb2⟩
        · have := hlv b (e2.symm.trans e.symm); omega
        · rw [e2] at e; injection e with e; omega
      · have := hov b e.symm; omega
    exact ⟨⟨hs, key _ (Nat.le_refl _) (by omega)⟩, ⟨by omega, key _ (by omega) hlt5⟩⟩
  clear hXB hlv hov
  have HS7 := Lib.hid hS7
  have HK7 := Lib.hid (show Kv (W.heap.size + 1) W.heap.size (.slice Al l.length cl) (.slice Ao outs.length co) w5 (w6.setCell ⟨W.heap.size + 1, 0, none⟩ (.slice A6 (l.length + 1) c6)) from hK7)
  clear hS7 hK7 hl7 hl6
  generalize w6.setCell ⟨W.heap.size + 1, 0, none⟩ (.slice A6 (l.length + 1) c6) = w7 at HS7 HK7 HXB g7 ⊢
  have n7 : w7.cell? ⟨bn, 0, none⟩ = some (.int .i64 p.log.length) := pw_cell_below HS7.out.b HX.out.n
  have e7 : ((i : Int) == (p.log.length : Int) - 1) = false := by simp; omega
  have fw : IntKind.i64.wrap ((p.log.length : Int) - 1) = (p.log.length : Int) - 1 := by have := HX.out.hp.l; rw [IntKind.wrap_i64]; omega
  have p7 := HS7.out.bo.cell 0
  have q7 := HS7.out.bl.cell 0
  have lt7 : W.heap.size < w7.heap.size := HS7.out.bo.lt
  have lt7' : W.heap.size + 1 < w7.heap.size := HS7.out.bl.lt
  have fz7 : ∀ j, w7.frozen? ⟨W.heap.size, j, none⟩ = false := HS7.out.bo.frozen
  obtain ⟨g6, hA6, hc6⟩ : ∃ g, A6 = some ⟨g, 0, none⟩ ∧ l.length + 1 ≤ c6 := by
    rcases HS7.out.l.form with ⟨h, _⟩ | ⟨g, c, h, hc⟩
    · simp at h
    · simp at h
      exact ⟨g, h.1, by have := h.2; simp at hc; omega⟩
  subst hA6
  have HNX := Lib.hid (visit_next p A c A1 c1 ws F most gT base0 bs bc bm bn W HX.out i k left w.heap.size (w.heap.size + 1) (meetF (x1, x2) (loadsF p i (k : Int))) (l ++ [(k : Int)]) outs _ _ w7 hlast hk hl HGB.out HS7.out g7 (HXB.out.cell 0) (HXB.out.cell 1) NE.out.1 NE.out.2 f HIH.out)
  have hs7 : ∀ j, j < 8 → w7.cell? ⟨bs, j, none⟩ = #[.int .i64 p.no, .int .i64 p.cell, .int .i64 p.noise, .int .i64 p.slab, .int .i64 p.jump, .int .i64 p.faults, .slice A p.log.length c, .slice A1 ws.length c1][j]? := fun j hj => by
    have h := HX.out.s j hj
    rw [← h]
    have : bs < W.heap.size := World.block_lt_of_cell? W _ (HX.out.s 0 (by omega))
    exact HS7.out.b.cell (p := ⟨bs, j, none⟩) this
  have t0 := hs7 0 (by omega)
  have t1 := hs7 1 (by omega)
  have t2 := hs7 2 (by omega)
  have t3 := hs7 3 (by omega)
  have t4 := hs7 4 (by omega)
  have t5 := hs7 5 (by omega)
  have t6 := hs7 6 (by omega)
  have t7 := hs7 7 (by omega)
  simp at t0 t1 t2 t3 t4 t5 t6 t7
  clear hs7
  go_wp2_with (go_at_call 93; refine HNX.out.mono ?_; rintro e w8 ⟨rfl, lv8, ov8, hS8, hK8, a8, b8⟩; obtain ⟨A8, c8, rfl⟩ := own_slice hS8.l; have HS8 := Lib.hid hS8; have HK8 := Lib.hid hK8; have HA8 := Lib.hid a8; have HB8 := Lib.hid b8; clear hS8 hK8 a8 b8; obtain ⟨g8, hA8, hc8⟩ := own_some HS8.out.l; subst hA8; have p10 := HS8.out.bl.cell 0; have f10 := HS8.out.bl.frozen; simp only [List.length_append, List.length_cons, List.length_nil] at p10)
  go_end0
  obtain ⟨hS11, hK11⟩ := HS8.out.popped
  have k8 := (HK5.out.trans HK7.out (Later.refl _ _) (Later.refl _ _))
  have a1 : Later w (.slice Al l.length cl) (.slice (some ⟨g6, 0, none⟩) (l.length + 1) c6) := HAT.out.mono HK5.out.size
  have k9 := k8.trans HK8.out a1 (Later.refl _ _)
  have a2 : Later w (.slice Al l.length cl) _ := a1.trans HA8.out k8.size
  have a3 : Later w (.slice Ao outs.length co) ov8 := HB8.out.mono k8.size
  exact ⟨rfl, _, _, hS11, k9.trans hK11 a2 a3, a2, a3⟩
end Go.Proofs.YtiidkekmklbobaaDoor
set_option linter.unusedVariables false
set_option linter.unusedSimpArgs false
namespace Go.Proofs.YtiidkekmklbobaaDoor
open Go.RowKit
/-! ## Plain: what 'cases' finds -/
def neB (x : Int × Int) : Bool := decide (x.1 ≤ x.2)
/-- All ways on from entry i in state st with 'left' faults behind it, where its load is in x (x not empty); d entries lie behind. -/
def contF (p : Pil) (ws : List (Int × Int)) : Nat → Nat → Int → Nat → Int × Int → List (List Int)
  | 0, _, _, _, _ => [[]]
  | d + 1, i, st, left, m => (nextsF p i st left).flatMap fun q =>
    let y := meetF (m.1 + (sp ws i).1, m.2 + (sp ws i).2) (loadsF p (i + 1) q.1)
    if neB y then (contF p ws d (i + 1) q.1 q.2 y).map (q.1 :: ·) else []
def compF (p : Pil) (ws : List (Int × Int)) (d i : Nat) (st : Int) (left : Nat) (x : Int × Int) : List (List Int) :=
  let y := meetF x (loadsF p i st)
  if neB y then (contF p ws d i st left y).map (st :: ·) else []
theorem cont_succ (p : Pil) (ws : List (Int × Int)) (d i : Nat) (st : Int) (left : Nat) (m : Int × Int) :
    contF p ws (d + 1) i st left m = (nextsF p i st left).flatMap fun q => compF p ws d (i + 1) q.1 q.2 (m.1 + (sp ws i).1, m.2 + (sp ws i).2) := rfl
theorem comp_ne (p : Pil) (ws : List (Int × Int)) (d i : Nat) (st : Int) (left : Nat) (x : Int × Int) : compF p ws d i st left x ≠ [] ↔ (meetF x (loadsF p i st)).1 ≤ (meetF x (loadsF p i st)).2 ∧ contF p ws d i st left (meetF x (loadsF p i st)) ≠ [] := by
  unfold compF neB
  by_cases h : (meetF x (loadsF p i st)).1 ≤ (meetF x (loadsF p i st)).2
  · simp [h]
  · simp [h]
theorem flatMap_ne {α β : Type} (l : List α) (f : α → List β) : l.flatMap f ≠ [] ↔ ∃ a ∈ l, f a ≠ [] := by
  simp [List.flatMap_eq_nil_iff]
theorem InS_one (n : Int) (x : Int × Int) : InS n [x] ↔ x.1 ≤ n ∧ n ≤ x.2 := by simp [InS]
theorem meetsB_t (x y : Int × Int) : meetsB x y = true ↔ max x.1 y.1 ≤ min x.2 y.2 := by
  unfold meetsB
  rw [Bool.not_eq_true', decide_eq_false_iff_not]
  omega
/-- What 'chances' says. -/
theorem comp_iff (p : Pil) (ws : List (Int × Int)) (hp : Ok p) (hw : weatherB p ws = true) : ∀ (d i : Nat) (st : Int) (left : Nat) (x : Int × Int), i + d + 1 = p.log.length →
    (compF p ws d i st left x ≠ [] ↔ ∃ n, x.1 ≤ n ∧ n ≤ x.2 ∧ InS n (chF p ws i st left)) := by
  intro d
  induction d with
  | zero =>
    intro i st left x hi
    rw [comp_ne, chF_last p ws i st left (by omega)]
    have hl := loads_ne p hp i st
    simp only [contF, ne_eq, List.cons_ne_nil, not_false_eq_true, and_true, InS_one, meetF]
    constructor
    · intro h; exact ⟨max x.1 (loadsF p i st).1, by omega, by omega, by omega, by omega⟩
    · rintro ⟨n, h1, h2, h3, h4⟩; omega
  | succ d ih =>
    intro i st left x hi
    have hwi := weather_at hw i
    rw [comp_ne, cont_succ, flatMap_ne, chF_step p ws i st left (by omega)]
    have hu := (uniF_spec (rawF p ws i st left (chF p ws (i + 1))) (fun y hy => ((raw_water p ws hp i st left _) y hy).2.1)).2
    simp only [hu]
    constructor
    · rintro ⟨h1, q, hq, h2⟩
      obtain ⟨n, h3, h4, y, hy, h5, h6⟩ := (ih (i + 1) q.1 q.2 _ (by omega)).1 h2
      simp only [meetF] at h1 h3 h4
      refine ⟨max (max x.1 (loadsF p i st).1) (n - (sp ws i).2), by omega, by omega, meetF (loadsF p i st) (y.1 - (sp ws i).2, y.2 - (sp ws i).1), ?_, ?_, ?_⟩
      · unfold rawF
        rw [List.mem_flatMap]
        refine ⟨q, hq, List.mem_filterMap.2 ⟨y, hy, ?_⟩⟩
        simp only [fromF]
        rw [if_pos]
        simp only [meetF]; omega
      · simp only [meetF]; omega
      · simp only [meetF]; omega
    · rintro ⟨n, h1, h2, z, hz, h3, h4⟩
      unfold rawF at hz
      rw [List.mem_flatMap] at hz
      obtain ⟨q, hq, hz⟩ := hz
      obtain ⟨y, hy, hyz⟩ := List.mem_filterMap.1 hz
      simp only [fromF] at hyz
      split at hyz
      · injection hyz with hyz
        subst hyz
        have hyy := (ch_water p ws hp (p.log.length - 1 - (i + 1)) q.1 q.2).1 y hy
        simp only [meetF] at h3 h4 ⊢
        refine ⟨by omega, q, hq, (ih (i + 1) q.1 q.2 _ (by omega)).2 ⟨max y.1 (n + (sp ws i).1), by dsimp only; omega, by dsimp only; omega, y, hy, by omega, by omega⟩⟩
      · cases hyz
theorem ch_here (p : Pil) (ws : List (Int × Int)) (hp : Ok p) (i : Nat) (st : Int) (left : Nat) (hi : i < p.log.length) (n : Int) (h : InS n (chF p ws i st left)) : (loadsF p i st).1 ≤ n ∧ n ≤ (loadsF p i st).2 := by
  by_cases hl : i + 1 = p.log.length
  · rw [chF_last p ws i st left hl, InS_one] at h
    exact h
  · rw [chF_step p ws i st left (by omega)] at h
    have hu := (uniF_spec (rawF p ws i st left (chF p ws (i + 1))) (fun y hy => ((raw_water p ws hp i st left _) y hy).2.1)).2
    rw [hu] at h
    obtain ⟨z, hz, h3, h4⟩ := h
    unfold rawF at hz
    rw [List.mem_flatMap] at hz
    obtain ⟨q, hq, hz⟩ := hz
    obtain ⟨y, hy, hyz⟩ := List.mem_filterMap.1 hz
    simp only [fromF] at hyz
    split at hyz
    · injection hyz with hyz
      subst hyz
      simp only [meetF] at h3 h4
      omega
    · cases hyz
theorem goes_iff (p : Pil) (ws : List (Int × Int)) (hp : Ok p) (hw : weatherB p ws = true) (d i : Nat) (st : Int) (left : Nat) (x : Int × Int) (hi : i + d + 1 = p.log.length) :
    goesB p ws i st left x = true ↔ compF p ws d i st left x ≠ [] := by
  rw [comp_iff p ws hp hw d i st left x hi]
  unfold goesB
  have hwa := (ch_water p ws hp (p.log.length - 1 - i) st left).1
  rw [List.any_eq_true]
  constructor
  · rintro ⟨y, hy, h⟩
    simp only [meetsB_t, meetF] at h
    have := hwa y hy
    exact ⟨max (max x.1 (loadsF p i st).1) y.1, by omega, by omega, y, hy, by omega, by omega⟩
  · rintro ⟨n, h1, h2, h3⟩
    have := ch_here p ws hp i st left (by omega) n h3
    obtain ⟨y, hy, h4, h5⟩ := h3
    refine ⟨y, hy, ?_⟩
    simp only [meetsB_t, meetF]
    omega
theorem goes_bd (p : Pil) (ws : List (Int × Int)) (hp : Ok p) (i : Nat) (st : Int) (left : Nat) (x : Int × Int) (h : goesB p ws i st left x = true) :
    0 ≤ (meetF x (loadsF p i st)).1 ∧ (meetF x (loadsF p i st)).1 ≤ (meetF x (loadsF p i st)).2 ∧ (meetF x (loadsF p i st)).2 ≤ 65536 := by
  unfold goesB at h
  obtain ⟨y, hy, h⟩ := List.any_eq_true.1 h
  have := (ch_water p ws hp (p.log.length - 1 - i) st left).1 y hy
  have hl := loads_bd p hp i st
  simp only [meetsB_t, meetF] at h ⊢
  omega
/-- The walk finds the ways on, one after the other, as long as there are not too many. -/
theorem take_join {α : Type} (A B out : List α) (m : Nat) : (out ++ A.take (m - out.length)) ++ B.take (m - (out ++ A.take (m - out.length)).length) = out ++ (A ++ B).take (m - out.length) := by
  rw [List.append_assoc, List.take_append]
  congr 3
  simp only [List.length_append, List.length_take]
  omega
theorem vis_fold (p : Pil) (ws : List (Int × Int)) (most d i : Nat) (x : Int × Int) (l : List Int)
    (ih : ∀ (st : Int) (left : Nat) (out : List (List Int)), visF p ws most d i st left x l out = out ++ ((compF p ws d i st left x).map (l ++ ·)).take (most + 1 - out.length)) :
    ∀ (qs : List (Int × Nat)) (out : List (List Int)), qs.foldl (fun o q => visF p ws most d i q.1 q.2 x l o) out = out ++ ((qs.flatMap fun q => compF p ws d i q.1 q.2 x).map (l ++ ·)).take (most + 1 - out.length) := by
  intro qs
  induction qs with
  | nil => intro out; simp
  | cons q qs ih2 =>
    intro out
    rw [List.foldl_cons, ih2, ih, List.flatMap_cons, List.map_append, take_join]
theorem vis_eq (p : Pil) (ws : List (Int × Int)) (hp : Ok p) (hw : weatherB p ws = true) (most : Nat) : ∀ (d i : Nat) (st : Int) (left : Nat) (x : Int × Int) (l : List Int) (out : List (List Int)), i + d + 1 = p.log.length →
    visF p ws most d i st left x l out = out ++ ((compF p ws d i st left x).map (l ++ ·)).take (most + 1 - out.length) := by
  intro d
  induction d with
  | zero =>
    intro i st left x l out hi
    have hg := goes_iff p ws hp hw 0 i st left x hi
    unfold visF
    by_cases h : goesB p ws i st left x = true
    · have hc := (comp_ne p ws 0 i st left x).1 (hg.1 h)
      have hc2 : compF p ws 0 i st left x = [[st]] := by
        unfold compF neB
        simp [hc.1, contF]
      rw [hc2, h]
      by_cases hm : most < out.length
      · rw [show most + 1 - out.length = 0 by omega]
        simp [hm]
      · obtain ⟨k, hk⟩ : ∃ k, most + 1 - out.length = k + 1 := ⟨most - out.length, by omega⟩
        rw [hk]
        simp [hm]
    · have hc : compF p ws 0 i st left x = [] := Classical.byContradiction fun hn => h (hg.2 hn)
      rw [hc]
      simp [h]
  | succ d ih =>
    intro i st left x l out hi
    have hg := goes_iff p ws hp hw (d + 1) i st left x hi
    unfold visF
    by_cases h : goesB p ws i st left x = true
    · have hc := (comp_ne p ws (d + 1) i st left x).1 (hg.1 h)
      by_cases hm : most < out.length
      · rw [show most + 1 - out.length = 0 by omega]
        simp [hm]
      · have hc2 : compF p ws (d + 1) i st left x = (contF p ws (d + 1) i st left (meetF x (loadsF p i st))).map (st :: ·) := by
          unfold compF neB
          simp [hc.1]
        rw [if_neg (by simp [h, hm]), vis_fold p ws most d (i + 1) _ _ (fun st' left' out' => ih (i + 1) st' left' _ _ out' (by omega)), hc2, cont_succ, List.map_map]
        congr 2
        show List.map _ (List.flatMap _ _) = List.map _ (List.flatMap _ _)
        congr 1
        funext a
        simp
    · have hc : compF p ws (d + 1) i st left x = [] := Classical.byContradiction fun hn => h (hg.2 hn)
      rw [hc]
      simp [h]
def compAll (p : Pil) (ws : List (Int × Int)) (F : Nat) : List (List Int) :=
  if p.log.length = 0 then [[]] else compF p ws (p.log.length - 1) 0 0 F (0, 65536) ++ compF p ws (p.log.length - 1) 0 1 F (0, 65536)
theorem cases_eq (p : Pil) (ws : List (Int × Int)) (hp : Ok p) (hw : weatherB p ws = true) (most F : Nat) : casesF p ws most F = (compAll p ws F).take (most + 1) := by
  unfold casesF compAll
  split
  · simp
  · rename_i h
    rw [vis_eq p ws hp hw most _ 0 1 F _ _ _ (by omega), vis_eq p ws hp hw most _ 0 0 F _ _ _ (by omega)]
    have := take_join ((compF p ws (p.log.length - 1) 0 0 F (0, 65536)).map ([] ++ ·)) ((compF p ws (p.log.length - 1) 0 1 F (0, 65536)).map ([] ++ ·)) [] (most + 1)
    simp only [List.length_nil, Nat.sub_zero] at this ⊢
    rw [this]
    simp
end Go.Proofs.YtiidkekmklbobaaDoor
set_option linter.unusedVariables false
set_option linter.unusedSimpArgs false
namespace Go.Proofs.YtiidkekmklbobaaDoor
open Go.RowKit
/-! ## Plain: what the reference's 'remaining' finds -/
/-- A beginning of a case that remains. -/
def okL (p : Pil) (ws : List (Int × Int)) (l : List Int) : Bool := (List.range l.length).all (stepB p l) && (decide ((cnt l l.length : Int) ≤ p.faults) && aliveF p ws l)
def stepsF (p : Pil) (ws : List (Int × Int)) (l : List Int) : List (List Int) := (List.range 3).filterMap fun (k : Nat) => if okL p ws (l ++ [(k : Int)]) then some (l ++ [(k : Int)]) else none
def remF (p : Pil) (ws : List (Int × Int)) : Nat → List (List Int)
  | 0 => [[]]
  | n + 1 => (remF p ws n).flatMap (stepsF p ws)
def iterS (p : Pil) (ws : List (Int × Int)) : Nat → List Int → List (List Int)
  | 0, l => [l]
  | d + 1, l => (stepsF p ws l).flatMap (iterS p ws d)
theorem flatMap_one {α : Type} (l : List α) (f : α → List α) (h : ∀ a, f a = [a]) : l.flatMap f = l := by
  induction l with
  | nil => rfl
  | cons a l ih => rw [List.flatMap_cons, h, ih]; rfl
theorem rem_iter (p : Pil) (ws : List (Int × Int)) : ∀ d n, remF p ws (n + d) = (remF p ws n).flatMap (iterS p ws d) := by
  intro d
  induction d with
  | zero => intro n; exact (flatMap_one _ _ (fun _ => rfl)).symm
  | succ d ih =>
    intro n
    rw [show n + (d + 1) = (n + 1) + d by omega, ih]
    show ((remF p ws n).flatMap (stepsF p ws)).flatMap _ = _
    rw [List.flatMap_assoc]
    rfl
theorem at0_left (l : List Int) (s : Int) (i : Nat) (h : i < l.length) : at0 (l ++ [s]) i = at0 l i := by
  simp [at0, List.getElem?_append_left h]
theorem at0_last (l : List Int) (s : Int) : at0 (l ++ [s]) l.length = s := by
  simp [at0]
theorem cnt_left (l : List Int) (s : Int) (k : Nat) (h : k ≤ l.length) : cnt (l ++ [s]) k = cnt l k := by
  simp [cnt, List.take_append_of_le_length h]
theorem step_left (p : Pil) (l : List Int) (s : Int) (i : Nat) (h : i < l.length) : stepB p (l ++ [s]) i = stepB p l i := by
  unfold stepB
  rw [at0_left l s i h, at0_left l s (i - 1) (by omega)]
theorem fwd_left (p : Pil) (ws : List (Int × Int)) (l : List Int) (s : Int) : ∀ i, i < l.length → fwd p ws (l ++ [s]) i = fwd p ws l i
  | 0, h => by simp only [fwd, at0_left l s 0 h]
  | i + 1, h => by simp only [fwd, at0_left l s (i + 1) h, fwd_left p ws l s i (by omega)]
theorem all_range_succ (n : Nat) (f : Nat → Bool) : (List.range (n + 1)).all f = ((List.range n).all f && f n) := by
  rw [List.range_succ, List.all_append]; simp
theorem all_range_congr (n : Nat) (f g : Nat → Bool) (h : ∀ i, i < n → f i = g i) : (List.range n).all f = (List.range n).all g := by
  rw [Bool.eq_iff_iff, List.all_eq_true, List.all_eq_true]
  constructor
  · intro H i hi; rw [← h i (List.mem_range.1 hi)]; exact H i hi
  · intro H i hi; rw [h i (List.mem_range.1 hi)]; exact H i hi
theorem okL_snoc (p : Pil) (ws : List (Int × Int)) (l : List Int) (s : Int) :
    okL p ws (l ++ [s]) = true ↔ okL p ws l = true ∧ stepB p (l ++ [s]) l.length = true ∧ (cnt (l ++ [s]) (l.length + 1) : Int) ≤ p.faults ∧ fwdOk p ws (l ++ [s]) l.length = true := by
  have hc : cnt (l ++ [s]) (l.length + 1) = cnt l l.length + if s = 2 then 1 else 0 := by
    rw [cnt_succ _ _ (by simp), cnt_left _ _ _ (Nat.le_refl _), at0_last]
  have e : (l ++ [s]).length = l.length + 1 := by simp
  unfold okL aliveF
  rw [e, all_range_succ, all_range_succ, all_range_congr l.length (stepB p (l ++ [s])) (stepB p l) (fun i hi => step_left p l s i hi),
    all_range_congr l.length (fwdOk p ws (l ++ [s])) (fwdOk p ws l) (fun i hi => by unfold fwdOk; rw [fwd_left p ws l s i hi])]
  simp only [Bool.and_eq_true, decide_eq_true_eq]
  constructor
  · rintro ⟨⟨h1, h2⟩, h3, h4, h5⟩
    refine ⟨⟨h1, ?_, h4⟩, h2, h3, h5⟩
    rw [hc] at h3
    split at h3 <;> omega
  · rintro ⟨⟨h1, _, h4⟩, h2, h3, h5⟩
    exact ⟨⟨h1, h2⟩, h3, h4, h5⟩
def optB {β γ : Type} (o : Option β) (g : β → List γ) : List γ :=
  match o with
  | none => []
  | some a => g a
theorem filterMap_flatMap {α β γ : Type} (xs : List α) (f : α → Option β) (g : β → List γ) : (xs.filterMap f).flatMap g = xs.flatMap fun x => optB (f x) g := by
  induction xs with
  | nil => rfl
  | cons x xs ih =>
    rw [List.filterMap_cons, List.flatMap_cons]
    cases h : f x with
    | none => simp [ih, optB]
    | some a => simp [ih, optB]
theorem flatMap_eq {α β : Type} (xs : List α) (f g : α → List β) (h : ∀ x ∈ xs, f x = g x) : xs.flatMap f = xs.flatMap g := by
  induction xs with
  | nil => rfl
  | cons x xs ih => rw [List.flatMap_cons, List.flatMap_cons, h x (by simp), ih (fun y hy => h y (by simp [hy]))]
theorem map_flatMap' {α β γ : Type} (xs : List α) (f : α → List β) (g : β → γ) : (xs.flatMap f).map g = xs.flatMap fun x => (f x).map g := by
  induction xs with
  | nil => rfl
  | cons x xs ih => rw [List.flatMap_cons, List.flatMap_cons, List.map_append, ih]
theorem meet_comm (x y : Int × Int) : meetF x y = meetF y x := by
  unfold meetF
  rw [Int.max_comm, Int.min_comm]
theorem iter_cont (p : Pil) (ws : List (Int × Int)) (F : Nat) (hF : p.faults = (F : Int)) : ∀ (d : Nat) (l : List Int), 0 < l.length → okL p ws l = true →
    iterS p ws d l = (contF p ws d (l.length - 1) (at0 l (l.length - 1)) (F - cnt l l.length) (fwd p ws l (l.length - 1))).map (l ++ ·) := by
  intro d
  induction d with
  | zero => intro l _ _; simp [iterS, contF]
  | succ d ih =>
    intro l hl hok
    have hcl : (cnt l l.length : Int) ≤ p.faults := by
      simp only [okL, Bool.and_eq_true, decide_eq_true_eq] at hok
      exact hok.2.1
    show (stepsF p ws l).flatMap (iterS p ws d) = _
    rw [cont_succ, map_flatMap']
    unfold stepsF nextsF
    rw [filterMap_flatMap, filterMap_flatMap]
    refine flatMap_eq _ _ _ fun k hk => ?_
    have hk3 : k < 3 := List.mem_range.1 hk
    obtain ⟨n, hn⟩ : ∃ n, l.length = n + 1 := ⟨l.length - 1, by omega⟩
    have hc : cnt (l ++ [(k : Int)]) (l.length + 1) = cnt l l.length + if (k : Int) = 2 then 1 else 0 := by
      rw [cnt_succ _ _ (by simp), cnt_left _ _ _ (Nat.le_refl _), at0_last]
    have hst : stepB p (l ++ [(k : Int)]) l.length = (at0 l n == (k : Int) || shiftF p n) := by
      unfold stepB
      rw [at0_last, hn, show n + 1 - 1 = n by omega, at0_left l _ n (by omega)]
      have : within (k : Int) 0 2 = true := within_t.2 ⟨by omega, by omega⟩
      simp [this]
    have hfw : fwd p ws (l ++ [(k : Int)]) l.length = meetF ((fwd p ws l n).1 + (sp ws n).1, (fwd p ws l n).2 + (sp ws n).2) (loadsF p (n + 1) (k : Int)) := by
      have e2 := at0_last l (k : Int)
      rw [hn] at e2 ⊢
      simp only [fwd]
      rw [fwd_left p ws l _ n (by omega), meet_comm, e2]
    have hsn := okL_snoc p ws l (k : Int)
    rw [show l.length - 1 = n by omega]
    by_cases hA : (at0 l n == (k : Int) || shiftF p n) = true
    · have hA2 : (((k : Int) != at0 l n) && !shiftF p n) = false := by
        rw [Bool.or_eq_true] at hA
        rcases hA with h | h
        · have : at0 l n = (k : Int) := by simpa using h
          simp [this]
        · simp [h]
      have hcomp : ∀ rest, F - cnt (l ++ [(k : Int)]) (l.length + 1) = rest → (cnt (l ++ [(k : Int)]) (l.length + 1) : Int) ≤ p.faults →
          optB (if okL p ws (l ++ [(k : Int)]) = true then some (l ++ [(k : Int)]) else none : Option (List Int)) (iterS p ws d) =
          (compF p ws d (n + 1) (k : Int) rest ((fwd p ws l n).1 + (sp ws n).1, (fwd p ws l n).2 + (sp ws n).2)).map (l ++ ·) := by
        intro rest hr hcn
        unfold compF
        rw [← hfw]
        by_cases hne : fwdOk p ws (l ++ [(k : Int)]) l.length = true
        · have hok2 : okL p ws (l ++ [(k : Int)]) = true := hsn.2 ⟨hok, hst.trans hA, hcn, hne⟩
          have hih := ih (l ++ [(k : Int)]) (by simp) hok2
          simp only [List.length_append, List.length_cons, List.length_nil, Nat.add_sub_cancel, Nat.zero_add] at hih
          rw [hr, at0_last] at hih
          rw [hn] at hih hne ⊢
          have hne2 : neB (fwd p ws (l ++ [(k : Int)]) (n + 1)) = true := hne
          simp only [hok2, hne2, if_true, List.map_map, optB]
          rw [hih]
          congr 1
          funext a
          simp
        · have hok2 : ¬ okL p ws (l ++ [(k : Int)]) = true := fun h => hne (hsn.1 h).2.2.2
          have hne2 : ¬ neB (fwd p ws (l ++ [(k : Int)]) l.length) = true := hne
          simp only [hok2, hne2, if_false]
          rfl
      by_cases hk2 : k = 2
      · have hk2' : (k : Int) = 2 := by omega
        by_cases hlf : 0 < F - cnt l l.length
        · have hnx : nextAt (shiftF p n) (at0 l n) (F - cnt l l.length) k = some ((k : Int), F - cnt l l.length - 1) := by
            unfold nextAt
            rw [hA2, if_neg (by simp), if_pos hk2, if_pos hlf]
          rw [hnx]
          rw [if_pos hk2'] at hc
          exact hcomp (F - cnt l l.length - 1) (by rw [hc]; omega) (by rw [hc]; omega)
        · have hnx : nextAt (shiftF p n) (at0 l n) (F - cnt l l.length) k = none := by
            unfold nextAt
            rw [hA2, if_neg (by simp), if_pos hk2, if_neg hlf]
          have hok2 : ¬ okL p ws (l ++ [(k : Int)]) = true := fun h => by
            have := (hsn.1 h).2.2.1
            rw [hc, if_pos hk2'] at this
            omega
          rw [hnx]
          simp only [hok2, if_false]
          rfl
      · have hk2' : ¬ (k : Int) = 2 := by omega
        have hnx : nextAt (shiftF p n) (at0 l n) (F - cnt l l.length) k = some ((k : Int), F - cnt l l.length) := by
          unfold nextAt
          rw [hA2, if_neg (by simp), if_neg hk2]
        rw [hnx]
        rw [if_neg hk2'] at hc
        exact hcomp (F - cnt l l.length) (by rw [hc]; omega) (by rw [hc]; omega)
    · have hA2 : (((k : Int) != at0 l n) && !shiftF p n) = true := by
        simp only [Bool.or_eq_true, beq_iff_eq, not_or] at hA
        have : (k : Int) ≠ at0 l n := fun e => hA.1 e.symm
        simp [this, hA.2]
      have hnx : nextAt (shiftF p n) (at0 l n) (F - cnt l l.length) k = none := by
        unfold nextAt
        rw [hA2, if_pos rfl]
      have hok2 : ¬ okL p ws (l ++ [(k : Int)]) = true := fun h => hA (hst.symm.trans (hsn.1 h).2.1)
      rw [hnx]
      simp only [hok2, if_false]
      rfl
theorem okL_nil (p : Pil) (ws : List (Int × Int)) (hp : Ok p) : okL p ws [] = true := by
  have := hp.f0
  simp [okL, cnt, aliveF, this]
theorem steps_nil (p : Pil) (ws : List (Int × Int)) (hp : Ok p) : stepsF p ws [] = [[0], [1]] := by
  have h0 : ∀ st, (loadsF p 0 st).1 ≤ (loadsF p 0 st).2 := fun st => loads_ne p hp 0 st
  have hf := hp.f0
  have e0 : okL p ws [0] = true := by
    refine (okL_snoc p ws [] 0).2 ⟨okL_nil p ws hp, by simp [stepB, at0, within], by simp [cnt]; omega, ?_⟩
    simp [fwdOk, fwd, at0, h0]
  have e1 : okL p ws [1] = true := by
    refine (okL_snoc p ws [] 1).2 ⟨okL_nil p ws hp, by simp [stepB, at0, within], by simp [cnt]; omega, ?_⟩
    simp [fwdOk, fwd, at0, h0]
  have e2 : ¬ okL p ws [2] = true := fun h => by
    have := ((okL_snoc p ws [] 2).1 h).2.1
    simp [stepB, at0, within] at this
  have e3 : List.range 3 = [0, 1, 2] := rfl
  unfold stepsF
  rw [e3]
  simp [e0, e1, e2]
/-- The program's list is the reference's. -/
theorem comp_rem (p : Pil) (ws : List (Int × Int)) (F : Nat) (hp : Ok p) (hF : p.faults = (F : Int)) : compAll p ws F = remF p ws p.log.length := by
  unfold compAll
  split
  · rename_i h; rw [h]; rfl
  · rename_i h
    obtain ⟨n, hn⟩ : ∃ n, p.log.length = n + 1 := ⟨p.log.length - 1, by omega⟩
    have := rem_iter p ws p.log.length 0
    rw [Nat.zero_add] at this
    rw [this, hn]
    show _ = [[]].flatMap _
    rw [List.flatMap_cons, List.flatMap_nil, List.append_nil]
    show _ = (stepsF p ws []).flatMap (iterS p ws n)
    have hs := steps_nil p ws hp
    have hok : ∀ l ∈ stepsF p ws [], okL p ws l = true := by
      intro l hl
      unfold stepsF at hl
      obtain ⟨k, _, hk⟩ := List.mem_filterMap.1 hl
      split at hk
      · injection hk with hk; subst hk; assumption
      · cases hk
    rw [hs] at hok ⊢
    rw [List.flatMap_cons, List.flatMap_cons, List.flatMap_nil, List.append_nil, iter_cont p ws F hF n [0] (by simp) (hok _ (by simp)), iter_cont p ws F hF n [1] (by simp) (hok _ (by simp))]
    have hm : ∀ st, meetF (0, 65536) (loadsF p 0 st) = loadsF p 0 st := fun st => by
      have := loads_bd p hp 0 st
      apply Prod.ext
      · simp only [meetF]; omega
      · simp only [meetF]; omega
    have hne : ∀ st, neB (loadsF p 0 st) = true := fun st => by simpa [neB] using loads_ne p hp 0 st
    have one : ∀ st : Int, st ≠ 2 → compF p ws n 0 st F (0, 65536) = (contF p ws n ([st].length - 1) (at0 [st] ([st].length - 1)) (F - cnt [st] [st].length) (fwd p ws [st] ([st].length - 1))).map ([st] ++ ·) := by
      intro st hst
      unfold compF
      simp only [hm, hne, if_true]
      have : cnt [st] 1 = 0 := by simp [cnt, hst]
      simp [this, at0, fwd]
    rw [show n + 1 - 1 = n by omega, one 0 (by decide), one 1 (by decide)]
theorem cases_rem (p : Pil) (ws : List (Int × Int)) (hp : Ok p) (hw : weatherB p ws = true) (most F : Nat) (hF : p.faults = (F : Int)) : casesF p ws most F = (remF p ws p.log.length).take (most + 1) := by
  rw [cases_eq p ws hp hw most F, comp_rem p ws F hp hF]
/-! ## What is in the list -/
theorem mem_steps (p : Pil) (ws : List (Int × Int)) (l m : List Int) : m ∈ stepsF p ws l ↔ ∃ k : Nat, k < 3 ∧ m = l ++ [(k : Int)] ∧ okL p ws m = true := by
  unfold stepsF
  rw [List.mem_filterMap]
  constructor
  · rintro ⟨k, hk, h⟩
    split at h
    · injection h with h; subst h; exact ⟨k, List.mem_range.1 hk, rfl, by assumption⟩
    · cases h
  · rintro ⟨k, hk, rfl, h⟩
    exact ⟨k, List.mem_range.2 hk, if_pos h⟩
theorem mem_rem (p : Pil) (ws : List (Int × Int)) (hp : Ok p) : ∀ (n : Nat) (l : List Int), l ∈ remF p ws n ↔ l.length = n ∧ okL p ws l = true
  | 0, l => by
    show l ∈ [[]] ↔ _
    rw [List.mem_singleton]
    constructor
    · rintro rfl; exact ⟨rfl, okL_nil p ws hp⟩
    · rintro ⟨h, _⟩; exact List.length_eq_zero_iff.1 h
  | n + 1, l => by
    show l ∈ (remF p ws n).flatMap _ ↔ _
    rw [List.mem_flatMap]
    constructor
    · rintro ⟨a, ha, hl⟩
      obtain ⟨k, hk, rfl, hok⟩ := (mem_steps p ws a l).1 hl
      have := ((mem_rem p ws hp n a).1 ha).1
      exact ⟨by simp [this], hok⟩
    · rintro ⟨hl, hok⟩
      rcases List.eq_nil_or_concat l with rfl | ⟨a, s, rfl⟩
      · simp at hl
      · rw [List.concat_eq_append] at *
        have hln : a.length = n := by simpa using hl
        have h := (okL_snoc p ws a s).1 hok
        refine ⟨a, (mem_rem p ws hp n a).2 ⟨hln, h.1⟩, (mem_steps p ws a _).2 ?_⟩
        have hs := h.2.1
        unfold stepB at hs
        rw [at0_last] at hs
        simp only [Bool.and_eq_true] at hs
        obtain ⟨h1, h2⟩ := within_t.1 hs.1
        exact ⟨s.toNat, by omega, by rw [Int.toNat_of_nonneg h1], hok⟩
end Go.Proofs.YtiidkekmklbobaaDoor
set_option linter.unusedVariables false
set_option linter.unusedSimpArgs false
namespace Go.Proofs.YtiidkekmklbobaaDoor
open Go.RowKit Go.Proofs.YtiidkekmklbobaaDoorW.PrintWords
attribute [local go_sem] mx_two mn_two blk_add
theorem vis_stop {p : Pil} {ws : List (Int × Int)} {most d i : Nat} {st : Int} {left : Nat} {x : Int × Int} {l : List Int} {outs : List (List Int)} (h : goesB p ws i st left x = false ∨ most < outs.length) : visF p ws most d i st left x l outs = outs := by
  have hc : (!goesB p ws i st left x || decide (most < outs.length)) = true := by
    rcases h with h | h <;> simp [h]
  cases d <;> (unfold visF; rw [if_pos hc])
theorem visit_any (p : Pil) (A : Option Addr) (c : Nat) (A1 : Option Addr) (c1 : Nat) (ws : List (Int × Int)) (F most gT base0 bs bc bm bn : Nat) (W : World) (hX : Fx p A c A1 c1 ws F most gT base0 bs bc bm bn W) :
    ∀ (d i : Nat) (x : Int × Int) (l : List Int), i + d + 1 = p.log.length → small x.1 ∧ small x.2 → l.length = i →
      VisC bs bc bm bn F W l i x (fun st left outs => visF p ws most d i st left x l outs) := by
  have hL := hX.hp.l
  intro d
  induction d with
  | zero =>
    intro i x l hi hx hl k left outs lv ov w hk hlf hS
    dsimp only
    by_cases hstop : goesB p ws i (k : Int) left x = false ∨ most < outs.length
    · refine (visit_stop p A c A1 c1 ws F most gT base0 bs bc bm bn W hX i k left x l outs lv ov w (by omega) hk hlf hx hS hstop).mono ?_
      rintro e w' ⟨he, hb⟩
      rw [vis_stop hstop]
      exact ⟨he, lv, ov, hS.below hb, Kv.of_below hb, .inl rfl, .inl rfl⟩
    · obtain ⟨h1, h2⟩ := not_or.1 hstop
      have hg : goesB p ws i (k : Int) left x = true := by simpa using h1
      refine (visit_leaf p A c A1 c1 ws F most gT base0 bs bc bm bn W hX i k left x l outs lv ov w (by omega) hk hlf hx hS hg (by omega) (by omega) (by omega)).mono ?_
      rintro e w' ⟨he, lv', ov', h⟩
      refine ⟨he, lv', ov', ?_⟩
      have : visF p ws most 0 i (k : Int) left x l outs = outs ++ [l ++ [(k : Int)]] := by
        unfold visF
        rw [if_neg (by simp [hg]; omega)]
      rw [this]
      exact h
  | succ d ih =>
    intro i x l hi hx hl k left outs lv ov w hk hlf hS
    dsimp only
    by_cases hstop : goesB p ws i (k : Int) left x = false ∨ most < outs.length
    · refine (visit_stop p A c A1 c1 ws F most gT base0 bs bc bm bn W hX i k left x l outs lv ov w (by omega) hk hlf hx hS hstop).mono ?_
      rintro e w' ⟨he, hb⟩
      rw [vis_stop hstop]
      exact ⟨he, lv, ov, hS.below hb, Kv.of_below hb, .inl rfl, .inl rfl⟩
    · obtain ⟨h1, h2⟩ := not_or.1 hstop
      have hg : goesB p ws i (k : Int) left x = true := by simpa using h1
      have hgb := goes_bd p ws hX.hp i (k : Int) left x hg
      have hwi := weather_at hX.hwe i
      have hih := ih (i + 1) (goF p ws i (k : Int) x) (l ++ [(k : Int)]) (by omega) (by unfold goF small; dsimp only; omega) (by simp; omega)
      refine (visit_node p A c A1 c1 ws F most gT base0 bs bc bm bn W hX i k left x l outs lv ov w (by omega) hk hlf hx hS hg (by omega) (by omega) (by omega) hgb (fun st left outs => visF p ws most d (i + 1) st left (goF p ws i (k : Int) x) (l ++ [(k : Int)]) outs) hih).mono ?_
      rintro e w' ⟨he, lv', ov', h⟩
      refine ⟨he, lv', ov', ?_⟩
      have : visF p ws most (d + 1) i (k : Int) left x l outs = foldK p i (k : Int) left (fun st left outs => visF p ws most d (i + 1) st left (goF p ws i (k : Int) x) (l ++ [(k : Int)]) outs) outs 3 := by
        rw [fold_nexts]
        show (if _ then _ else _) = _
        rw [if_neg (by simp [hg]; omega)]
      rw [this]
      exact h
/-! ## What is handed back -/
theorem nums_get (xs : List Int) (j : Nat) (h : j < xs.length) : (nums .i64 xs)[j]? = some (.int .i64 (xs[j])) := by
  simp [nums, h]
theorem OwnI.reads {w : World} {base : Nat} {v : Value} {xs : List Int} (h : OwnI w base v xs) : ∃ A c, v = .slice A xs.length c ∧ Kd.C kInt w A xs.length xs ∧ xs.length ≤ c := by
  rcases h.2 with ⟨h1, h2⟩ | ⟨g, c, cur, h1, hb, hh, h2, h3, h4, h5⟩
  · obtain rfl := List.length_eq_zero_iff.1 h2
    exact ⟨none, 0, h1, Kd.C_nil _ _, by simp⟩
  · subst h1
    refine ⟨_, c, rfl, ⟨rfl, by simp only [maxLen] at h3; omega, fun _ => ⟨_, rfl, fun j p hj => ?_⟩⟩, h2⟩
    obtain ⟨hlt, rfl⟩ := List.getElem?_eq_some_iff.1 hj
    refine ⟨[.int .i64 xs[j]], rfl, rfl, fun i u hu => ?_⟩
    have e2 : kInt.sz = 1 := rfl
    have g1 := World.ownsRow.cellAt h j (by simp [nums]; omega)
    rw [nums_get xs j hlt] at g1
    match i, hu with
    | 0, hu =>
      simp at hu; subst hu
      simpa [e2, add_plain] using g1
theorem OutO.reads {w : World} {base : Nat} {v : Value} {outs : List (List Int)} {a : Option Nat} (h : OutO w base v outs a) : ∃ A c, v = .slice A outs.length c ∧ Kd.C kCase w A outs.length outs ∧ outs.length ≤ c := by
  obtain ⟨vs, hv, hr⟩ := h
  have hvl : vs.length = outs.length := by have := hv.1; omega
  rcases hv.2 with ⟨h1, h2⟩ | ⟨g, c, cur, h1, hb, hh, h2, h3, h4, h5⟩
  · obtain rfl := List.length_eq_zero_iff.1 h2
    exact ⟨none, 0, h1, Kd.C_nil _ _, by simp⟩
  · subst h1
    refine ⟨_, c, rfl, ⟨rfl, by simp only [maxLen] at h3; omega, fun _ => ⟨_, rfl, fun j p hj => ?_⟩⟩, h2⟩
    obtain ⟨hlt, rfl⟩ := List.getElem?_eq_some_iff.1 hj
    obtain ⟨u, g1, g2, _⟩ := hr j _ hj
    obtain ⟨A', c', rfl, g3, g4⟩ := g2.reads
    refine ⟨[.slice A' outs[j].length c'], rfl, ⟨A', c', rfl, g4, g3⟩, fun i u hu => ?_⟩
    have e2 : kCase.sz = 1 := rfl
    have g5 := World.ownsRow.cellAt hv j (by omega)
    rw [g1] at g5
    match i, hu with
    | 0, hu =>
      simp at hu; subst hu
      simpa [e2, add_plain] using g5
end Go.Proofs.YtiidkekmklbobaaDoor
