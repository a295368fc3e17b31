/- The tied card of PillowWider: whatever the input, PillowWider returns true and its arguments read as they did; under no condition beyond the row's own (the listed tables as the program's text lays them, tied). -/
import Derived.Test.YtiidkekmklbobaaDoorM9
import Derived.Test.YtiidkekmklbobaaDoorMJ
import Derived.Test.YtiidkekmklbobaaDoorM2
import Derived.BigRegion
set_option linter.unusedVariables false
set_option linter.unusedSimpArgs false
namespace Go.Proofs.YtiidkekmklbobaaDoor
open Go.RowKit Go.Proofs.YtiidkekmklbobaaDoorW.PrintWords
/-! ## Plain: what remains, remains with wider bounds -/
def wideP (p : Pil) (noise slab faults : Int) : Pil := { p with noise := max p.noise noise, slab := max p.slab slab, faults := max p.faults faults }
def wideS (wide : Int) (x : Int × Int) : Int × Int := (max (x.1 - wide) (-65536), min (x.2 + wide) 65536)
theorem alive_open {p : Pil} {ws : List (Int × Int)} {l : List Int} (h1 : (aliveR p ws l).2 = 0) (h2 : (aliveR p ws l).1 = true) : checkB p = true ∧ weatherB p ws = true ∧ caseB p l = true ∧ aliveF p ws l = true := by
  rcases told_cases p ws l with ⟨h0, c1, c2, c3⟩ | h0
  · unfold aliveR at h2
    rw [if_pos h0] at h2
    exact ⟨c1, c2, c3, h2⟩
  · unfold aliveR at h2
    rw [if_neg h0] at h2
    cases h2
theorem alive_mk {p : Pil} {ws : List (Int × Int)} {l : List Int} (c1 : checkB p = true) (c2 : weatherB p ws = true) (c3 : caseB p l = true) (h : aliveF p ws l = true) : aliveR p ws l = (true, 0) := by
  have h0 : toldF p ws l = 0 := by unfold toldF; rw [c1, c2, c3]; rfl
  unfold aliveR
  rw [if_pos h0, h]
theorem fwd_wide (p q : Pil) (ws vs : List (Int × Int)) (l : List Int) (hl : ∀ i, (loadsF q i (at0 l i)).1 ≤ (loadsF p i (at0 l i)).1 ∧ (loadsF p i (at0 l i)).2 ≤ (loadsF q i (at0 l i)).2)
    (hs : ∀ i, (sp vs i).1 ≤ (sp ws i).1 ∧ (sp ws i).2 ≤ (sp vs i).2) : ∀ i, (fwd q vs l i).1 ≤ (fwd p ws l i).1 ∧ (fwd p ws l i).2 ≤ (fwd q vs l i).2
  | 0 => hl 0
  | i + 1 => by
    have ih := fwd_wide p q ws vs l hl hs i
    have h1 := hl (i + 1)
    have h2 := hs i
    show max _ _ ≤ max _ _ ∧ min _ _ ≤ min _ _
    omega
theorem alive_wide (p q : Pil) (ws vs : List (Int × Int)) (l : List Int) (hl : ∀ i, (loadsF q i (at0 l i)).1 ≤ (loadsF p i (at0 l i)).1 ∧ (loadsF p i (at0 l i)).2 ≤ (loadsF q i (at0 l i)).2)
    (hs : ∀ i, (sp vs i).1 ≤ (sp ws i).1 ∧ (sp ws i).2 ≤ (sp vs i).2) (h : aliveF p ws l = true) : aliveF q vs l = true := by
  unfold aliveF at h ⊢
  rw [List.all_eq_true] at h ⊢
  intro i hi
  have h1 := h i hi
  have h2 := fwd_wide p q ws vs l hl hs i
  unfold fwdOk at h1 ⊢
  rw [decide_eq_true_eq] at h1 ⊢
  omega
theorem wider (p : Pil) (ws : List (Int × Int)) (l : List Int) (noise slab faults wide : Int) (h1 : (aliveR p ws l).2 = 0) (h2 : (aliveR p ws l).1 = true) (hn : 0 ≤ noise ∧ noise ≤ 65536) (hs : 0 ≤ slab ∧ slab ≤ 65536) (hf : 0 ≤ faults ∧ faults ≤ 32) (hw : 0 ≤ wide ∧ wide ≤ 65536) :
    aliveR (wideP p noise slab faults) (ws.map (wideS wide)) l = (true, 0) := by
  obtain ⟨c1, c2, c3, c4⟩ := alive_open h1 h2
  have hok := ok_of_check c1
  refine alive_mk ?_ ?_ ?_ ?_
  · simp only [checkB, headB, Bool.and_eq_true, decide_eq_true_eq, within_t] at c1 ⊢
    obtain ⟨⟨h0, h1, h2, h3, h4, h5, h6⟩, ha⟩ := c1
    refine ⟨⟨h0, h1, ?_, ?_, h4, ?_, h6⟩, ha⟩
    · show 0 ≤ max _ _ ∧ max _ _ ≤ _; omega
    · show 0 ≤ max _ _ ∧ max _ _ ≤ _; omega
    · show 0 ≤ max _ _ ∧ max _ _ ≤ _; omega
  · simp only [weatherB, Bool.and_eq_true, List.length_map, List.all_map] at c2 ⊢
    refine ⟨c2.1, ?_⟩
    have := c2.2
    rw [List.all_eq_true] at this ⊢
    intro x hx
    have h := this x hx
    simp only [spanB, Bool.and_eq_true, decide_eq_true_eq] at h
    show (decide (max (x.1 - wide) (-65536) ≤ min (x.2 + wide) 65536) && (decide (-65536 ≤ max (x.1 - wide) (-65536)) && decide (min (x.2 + wide) 65536 ≤ 65536))) = true
    simp only [Bool.and_eq_true, decide_eq_true_eq]
    omega
  · simp only [caseB, Bool.and_eq_true, decide_eq_true_eq] at c3 ⊢
    refine ⟨c3.1, c3.2.1, ?_⟩
    have := c3.2.2
    show _ ≤ max _ _
    omega
  · refine alive_wide p _ ws _ l (fun i => ?_) (fun i => ?_) c4
    · have a := hok.n0
      have b := hok.s0
      have e : (wideP p noise slab faults).wt i = p.wt i := rfl
      have e1 : (wideP p noise slab faults).noise = max p.noise noise := rfl
      have e2 : (wideP p noise slab faults).slab = max p.slab slab := rfl
      unfold loadsF
      rw [e, e1, e2]
      split
      · dsimp only; omega
      · split
        · dsimp only; omega
        · exact ⟨Int.le_refl _, Int.le_refl _⟩
    · have hb := weather_at c2 i
      unfold sp at hb ⊢
      rw [List.getD_eq_getElem?_getD, List.getElem?_map] at *
      rw [List.getD_eq_getElem?_getD] at *
      cases h : ws[i]? with
      | none => simp
      | some x =>
        rw [h] at hb
        simp only [Option.map_some, Option.getD_some, wideS] at hb ⊢
        omega
end Go.Proofs.YtiidkekmklbobaaDoor
set_option linter.unusedVariables false
set_option linter.unusedSimpArgs false
namespace Go.Proofs.YtiidkekmklbobaaDoor
open Go.RowKit Go.Proofs.YtiidkekmklbobaaDoorW.PrintWords
attribute [local go_sem] mx_two mn_two blk_add
section
variable {ops : Array Oper} {o : Oper} {K : Act → World → Prop} {Q : Exit → Act → World → Prop} {a : Act}
theorem append_span_step {w0 W0 W : World} (base : Nat) (v : Value) (x y : Int) (xs : List (Int × Int)) (hw : Region.wanted o (yielded ops a.tmps) = true) (s z : Operand)
    (ho : o.op = .call { callee := .builtin .append, args := #[s, z], argTypes := #[25, 25] })
    (hs : a.eval s = v) (hx : a.eval z = .slice (some ⟨W.heap.size, 0, none⟩) 1 1)
    (HO : OwnS W0 base v xs) (HW : Below W0.heap.size W0 W) (HB : Below base w0 W0) (hbase : base ≤ W0.heap.size) (hl : xs.length ≤ 1000000000)
    (h : ∀ v1 w1, OwnS w1 base v1 (xs ++ [(x, y)]) → Below base w0 w1 → W.grownBy w1 v.ownBlock → (v1.ownBlock = v.ownBlock ∨ ∃ b, v1.ownBlock = some b ∧ W.heap.size ≤ b) → K (a.put o.dst v1) w1) :
    if Region.wanted o (yielded ops a.tmps) = true then Oper.wp Tryd.prog o a (W.alloc (.cells #[.int .i64 x, .int .i64 y] 42)) K Q else K (a.put o.dst undef) (W.alloc (.cells #[.int .i64 x, .int .i64 y] 42)) := by
  refine step_append_cells (w0 := w0) base hw s z 25 42 (.agg #[.int .i64 0, .int .i64 0]) 2 16 ho (by kernel_rfl) info42 rfl (by decide) (by decide) v xs.length (sc xs) [.int .i64 x, .int .i64 y] hs hx rfl (by simp [Value.oneCell']) (HO.below HW) (HB.trans (HW.mono hbase)) (Nat.le_trans hbase HW.size) (by omega) ?_
  intro v1 w1 hown hb hg hat
  refine h v1 w1 ?_ hb hg hat
  unfold OwnS
  rw [sc_snoc, List.length_append]
  exact hown
end
set_option maxRecDepth 100000 in
set_option maxHeartbeats 3200000 in
theorem wider_law (p : Pil) (A : Option Addr) (c : Nat) (A1 : Option Addr) (c1 : Nat) (ws : List (Int × Int)) (A2 : Option Addr) (c2 : Nat) (l : List Int) (noise slab faults wide : Int) (w : World) (hA : Kd.C kSpan w A p.log.length p.log) (hw : Kd.C kSpan w A1 ws.length ws) (hl : Kd.C kInt w A2 l.length l) (ht : Tab w) :
    Calls Tryd.prog 5 #[p.val A c, .slice A1 ws.length c1, .slice A2 l.length c2, .int .i64 noise, .int .i64 slab, .int .i64 faults, .int .i64 wide] w fun e w' => e = .returned (.bool true) ∧ Below w.heap.size w w' := by
  have hbox : Below w.heap.size w (w.alloc (boxP p A c 24)) := (Below.refl _ _).alloc (Nat.le_refl _) _
  have HB0 := Lib.hid hbox
  have HALL : Hid (∀ w3, Below w.heap.size w w3 → Kd.C kSpan w3 A p.log.length p.log ∧ Kd.C kSpan w3 A1 ws.length ws ∧ Kd.C kInt w3 A2 l.length l ∧ Tab w3) := fun w3 h3 =>
    ⟨Kd.C_below hA h3, Kd.C_below hw h3, Kd.C_below hl h3, ht.below h3⟩
  clear hA hw hl ht hbox
  go_enter Tryd.func5, Tryd.ntmps5
  go_upto_region 1 with (fail)
  have HX0 : Hid (Blk (w.alloc (boxP p A c 24)) w.heap.size 24 (cellsP p A c)) := Blk.new w 24 _
  generalize w.alloc (.cells #[.int .i64 p.no, .int .i64 p.cell, .int .i64 p.noise, .int .i64 p.slab, .int .i64 p.jump, .int .i64 p.faults, .slice A p.log.length c] 24) = W0 at HB0 HX0 ⊢
  obtain ⟨e0, e1, e2, e3, e4, e5, e6⟩ := HX0.out.p7
  have hz := HX0.out.lt
  go_upto_region 3 with (go_at_call 16; refine (sane_any _ (HALL.out _ HB0.out).2.2.2).mono ?_; rintro e w1 ⟨rfl, hb⟩; obtain ⟨hc, hf⟩ := bcell hb; have hs := hb.size)
  have HK1 := Lib.hid hb
  clear hb
  have HE : Hid (∀ W, Below W0.heap.size W0 W → Calls Tryd.prog 20 #[p.val A c, .slice A1 ws.length c1, .slice A2 l.length c2] W fun e w' => e = .returned (.tuple #[.bool (aliveR p ws l).1, .int .i64 (aliveR p ws l).2]) ∧ Below W.heap.size W w') := fun W hW => by
    obtain ⟨f1, f2, f3, _⟩ := HALL.out W (HB0.out.trans (hW.mono HB0.out.size))
    exact alive_any p A c A1 c1 ws A2 c2 l W f1 f2 f3
  have HWI := Lib.hid (wider p ws l noise slab faults wide)
  have HOP := Lib.hid (@alive_open p ws l)
  generalize aliveR p ws l = S at HE HWI HOP
  obtain ⟨al, E⟩ := S
  dsimp only at HE HWI HOP
  go_upto_region 4 with (go_at_call 20; refine (HE.out _ HK1.out).mono ?_; rintro e w2 ⟨rfl, hb2⟩; obtain ⟨hc2, hf2⟩ := bcell hb2; have hs2 := hb2.size)
  have HK2 : Hid (Below W0.heap.size W0 w2) := HK1.out.trans (hb2.mono HK1.out.size)
  have HX2 := Lib.hid (HX0.out.below HK2.out)
  clear e0 e1 e2 e3 e4 e5 e6 HX0 hb2 hc2 hf2 hs2 hc hf hs HE hz
  obtain ⟨e0, e1, e2, e3, e4, e5, e6⟩ := HX2.out.p7
  have hz := HX2.out.lt
  have HF0 := Lib.hid (HB0.out.trans (HK2.out.mono HB0.out.size))
  by_cases q0 : E ≠ 0
  · go_wp2
    go_ret
    exact ⟨rfl, HF0.out⟩
  obtain rfl : E = 0 := by simpa using q0
  by_cases q1 : al = false
  · subst q1
    go_wp2
    go_ret
    exact ⟨rfl, HF0.out⟩
  obtain rfl : al = true := by simpa using q1
  by_cases q2 : noise < 0
  · go_wp2
    go_ret
    exact ⟨rfl, HF0.out⟩
  have q2' : decide (noise < 0) = false := by simpa using q2
  by_cases q3 : 65536 < noise
  · go_wp2
    go_ret
    exact ⟨rfl, HF0.out⟩
  have q3' : decide (65536 < noise) = false := by simpa using q3
  by_cases q4 : slab < 0
  · go_wp2
    go_ret
    exact ⟨rfl, HF0.out⟩
  have q4' : decide (slab < 0) = false := by simpa using q4
  by_cases q5 : 65536 < slab
  · go_wp2
    go_ret
    exact ⟨rfl, HF0.out⟩
  have q5' : decide (65536 < slab) = false := by simpa using q5
  by_cases q6 : faults < 0
  · go_wp2
    go_ret
    exact ⟨rfl, HF0.out⟩
  have q6' : decide (faults < 0) = false := by simpa using q6
  by_cases q7 : 32 < faults
  · go_wp2
    go_ret
    exact ⟨rfl, HF0.out⟩
  have q7' : decide (32 < faults) = false := by simpa using q7
  by_cases q8 : wide < 0
  · go_wp2
    go_ret
    exact ⟨rfl, HF0.out⟩
  have q8' : decide (wide < 0) = false := by simpa using q8
  by_cases q9 : 65536 < wide
  · go_wp2
    go_ret
    exact ⟨rfl, HF0.out⟩
  have q9' : decide (65536 < wide) = false := by simpa using q9
  go_upto_region 10 with fail
  obtain ⟨o1, o2, o3, o4⟩ := HOP.out rfl rfl
  have HWA := Lib.hid o2
  have HLEN : Hid (ws.length ≤ 32) := Lib.hid (by have h1 := (ok_of_check o1).l; have h2 := o2; simp only [weatherB, Bool.and_eq_true, beq_iff_eq] at h2; omega)
  have HR := Lib.hid (HWI.out rfl rfl ⟨by omega, by omega⟩ ⟨by omega, by omega⟩ ⟨by omega, by omega⟩ ⟨by omega, by omega⟩)
  clear HWI HOP o1 o2 o3 o4 q0 q1 q2' q3' q4' q5' q6' q7' q8' q9'
  have HQ0 := Lib.hid (Blk.new w2 24 (cellsP (wideP p noise slab faults) A c))
  change Hid (Blk (w2.alloc (.cells #[.int .i64 p.no, .int .i64 p.cell, .int .i64 (max p.noise noise), .int .i64 (max p.slab slab), .int .i64 p.jump, .int .i64 (max p.faults faults), .slice A p.log.length c] 24)) w2.heap.size 24 (cellsP (wideP p noise slab faults) A c)) at HQ0
  have HK3 : Hid (Below w.heap.size w (w2.alloc (.cells #[.int .i64 p.no, .int .i64 p.cell, .int .i64 (max p.noise noise), .int .i64 (max p.slab slab), .int .i64 p.jump, .int .i64 (max p.faults faults), .slice A p.log.length c] 24))) := HF0.out.alloc HF0.out.size _
  generalize w2.heap.size = g2 at HQ0 ⊢
  generalize w2.alloc (.cells #[.int .i64 p.no, .int .i64 p.cell, .int .i64 (max p.noise noise), .int .i64 (max p.slab slab), .int .i64 p.jump, .int .i64 (max p.faults faults), .slice A p.log.length c] 24) = W3 at HQ0 HK3 ⊢
  clear e0 e1 e2 e3 e4 e5 e6 hz HX2 HK2 HF0
  have HWS : Hid (∀ w9, Below W3.heap.size W3 w9 → Kd.C kSpan w9 A1 ws.length ws) := fun w9 h9 => (HALL.out w9 (HK3.out.trans (h9.mono HK3.out.size))).2.1
  go_wp2
  go_loopw [19, 18] (fun vi vo wr => ∃ k : Nat, k ≤ ws.length ∧ vi = .int .i64 k ∧ Hid (OwnS wr W3.heap.size vo ((ws.take k).map (wideS wide))) ∧ Below W3.heap.size W3 wr)
    (fun vi _ _ => ws.length - (intOf vi).toNat)
  case atStart => exact ⟨0, by omega, rfl, own_nil _ _ _ _, Below.refl _ _⟩
  case round =>
    obtain ⟨k, hk, rfl, ho, hb⟩ := hrel
    have hz : W3.heap.size ≤ wr.heap.size := hb.size
    by_cases hkn : k < ws.length
    · obtain ⟨adw, rfl, q1, q2⟩ := at_span (HWS.out _ hb) k hkn
      obtain ⟨l1, -, -⟩ := at_lt q1
      change _ = some (Value.int .i64 (sp ws k).1) at q1
      change _ = some (Value.int .i64 (sp ws k).2) at q2
      have hsb := weather_at HWA.out k
      have HTK : Hid ((ws.take (k + 1)).map (wideS wide) = (ws.take k).map (wideS wide) ++ [(max ((sp ws k).1 - wide) (-65536), min ((sp ws k).2 + wide) 65536)]) := by
        refine Lib.hid ?_
        rw [List.take_succ_eq_append_getElem hkn, List.map_append]
        have e : ws[k] = sp ws k := by simp [sp, hkn]
        rw [e]; rfl
      have HTL : Hid (((ws.take k).map (wideS wide)).length = k) := Lib.hid (by simp; omega)
      generalize (ws.take k).map (wideS wide) = out at *
      generalize (sp ws k).1 = a at *
      generalize (sp ws k).2 = b at *
      have w1' : IntKind.i64.wrap (a - wide) = a - wide := IntWalk.i64_in _ (by omega)
      have w2' : IntKind.i64.wrap (b + wide) = b + wide := IntWalk.i64_in _ (by omega)
      have i1 : IntKind.i64.wrap ((k : Int) + 1) = (k : Int) + 1 := IntWalk.i64_in _ (by have := HLEN.out; omega)
      have i6 : (k : Int) < (ws.length : Int) := by omega
      have hT : ∀ w3, Below wr.heap.size wr w3 → w3.cell? (adw.add (k * 2)) = some (.int .i64 a) ∧ w3.cell? ⟨adw.block, (adw.add (k * 2)).off + 1, none⟩ = some (.int .i64 b) := fun w3 hb3 => ⟨pw_cell_below hb3 q1, pw_cell_below hb3 q2⟩
      have HT := Lib.hid hT
      clear hT q1 q2
      go_wp2
      obtain ⟨t1, t2⟩ := HT.out wr (Below.refl _ _)
      obtain ⟨Av, cv, rfl, hrd, hcl⟩ := ho.out.reads
      clear hrd
      go_region_law (refine append_span_step (w0 := W3) (W0 := wr) (W := wr.drew) W3.heap.size (.slice Av out.length cv) (max (a - wide) (-65536)) (min (b + wide) 65536) out (by rfl) (.tmp 91) (.tmp 109) (by rfl) (by rfl) (by rfl) ho.out (below_drew (Below.refl _ _)) hb hz (by rw [HTL.out]; have := HLEN.out; omega) ?_; intro v9 w9 hO9 hb9 hg9 hat9)
      all_goals
        go_wp2
        go_roundw
        case rel =>
          refine ⟨k + 1, by omega, rfl, ?_, hb9⟩
          rw [HTK.out]
          exact hO9
        case measure => simp [intOf]; omega
    · obtain rfl : k = ws.length := by omega
      rw [List.take_length] at ho
      obtain ⟨Av, cv, rfl, hrd, hcl⟩ := ho.out.reads
      have HQ := Lib.hid (HQ0.out.below hb)
      obtain ⟨e0, e1, e2, e3, e4, e5, e6⟩ := HQ.out.p7
      have hz2 := HQ.out.lt
      have HB9 := Lib.hid (HK3.out.trans (hb.mono HK3.out.size))
      have HV := Lib.hid hrd
      have HC : Hid (Calls Tryd.prog 20 #[(wideP p noise slab faults).val A c, .slice Av (ws.map (wideS wide)).length cv, .slice A2 l.length c2] wr fun e w' => e = .returned (.tuple #[.bool true, .int .i64 0]) ∧ Below wr.heap.size wr w') := Lib.hid <| by
        obtain ⟨f1, f2, f3, _⟩ := HALL.out wr HB9.out
        have f1 : Kd.C kSpan wr A (wideP p noise slab faults).log.length (wideP p noise slab faults).log := f1
        have := alive_any (wideP p noise slab faults) A c Av cv (ws.map (wideS wide)) A2 c2 l wr f1 HV.out f3
        rw [HR.out] at this
        exact this
      clear hrd HV hcl ho HR HQ0 HQ
      generalize ws.map (wideS wide) = V at HC ⊢
      generalize wideP p noise slab faults = qq at HC e0 e1 e2 e3 e4 e5 e6
      go_wp2_with (go_at_call 20; refine HC.out.mono ?_; rintro e w3 ⟨rfl, hb3⟩)
      go_ret
      exact ⟨rfl, HB9.out.trans (hb3.mono HB9.out.size)⟩
end Go.Proofs.YtiidkekmklbobaaDoor
set_option linter.unusedVariables false
set_option linter.unusedSimpArgs false
namespace Go.Proofs.YtiidkekmklbobaaDoor
open Go.ChangeShapes Go.WideShapes Go.ChangeAt Go.RowKit
set_option maxRecDepth 100000 in
theorem pillowWider_lifted (os : Os) (started : os.Started) (H : Type) (enc : TypeId × Value → H) :
    ReturnsInHanded {} Tryd.checked os 5 .any (fun w args => (Rows.pillowWiderSpec.pre enc Tryd.prog Tryd.f5 [] false w args ∧ laidMetH Tryd.prog laid3 w) ∧ sizedMet enc Tryd.prog Tryd.f5 (OpenSpec.ofChange Rows.pillowWiderSpec) false w args)
      (Rows.pillowWiderSpec.post enc Tryd.prog Tryd.f5 false true false false) := by
  refine returnsInHanded_of_change_and (C := Tryd.checked) (X := fun w _ => laidMetH Tryd.prog laid3 w) (fun _ _ _ hh h => h.of_heap hh) own_none started (by kernel_rfl) Tryd.func5
    (ChangeSpec.witness_shaped (enc := enc) (C := Tryd.checked) (os := os) (X := fun w _ => laidMetH Tryd.prog laid3 w) false (World.doorLaid Tryd.prog 400 os) #[.agg #[.int .i64 0, .int .i64 0, .int .i64 0, .int .i64 0, .int .i64 0, .int .i64 0, .slice none 0 0], .slice none 0 0, .slice none 0 0, .int .i64 0, .int .i64 0, .int .i64 0, .int .i64 0] 8 rfl (World.shaped_of_RefB (by kernel_rfl) (by kernel_rfl)) (by kernel_rfl) (by kernel_rfl) (by kernel_rfl) (door_met os _)) ?_
  intro W base args ds gs before hval0 hW _ _ hL _
  have hval : ∀ (j : Nat) t v, Tryd.f5.params[j]? = some t → args[j]? = some v → Value.okWide Tryd.prog W .any base t v := hval0
  have hW' := hW
  obtain ⟨p, q, hA0, hV, rfl, hfz, hnd⟩ := hW
  have hA : DataW.TrodAll enc Tryd.prog W 0 (fun _ => true) true Tryd.f5.params.toList args.toList ds p := hA0
  rw [Tryd.params5] at hA hval
  obtain ⟨v0, vs0, d0, ds0, p0, q0, hargs, rfl, rfl, h0, r0⟩ := trodAll_cons hA
  obtain ⟨v1, vs1, d1, ds1, p1, q1, rfl, rfl, rfl, h1, r1⟩ := trodAll_cons r0
  obtain ⟨v2, vs2, d2, ds2, p2, q2, rfl, rfl, rfl, h2, r2⟩ := trodAll_cons r1
  obtain ⟨v3, vs3, d3, ds3, p3, q3, rfl, rfl, rfl, h3, r3⟩ := trodAll_cons r2
  obtain ⟨v4, vs4, d4, ds4, p4, q4, rfl, rfl, rfl, h4, r4⟩ := trodAll_cons r3
  obtain ⟨v5, vs5, d5, ds5, p5, q5, rfl, rfl, rfl, h5, r5⟩ := trodAll_cons r4
  obtain ⟨v6, vs6, d6, ds6, p6, q6, rfl, rfl, rfl, h6, r6⟩ := trodAll_cons r5
  obtain ⟨rfl, rfl, rfl⟩ := trodAll_nil r6
  obtain rfl : args = #[v0, v1, v2, v3, v4, v5, v6] := by cases args; simp_all
  obtain ⟨rfl, rfl⟩ := trodVars_none hV
  have lt0 : ∀ x ∈ p0, x.block < W.heap.size := by obtain ⟨m, hm⟩ := h0; exact DataW.trod_lt m _ _ _ hm
  obtain ⟨x0, A0, c0, rfl, hc0, hR0, hm0, hn0, hw0⟩ := open_pil (hval 0 24 v0 rfl rfl) h0
  have lt1 : ∀ x ∈ p1, x.block < W.heap.size := by obtain ⟨m, hm⟩ := h1; exact DataW.trod_lt m _ _ _ hm
  obtain ⟨A1, c1, l1, rfl, hc1, hR1, hm1, hw1⟩ := open_spans (hval 1 25 v1 rfl rfl) h1
  have lt2 : ∀ x ∈ p2, x.block < W.heap.size := by obtain ⟨m, hm⟩ := h2; exact DataW.trod_lt m _ _ _ hm
  obtain ⟨A2, c2, l2, rfl, hc2, hR2, hm2, hw2⟩ := open_list (hval 2 26 v2 rfl rfl) h2
  obtain ⟨n3, rfl, rfl, rfl, hw3⟩ := open_int Tryd.underlying3 (hval 3 3 v3 rfl rfl) h3
  obtain ⟨n4, rfl, rfl, rfl, hw4⟩ := open_int Tryd.underlying3 (hval 4 3 v4 rfl rfl) h4
  obtain ⟨n5, rfl, rfl, rfl, hw5⟩ := open_int Tryd.underlying3 (hval 5 3 v5 rfl rfl) h5
  obtain ⟨n6, rfl, rfl, rfl, hw6⟩ := open_int Tryd.underlying3 (hval 6 3 v6 rfl rfl) h6
  have htab := tab_of_laid hL
  clear hA0 hval0
  simp only [List.append_nil] at hW'
  refine (wider_law x0 A0 c0 A1 c1 l1 A2 c2 l2 n3 n4 n5 n6 W hR0 hR1 hR2 htab).mono fun e W' ⟨he, bel⟩ => ?_
  subst he
  exact ⟨_, rfl, _, _, _, [], _, [], hW', trodAll_mk1 (shut_bool Tryd.underlying4 _), (trodAll_cons_mk (Below.trod laid_out (by kernel_rfl) (of_decide_eq_true (by kernel_rfl)) h0 bel lt0) (trodAll_cons_mk (Below.trod laid_out (by kernel_rfl) (of_decide_eq_true (by kernel_rfl)) h1 bel lt1) (trodAll_cons_mk (Below.trod laid_out (by kernel_rfl) (of_decide_eq_true (by kernel_rfl)) h2 bel lt2) (trodAll_cons_mk (shut_int Tryd.underlying3 hw3) (trodAll_cons_mk (shut_int Tryd.underlying3 hw4) (trodAll_cons_mk (shut_int Tryd.underlying3 hw5) (trodAll_cons_mk (shut_int Tryd.underlying3 hw6) trodAll_mk0))))))), rfl, bel.frame _, fun h => by cases h⟩
theorem pillowWider_holds : Rows.PillowWiderSaid :=
  OpenClaim.holds_of_wide 5 Tryd.f5 rfl rfl rfl rfl rfl rfl rfl ⟨rfl, rfl, rfl, rfl, rfl⟩ rfl rfl rfl rfl rfl (by kernel_rfl) Tryd.func5 (by kernel_rfl)
    (of_decide_eq_true (by kernel_rfl)) (by unfold Func.isWrapper; first | (rw [if_pos (by decide +kernel)]; kernel_rfl) | (rw [if_neg (by decide +kernel)]; exact ⟨rfl, rfl⟩))
    (fun os started H enc _ => pillowWider_lifted os started H enc)
theorem pillowWider_card : Rows.PillowWiderCardSaid :=
  Claim7.holds_tied_plain_at .later [] [.data, .data, .data] true (true, "a0002efd006c31436651839d86a6c7dddfc6e496a9d3301b07fd3f220070f58a") false
    pillowWider_holds (fun _ h => by cases h) (by kernel_rfl) (fun _ h => by cases h) pillowWider_row_tie rfl ⟨rfl, rfl⟩ (by kernel_rfl) rfl
    (fun f fn hf hfn => by
      obtain rfl : f = 5 := Option.some.inj ((show Tryd.prog.funcNamed "snowline/snowlinelaw03.PillowWider" = some 5 by kernel_rfl).symm.trans hf) |>.symm
      obtain rfl : fn = Tryd.f5 := (Option.some.inj (Tryd.func5.symm.trans hfn)).symm
      exact ⟨by kernel_rfl, fun j t ht => by
        rw [Tryd.params5] at ht
        have hm : t ∈ [24, 25, 26, 3, 3, 3, 3] := by simpa using Array.mem_of_getElem? ht
        have hall : ([24, 25, 26, 3, 3, 3, 3].all fun u => !Tryd.prog.wantsStandIn u) = true := by kernel_rfl
        exact (show Tryd.prog.wantsStandIn t = false by simpa using List.all_eq_true.1 hall t hm)⟩)
    (by kernel_rfl)
end Go.Proofs.YtiidkekmklbobaaDoor
