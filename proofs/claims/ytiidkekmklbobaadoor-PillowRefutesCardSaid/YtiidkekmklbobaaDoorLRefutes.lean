/- The tied card of PillowRefutes: whatever the input, PillowRefutes returns true and its arguments read as they did; under no condition beyond the row's own (the listed tables as the program's text lays them, tied). -/
import Derived.Test.YtiidkekmklbobaaDoorM9
import Derived.Test.YtiidkekmklbobaaDoorMJ
import Derived.Test.YtiidkekmklbobaaDoorM6
set_option linter.unusedVariables false
set_option linter.unusedSimpArgs false
namespace Go.Proofs.YtiidkekmklbobaaDoor
open Go.RowKit Go.Proofs.YtiidkekmklbobaaDoorW.PrintWords
attribute [local go_sem] mx_two mn_two blk_add
set_option maxRecDepth 100000 in
set_option maxHeartbeats 1600000 in
theorem refutes_law (p : Pil) (A : Option Addr) (c : Nat) (A1 : Option Addr) (c1 : Nat) (ws : List (Int × Int)) (A2 : Option Addr) (c2 : Nat) (l : List Int) (x1 x2 : Int) (w : World) (hA : Kd.C kSpan w A p.log.length p.log) (hw : Kd.C kSpan w A1 ws.length ws) (hl : Kd.C kInt w A2 l.length l) (hcl2 : l.length ≤ c2) (ht : Tab w) :
    Calls Tryd.prog 6 #[p.val A c, .slice A1 ws.length c1, .slice A2 l.length c2, spv x1 x2] w fun e w' => e = .returned (.bool true) ∧ Below w.heap.size w w' := by
  have hbox : Below w.heap.size w ((w.alloc (boxP p A c 24)).alloc (.cells #[.int .i64 x1, .int .i64 x2] 49)) := ((Below.refl _ _).alloc (Nat.le_refl _) _).alloc (by simp) _
  have HB0 := Lib.hid hbox
  have HALL : Hid (∀ w3, Below w.heap.size w w3 → Kd.C kSpan w3 A p.log.length p.log ∧ Kd.C kSpan w3 A1 ws.length ws ∧ Kd.C kInt w3 A2 l.length l ∧ Tab w3) := fun w3 h3 =>
    ⟨Kd.C_below hA h3, Kd.C_below hw h3, Kd.C_below hl h3, ht.below h3⟩
  clear hA hw hl ht hbox
  go_enter Tryd.func6, Tryd.ntmps6
  go_upto_region 1 with (fail)
  have HX0 : Hid (Blk ((w.alloc (boxP p A c 24)).alloc (.cells #[.int .i64 x1, .int .i64 x2] 49)) w.heap.size 24 (cellsP p A c)) := (Blk.new w 24 _).alloc _
  have HY0 : Hid (Blk ((w.alloc (boxP p A c 24)).alloc (.cells #[.int .i64 x1, .int .i64 x2] 49)) (w.heap.size + 1) 49 [.int .i64 x1, .int .i64 x2]) := by
    have := Blk.new (w.alloc (boxP p A c 24)) 49 [.int .i64 x1, .int .i64 x2]
    exact Lib.hid (by simpa using this)
  generalize (w.alloc (.cells #[.int .i64 p.no, .int .i64 p.cell, .int .i64 p.noise, .int .i64 p.slab, .int .i64 p.jump, .int .i64 p.faults, .slice A p.log.length c] 24)).alloc (.cells #[.int .i64 x1, .int .i64 x2] 49) = W0 at HB0 HX0 HY0 ⊢
  obtain ⟨e0, e1, e2, e3, e4, e5, e6⟩ := HX0.out.p7
  obtain ⟨y0, y1⟩ := HY0.out.p2
  have hz := HX0.out.lt
  have hz1 := HY0.out.lt
  go_upto_region 3 with (go_at_call 16; refine (sane_any _ (HALL.out _ HB0.out).2.2.2).mono ?_; rintro e w1 ⟨rfl, hb⟩; obtain ⟨hc, hf⟩ := bcell hb; have hs := hb.size)
  have HK1 := Lib.hid hb
  clear hb
  have HR : Hid (∀ W, Below W0.heap.size W0 W → Calls Tryd.prog 32 #[p.val A c, .slice A1 ws.length c1, .slice A2 l.length c2] W fun e w' => e = .returned (refuteV (refuteR p ws l)) ∧ Below W.heap.size W w') := fun W hW => by
    obtain ⟨f1, f2, f3, _⟩ := HALL.out W (HB0.out.trans (hW.mono HB0.out.size))
    exact refute_any p A c A1 c1 ws A2 c2 l W f1 f2 f3
  have HQ : Hid (∀ W, Below W0.heap.size W0 W → Calls Tryd.prog 33 #[p.val A c, .slice A1 ws.length c1, .slice A2 l.length c2] W fun e w' => e = .returned (refuteV (refuteR p ws l)) ∧ Below W.heap.size W w') := fun W hW => by
    obtain ⟨f1, f2, f3, _⟩ := HALL.out W (HB0.out.trans (hW.mono HB0.out.size))
    exact rrefute_any p A c A1 c1 ws A2 c2 l W f1 f2 f3 hcl2
  generalize refuteR p ws l = R at HR HQ
  obtain ⟨⟨a, b⟩, bo, en⟩ := R
  simp only [refuteV, spv] at HR HQ
  go_upto_region 4 with (go_at_call 32; refine (HR.out _ HK1.out).mono ?_; rintro e w2 ⟨rfl, hb2⟩; obtain ⟨hc2, hf2⟩ := bcell hb2; have hs2 := hb2.size)
  have HK2 : Hid (Below W0.heap.size W0 (w2.alloc (.cells #[.int .i64 a, .int .i64 b] 49))) := (HK1.out.trans (hb2.mono (by omega))).alloc (by omega) _
  have HX2 := Lib.hid (HX0.out.below HK2.out)
  have HY2 := Lib.hid (HY0.out.below HK2.out)
  have HZ2 := Lib.hid (Blk.new w2 49 [.int .i64 a, .int .i64 b])
  have hlt2 : Hid (W0.heap.size ≤ w2.heap.size) := Lib.hid (by omega)
  generalize w2.heap.size = g2 at HZ2 hlt2 ⊢
  change Hid (Blk (w2.alloc (.cells #[.int .i64 a, .int .i64 b] 49)) g2 49 _) at HZ2
  generalize w2.alloc (.cells #[.int .i64 a, .int .i64 b] 49) = W2 at HK2 HX2 HY2 HZ2 ⊢
  clear e0 e1 e2 e3 e4 e5 e6 y0 y1 hz hz1 HX0 HY0 hb2 hc2 hf2 hs2 hc hf hs
  obtain ⟨e0, e1, e2, e3, e4, e5, e6⟩ := HX2.out.p7
  obtain ⟨y0, y1⟩ := HY2.out.p2
  obtain ⟨z0, z1⟩ := HZ2.out.p2
  have hz := HX2.out.lt
  have hz1 := HY2.out.lt
  have hz2 := HZ2.out.lt
  go_upto_region 5 with (go_at_call 33; refine (HQ.out _ HK2.out).mono ?_; rintro e w3 ⟨rfl, hb3⟩; obtain ⟨hc3, hf3⟩ := bcell hb3; have hs3 := hb3.size)
  have HK3 : Hid (Below W0.heap.size W0 (w3.alloc (.cells #[.int .i64 a, .int .i64 b] 49))) := (HK2.out.trans (hb3.mono HK2.out.size)).alloc (Nat.le_trans HK2.out.size hs3) _
  have HK23 : Hid (Below W2.heap.size W2 (w3.alloc (.cells #[.int .i64 a, .int .i64 b] 49))) := hb3.alloc hs3 _
  have HX3 := Lib.hid (HX2.out.below HK23.out)
  have HY3 := Lib.hid (HY2.out.below HK23.out)
  have HZ3 := Lib.hid (HZ2.out.below HK23.out)
  have HU3 := Lib.hid (Blk.new w3 49 [.int .i64 a, .int .i64 b])
  generalize w3.heap.size = g3 at HU3 ⊢
  change Hid (Blk (w3.alloc (.cells #[.int .i64 a, .int .i64 b] 49)) g3 49 _) at HU3
  generalize w3.alloc (.cells #[.int .i64 a, .int .i64 b] 49) = W3 at HK3 HX3 HY3 HZ3 HU3 HK23 ⊢
  clear e0 e1 e2 e3 e4 e5 e6 y0 y1 z0 z1 hz hz1 hz2 HX2 HY2 HZ2 hb3 hc3 hf3 hs3 HR HQ
  obtain ⟨e0, e1, e2, e3, e4, e5, e6⟩ := HX3.out.p7
  obtain ⟨y0, y1⟩ := HY3.out.p2
  obtain ⟨z0, z1⟩ := HZ3.out.p2
  obtain ⟨u0, u1⟩ := HU3.out.p2
  have hz := HX3.out.lt
  have hz1 := HY3.out.lt
  have hz2 := HZ3.out.lt
  have hz3 := HU3.out.lt
  have HR : Hid (∀ W, Below W3.heap.size W3 W → Calls Tryd.prog 34 #[p.val A c, .slice A1 ws.length c1, .slice A2 l.length c2, spv x1 x2] W fun e w' => e = .returned (.int .i64 (chkrefF p ws l x1 x2)) ∧ Below W.heap.size W w') := fun W hW => by
    obtain ⟨f1, f2, f3, _⟩ := HALL.out W (HB0.out.trans ((HK3.out.trans (hW.mono HK3.out.size)).mono HB0.out.size))
    exact chkref_any p A c A1 c1 ws A2 c2 l x1 x2 W f1 f2 f3
  have HQ : Hid (∀ W, Below W3.heap.size W3 W → Calls Tryd.prog 35 #[p.val A c, .slice A1 ws.length c1, .slice A2 l.length c2, spv x1 x2] W fun e w' => e = .returned (.int .i64 (chkrefF p ws l x1 x2)) ∧ Below W.heap.size W w') := fun W hW => by
    obtain ⟨f1, f2, f3, _⟩ := HALL.out W (HB0.out.trans ((HK3.out.trans (hW.mono HK3.out.size)).mono HB0.out.size))
    exact rchkref_any p A c A1 c1 ws A2 c2 l x1 x2 W f1 f2 f3 hcl2
  generalize chkrefF p ws l x1 x2 = E at HR HQ
  have hq := eql_pair a b
  have HT : Hid (∀ w9, Below W3.heap.size W3 w9 → w9.cell? ⟨w.heap.size, 0, none⟩ = some (.int .i64 p.no) ∧ w9.cell? ⟨w.heap.size, 1, none⟩ = some (.int .i64 p.cell) ∧ w9.cell? ⟨w.heap.size, 2, none⟩ = some (.int .i64 p.noise) ∧ w9.cell? ⟨w.heap.size, 3, none⟩ = some (.int .i64 p.slab) ∧ w9.cell? ⟨w.heap.size, 4, none⟩ = some (.int .i64 p.jump) ∧ w9.cell? ⟨w.heap.size, 5, none⟩ = some (.int .i64 p.faults) ∧ w9.cell? ⟨w.heap.size, 6, none⟩ = some (.slice A p.log.length c) ∧ w9.cell? ⟨w.heap.size + 1, 0, none⟩ = some (.int .i64 x1) ∧ w9.cell? ⟨w.heap.size + 1, 1, none⟩ = some (.int .i64 x2) ∧ w9.cell? ⟨g2, 0, none⟩ = some (.int .i64 a) ∧ w9.cell? ⟨g2, 1, none⟩ = some (.int .i64 b) ∧ w9.cell? ⟨g3, 0, none⟩ = some (.int .i64 a) ∧ w9.cell? ⟨g3, 1, none⟩ = some (.int .i64 b)) := fun w9 h9 =>
    ⟨pw_cell_below h9 e0, pw_cell_below h9 e1, pw_cell_below h9 e2, pw_cell_below h9 e3, pw_cell_below h9 e4, pw_cell_below h9 e5, pw_cell_below h9 e6, pw_cell_below h9 y0, pw_cell_below h9 y1, pw_cell_below h9 z0, pw_cell_below h9 z1, pw_cell_below h9 u0, pw_cell_below h9 u1⟩
  go_region_held3 (fun w9 => w9.cell? ⟨w.heap.size, 0, none⟩ = some (.int .i64 p.no) ∧ w9.cell? ⟨w.heap.size, 1, none⟩ = some (.int .i64 p.cell) ∧ w9.cell? ⟨w.heap.size, 2, none⟩ = some (.int .i64 p.noise) ∧ w9.cell? ⟨w.heap.size, 3, none⟩ = some (.int .i64 p.slab) ∧ w9.cell? ⟨w.heap.size, 4, none⟩ = some (.int .i64 p.jump) ∧ w9.cell? ⟨w.heap.size, 5, none⟩ = some (.int .i64 p.faults) ∧ w9.cell? ⟨w.heap.size, 6, none⟩ = some (.slice A p.log.length c) ∧ w9.cell? ⟨w.heap.size + 1, 0, none⟩ = some (.int .i64 x1) ∧ w9.cell? ⟨w.heap.size + 1, 1, none⟩ = some (.int .i64 x2) ∧ w9.cell? ⟨g2, 0, none⟩ = some (.int .i64 a) ∧ w9.cell? ⟨g2, 1, none⟩ = some (.int .i64 b) ∧ w9.cell? ⟨g3, 0, none⟩ = some (.int .i64 a) ∧ w9.cell? ⟨g3, 1, none⟩ = some (.int .i64 b)) (exact HT.out _ (by repeat (first | exact Below.refl _ _ | refine below_drew ?_ | refine Below.trans ?_ (hb5.mono (by first | (simp; done) | (simp; omega) | omega)) | refine Below.trans ?_ (hb4.mono (by first | (simp; done) | (simp; omega) | omega))))) (first | (go_at_call 34; refine (HR.out _ (by repeat (first | exact Below.refl _ _ | refine below_drew ?_))).mono ?_; rintro e w4 ⟨rfl, hb4⟩; have hs4 : W3.heap.size ≤ w4.heap.size := (by have h := hb4.size; first | omega | (simp at h; omega)); obtain ⟨hc4, hf4⟩ := bcell hb4) | (go_at_call 35; refine (HQ.out _ (by repeat (first | exact Below.refl _ _ | refine below_drew ?_ | refine Below.trans ?_ (hb4.mono (by first | (simp; done) | (simp; omega) | omega))))).mono ?_; rintro e w5 ⟨rfl, hb5⟩; have hs5 : w4.heap.size ≤ w5.heap.size := (by have h := hb5.size; first | omega | (simp at h; omega))))
  all_goals go_wp2
  all_goals go_ret
  all_goals exact ⟨rfl, HB0.out.trans ((HK3.out.trans ((show Below W3.heap.size W3 _ from (by repeat (first | exact Below.refl _ _ | refine below_drew ?_ | refine Below.trans ?_ (hb5.mono (by first | (simp; done) | (simp; omega) | omega)) | refine Below.trans ?_ (hb4.mono (by first | (simp; done) | (simp; omega) | omega))))).mono HK3.out.size)).mono HB0.out.size)⟩
end Go.Proofs.YtiidkekmklbobaaDoor
set_option linter.unusedVariables false
set_option linter.unusedSimpArgs false
namespace Go.Proofs.YtiidkekmklbobaaDoor
open Go.ChangeShapes Go.WideShapes Go.ChangeAt Go.RowKit
set_option maxRecDepth 100000 in
theorem pillowRefutes_lifted (os : Os) (started : os.Started) (H : Type) (enc : TypeId × Value → H) :
    ReturnsInHanded {} Tryd.checked os 6 .any (fun w args => (Rows.pillowRefutesSpec.pre enc Tryd.prog Tryd.f6 [] false w args ∧ laidMetH Tryd.prog laid3 w) ∧ sizedMet enc Tryd.prog Tryd.f6 (OpenSpec.ofChange Rows.pillowRefutesSpec) false w args)
      (Rows.pillowRefutesSpec.post enc Tryd.prog Tryd.f6 false true false false) := by
  refine returnsInHanded_of_change_and (C := Tryd.checked) (X := fun w _ => laidMetH Tryd.prog laid3 w) (fun _ _ _ hh h => h.of_heap hh) own_none started (by kernel_rfl) Tryd.func6
    (ChangeSpec.witness_shaped (enc := enc) (C := Tryd.checked) (os := os) (X := fun w _ => laidMetH Tryd.prog laid3 w) false (World.doorLaid Tryd.prog 400 os) #[.agg #[.int .i64 0, .int .i64 0, .int .i64 0, .int .i64 0, .int .i64 0, .int .i64 0, .slice none 0 0], .slice none 0 0, .slice none 0 0, .agg #[.int .i64 0, .int .i64 0]] 8 rfl (World.shaped_of_RefB (by kernel_rfl) (by kernel_rfl)) (by kernel_rfl) (by kernel_rfl) (by kernel_rfl) (door_met os _)) ?_
  intro W base args ds gs before hval0 hW _ _ hL _
  have hval : ∀ (j : Nat) t v, Tryd.f6.params[j]? = some t → args[j]? = some v → Value.okWide Tryd.prog W .any base t v := hval0
  have hW' := hW
  obtain ⟨p, q, hA0, hV, rfl, hfz, hnd⟩ := hW
  have hA : DataW.TrodAll enc Tryd.prog W 0 (fun _ => true) true Tryd.f6.params.toList args.toList ds p := hA0
  rw [Tryd.params6] at hA hval
  obtain ⟨v0, vs0, d0, ds0, p0, q0, hargs, rfl, rfl, h0, r0⟩ := trodAll_cons hA
  obtain ⟨v1, vs1, d1, ds1, p1, q1, rfl, rfl, rfl, h1, r1⟩ := trodAll_cons r0
  obtain ⟨v2, vs2, d2, ds2, p2, q2, rfl, rfl, rfl, h2, r2⟩ := trodAll_cons r1
  obtain ⟨v3, vs3, d3, ds3, p3, q3, rfl, rfl, rfl, h3, r3⟩ := trodAll_cons r2
  obtain ⟨rfl, rfl, rfl⟩ := trodAll_nil r3
  obtain rfl : args = #[v0, v1, v2, v3] := by cases args; simp_all
  obtain ⟨rfl, rfl⟩ := trodVars_none hV
  have lt0 : ∀ x ∈ p0, x.block < W.heap.size := by obtain ⟨m, hm⟩ := h0; exact DataW.trod_lt m _ _ _ hm
  obtain ⟨x0, A0, c0, rfl, hc0, hR0, hm0, hn0, hw0⟩ := open_pil (hval 0 24 v0 rfl rfl) h0
  have lt1 : ∀ x ∈ p1, x.block < W.heap.size := by obtain ⟨m, hm⟩ := h1; exact DataW.trod_lt m _ _ _ hm
  obtain ⟨A1, c1, l1, rfl, hc1, hR1, hm1, hw1⟩ := open_spans (hval 1 25 v1 rfl rfl) h1
  have lt2 : ∀ x ∈ p2, x.block < W.heap.size := by obtain ⟨m, hm⟩ := h2; exact DataW.trod_lt m _ _ _ hm
  obtain ⟨A2, c2, l2, rfl, hc2, hR2, hm2, hw2⟩ := open_list (hval 2 26 v2 rfl rfl) h2
  have lt3 : ∀ x ∈ p3, x.block < W.heap.size := by obtain ⟨m, hm⟩ := h3; exact DataW.trod_lt m _ _ _ hm
  obtain ⟨a3, b3, rfl, hwa3, hwb3⟩ := open_pair (hval 3 49 v3 rfl rfl) h3
  have htab := tab_of_laid hL
  clear hA0 hval0
  simp only [List.append_nil] at hW'
  refine (refutes_law x0 A0 c0 A1 c1 l1 A2 c2 l2 a3 b3 W hR0 hR1 hR2 hc2 htab).mono fun e W' ⟨he, bel⟩ => ?_
  subst he
  exact ⟨_, rfl, _, _, _, [], _, [], hW', trodAll_mk1 (shut_bool Tryd.underlying4 _), (trodAll_cons_mk (Below.trod laid_out (by kernel_rfl) (of_decide_eq_true (by kernel_rfl)) h0 bel lt0) (trodAll_cons_mk (Below.trod laid_out (by kernel_rfl) (of_decide_eq_true (by kernel_rfl)) h1 bel lt1) (trodAll_cons_mk (Below.trod laid_out (by kernel_rfl) (of_decide_eq_true (by kernel_rfl)) h2 bel lt2) (trodAll_cons_mk (Below.trod laid_out (by kernel_rfl) (of_decide_eq_true (by kernel_rfl)) h3 bel lt3) trodAll_mk0)))), rfl, bel.frame _, fun h => by cases h⟩
theorem pillowRefutes_holds : Rows.PillowRefutesSaid :=
  OpenClaim.holds_of_wide 6 Tryd.f6 rfl rfl rfl rfl rfl rfl rfl ⟨rfl, rfl, rfl, rfl, rfl⟩ rfl rfl rfl rfl rfl (by kernel_rfl) Tryd.func6 (by kernel_rfl)
    (of_decide_eq_true (by kernel_rfl)) (by unfold Func.isWrapper; first | (rw [if_pos (by decide +kernel)]; kernel_rfl) | (rw [if_neg (by decide +kernel)]; exact ⟨rfl, rfl⟩))
    (fun os started H enc _ => pillowRefutes_lifted os started H enc)
theorem pillowRefutes_card : Rows.PillowRefutesCardSaid :=
  Claim7.holds_tied_plain_at .later [] [.data, .data, .data] true (true, "a0002efd006c31436651839d86a6c7dddfc6e496a9d3301b07fd3f220070f58a") false
    pillowRefutes_holds (fun _ h => by cases h) (by kernel_rfl) (fun _ h => by cases h) pillowRefutes_row_tie rfl ⟨rfl, rfl⟩ (by kernel_rfl) rfl
    (fun f fn hf hfn => by
      obtain rfl : f = 6 := Option.some.inj ((show Tryd.prog.funcNamed "snowline/snowlinelaw03.PillowRefutes" = some 6 by kernel_rfl).symm.trans hf) |>.symm
      obtain rfl : fn = Tryd.f6 := (Option.some.inj (Tryd.func6.symm.trans hfn)).symm
      exact ⟨by kernel_rfl, fun j t ht => by
        rw [Tryd.params6] at ht
        have hm : t ∈ [24, 25, 26, 49] := by simpa using Array.mem_of_getElem? ht
        have hall : ([24, 25, 26, 49].all fun u => !Tryd.prog.wantsStandIn u) = true := by kernel_rfl
        exact (show Tryd.prog.wantsStandIn t = false by simpa using List.all_eq_true.1 hall t hm)⟩)
    (by kernel_rfl)
end Go.Proofs.YtiidkekmklbobaaDoor
