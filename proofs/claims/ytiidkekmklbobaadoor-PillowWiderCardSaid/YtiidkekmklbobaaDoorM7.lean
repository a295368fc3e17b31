/- Contracts: Cases, Entry, Possible, Hull, Sure. -/
import Derived.Test.YtiidkekmklbobaaDoorM5
import Derived.Laws.EntriesVeiled
import Derived.Test.YtiidkekmklbobaaDoorM6
set_option linter.unusedVariables false
set_option linter.unusedSimpArgs false
namespace Go.Proofs.YtiidkekmklbobaaDoor
open Go.RowKit Go.Proofs.YtiidkekmklbobaaDoorW.PrintWords
attribute [local go_sem] mx_two mn_two blk_add
theorem ownI_nil (w : World) (base : Nat) : OwnI w base (.slice none 0 0) [] := ⟨rfl, .inl ⟨rfl, rfl⟩⟩
theorem outO_nil (w : World) (base : Nat) (a : Option Nat) : OutO w base (.slice none 0 0) [] a := ⟨[], ⟨rfl, .inl ⟨rfl, rfl⟩⟩, fun j xs hj => by simp at hj⟩
set_option maxRecDepth 100000 in
set_option maxHeartbeats 3200000 in
theorem cases_some (p : Pil) (A : Option Addr) (c : Nat) (A1 : Option Addr) (c1 : Nat) (ws : List (Int × Int)) (most : Nat) (w : World) (hp : Ok p) (hwe : weatherB p ws = true) (F : Nat) (hF : p.faults = (F : Int)) (hmo : most ≤ 1000000) (h0 : 0 < p.log.length) (hA : Kd.C kSpan w A p.log.length p.log) (hw : Kd.C kSpan w A1 ws.length ws) :
    Calls Tryd.prog 59 #[storyv p A c A1 ws.length c1, .int .i64 most] w
      fun e w' => ∃ A' c', e = .returned (.slice A' (casesF p ws most F).length c') ∧ Kd.C kCase w' A' (casesF p ws most F).length (casesF p ws most F) ∧ (casesF p ws most F).length ≤ c' ∧ Below w.heap.size w w' := by
  have hL := hp.l
  have hbox : Below w.heap.size w (((w.alloc (boxS p A c A1 ws.length c1)).alloc (.cells #[.int .i64 most] 3)).alloc (.cells #[.int .i64 p.log.length] 3)) := (((Below.refl _ _).alloc (Nat.le_refl _) _).alloc (by simp) _).alloc (by simp; omega) _
  have HBOX := Lib.hid hbox
  have HA := Lib.hid (Kd.C_below hA hbox)
  have HW := Lib.hid (Kd.C_below hw hbox)
  have HP := Lib.hid hp
  have HWE := Lib.hid hwe
  have HF := Lib.hid hF
  have HC := Lib.hid (chances_any p A c A1 c1 ws _ hp hwe F hF HA.out HW.out)
  have hn0 : ((p.log.length : Int) == 0) = false := by rw [beq_eq_false_iff_ne]; omega
  have hn1 : (p.log.length == 0) = false := by rw [beq_eq_false_iff_ne]; omega
  have HSZ : Hid ((((w.alloc (boxS p A c A1 ws.length c1)).alloc (.cells #[.int .i64 most] 3)).alloc (.cells #[.int .i64 p.log.length] 3)).heap.size = w.heap.size + 3) := by show _ = _; simp
  have HCE : Hid (∀ W, Below (((w.alloc (boxS p A c A1 ws.length c1)).alloc (.cells #[.int .i64 most] 3)).alloc (.cells #[.int .i64 p.log.length] 3)).heap.size (((w.alloc (boxS p A c A1 ws.length c1)).alloc (.cells #[.int .i64 most] 3)).alloc (.cells #[.int .i64 p.log.length] 3)) W → (∀ j, j < 8 → W.cell? ⟨w.heap.size, j, none⟩ = #[.int .i64 p.no, .int .i64 p.cell, .int .i64 p.noise, .int .i64 p.slab, .int .i64 p.jump, .int .i64 p.faults, .slice A p.log.length c, .slice A1 ws.length c1][j]?) ∧ W.cell? ⟨w.heap.size + 1, 0, none⟩ = some (.int .i64 most) ∧ W.cell? ⟨w.heap.size + 1 + 1, 0, none⟩ = some (.int .i64 p.log.length)) := fun W hb => by
    refine ⟨fun j hj => ?_, ?_, ?_⟩
    · have h := (((Blk.new w 87 (cellsS p A c A1 ws.length c1)).alloc (.cells #[.int .i64 most] 3)).alloc (.cells #[.int .i64 p.log.length] 3)).below hb
      exact (h.cell j).trans (by simp)
    · have h := ((Blk.new (w.alloc (boxS p A c A1 ws.length c1)) 3 [.int .i64 most]).alloc (.cells #[.int .i64 p.log.length] 3)).below hb
      rw [show (w.alloc (boxS p A c A1 ws.length c1)).heap.size = w.heap.size + 1 by simp] at h
      exact h.cell 0
    · have h := (Blk.new ((w.alloc (boxS p A c A1 ws.length c1)).alloc (.cells #[.int .i64 most] 3)) 3 [.int .i64 p.log.length]).below hb
      rw [show ((w.alloc (boxS p A c A1 ws.length c1)).alloc (.cells #[.int .i64 most] 3)).heap.size = w.heap.size + 1 + 1 by simp] at h
      exact h.cell 0
  clear hA hw hp hwe hF hbox
  go_enter Tryd.func59, Tryd.ntmps59
  go_upto_region 5 with (first | (go_at_call 87; refine HC.out.mono ?_; rintro e w1 ⟨gT, rfl, hb1, hT⟩; obtain ⟨hc1, hf1⟩ := bcell hb1))
  have hbW : Below (((w.alloc (boxS p A c A1 ws.length c1)).alloc (.cells #[.int .i64 most] 3)).alloc (.cells #[.int .i64 p.log.length] 3)).heap.size (((w.alloc (boxS p A c A1 ws.length c1)).alloc (.cells #[.int .i64 most] 3)).alloc (.cells #[.int .i64 p.log.length] 3)) (w1.alloc (.cells #[.slice (some ⟨gT, 0, none⟩) p.log.length p.log.length] 119)) := hb1.alloc hb1.size _
  have hal : Below w1.heap.size w1 (w1.alloc (.cells #[.slice (some ⟨gT, 0, none⟩) p.log.length p.log.length] 119)) := (Below.refl _ _).alloc (Nat.le_refl _) _
  have hTC : (w1.alloc (.cells #[.slice (some ⟨gT, 0, none⟩) p.log.length p.log.length] 119)).cell? ⟨w1.heap.size, 0, none⟩ = some (.slice (some ⟨gT, 0, none⟩) p.log.length p.log.length) := by simp
  have hX : Fx p A c A1 c1 ws F most gT (((w.alloc (boxS p A c A1 ws.length c1)).alloc (.cells #[.int .i64 most] 3)).alloc (.cells #[.int .i64 p.log.length] 3)).heap.size w.heap.size w1.heap.size (w.heap.size + 1) (w.heap.size + 1 + 1) (w1.alloc (.cells #[.slice (some ⟨gT, 0, none⟩) p.log.length p.log.length] 119)) :=
    ⟨HP.out, HWE.out, HF.out, h0, hmo, (HCE.out _ hbW).1, hTC, (HCE.out _ hbW).2.1, (HCE.out _ hbW).2.2, (hT.below hal).lim hal.size, Kd.C_below HA.out hbW, Kd.C_below HW.out hbW⟩
  have HX := Lib.hid hX
  have HBW := Lib.hid hbW
  clear hX hbW hal hTC hT hb1 hc1 hf1 HC
  generalize w1.alloc (.cells #[.slice (some ⟨gT, 0, none⟩) p.log.length p.log.length] 119) = W at HX HBW ⊢
  generalize w1.heap.size = gC at HX ⊢
  have HWW : Hid (Below w.heap.size w W) := HBOX.out.trans (HBW.out.mono (by rw [HSZ.out]; omega))
  have HV0 := Lib.hid (visit_any p A c A1 c1 ws F most gT (((w.alloc (boxS p A c A1 ws.length c1)).alloc (.cells #[.int .i64 most] 3)).alloc (.cells #[.int .i64 p.log.length] 3)).heap.size w.heap.size gC (w.heap.size + 1) (w.heap.size + 1 + 1) W HX.out (p.log.length - 1) 0 (0, 65536) [] (by omega) (by unfold small; omega) rfl)
  have HS0 : Hid (VS w.heap.size gC (w.heap.size + 1) (w.heap.size + 1 + 1) W ((((W.alloc (.cells #[.slice none 0 0] 29)).alloc (.cells #[.slice none 0 0] 26)).alloc (.cells #[.func (.func 88) #[] #[.pointer (some ⟨w.heap.size, 0, none⟩), .pointer (some ⟨gC, 0, none⟩), .pointer (some ⟨W.heap.size, 0, none⟩), .pointer (some ⟨w.heap.size + 1, 0, none⟩), .pointer (some ⟨W.heap.size + 1, 0, none⟩), .pointer (some ⟨w.heap.size + 1 + 1, 0, none⟩), .pointer (some ⟨W.heap.size + 1 + 1, 0, none⟩)]] 121)).alloc (.cells #[.int .i64 0, .int .i64 65536] 42)) (.slice none 0 0) (.slice none 0 0) [] []) := by
    refine ⟨((((Below.refl _ _).alloc (Nat.le_refl _) _).alloc (by simp) _).alloc (by simp; omega) _).alloc (by simp; omega) _, by simp, ?_, ?_, ?_, ownI_nil _ _, outO_nil _ _ _⟩
    · have h := ((Blk.new ((W.alloc (.cells #[.slice none 0 0] 29)).alloc (.cells #[.slice none 0 0] 26)) 121 [.func (.func 88) #[] #[.pointer (some ⟨w.heap.size, 0, none⟩), .pointer (some ⟨gC, 0, none⟩), .pointer (some ⟨W.heap.size, 0, none⟩), .pointer (some ⟨w.heap.size + 1, 0, none⟩), .pointer (some ⟨W.heap.size + 1, 0, none⟩), .pointer (some ⟨w.heap.size + 1 + 1, 0, none⟩), .pointer (some ⟨W.heap.size + 1 + 1, 0, none⟩)]]).alloc (.cells #[.int .i64 0, .int .i64 65536] 42))
      rw [show ((W.alloc (.cells #[.slice none 0 0] 29)).alloc (.cells #[.slice none 0 0] 26)).heap.size = W.heap.size + 2 by simp] at h
      exact h.cell 0
    · exact ((((Blk.new W 29 [.slice none 0 0]).alloc _).alloc _).alloc _)
    · have h := ((Blk.new (W.alloc (.cells #[.slice none 0 0] 29)) 26 [.slice none 0 0]).alloc (.cells #[.func (.func 88) #[] #[.pointer (some ⟨w.heap.size, 0, none⟩), .pointer (some ⟨gC, 0, none⟩), .pointer (some ⟨W.heap.size, 0, none⟩), .pointer (some ⟨w.heap.size + 1, 0, none⟩), .pointer (some ⟨W.heap.size + 1, 0, none⟩), .pointer (some ⟨w.heap.size + 1 + 1, 0, none⟩), .pointer (some ⟨W.heap.size + 1 + 1, 0, none⟩)]] 121)).alloc (.cells #[.int .i64 0, .int .i64 65536] 42)
      rw [show (W.alloc (.cells #[.slice none 0 0] 29)).heap.size = W.heap.size + 1 by simp] at h
      exact h
  have HEV : Hid (Blk ((((W.alloc (.cells #[.slice none 0 0] 29)).alloc (.cells #[.slice none 0 0] 26)).alloc (.cells #[.func (.func 88) #[] #[.pointer (some ⟨w.heap.size, 0, none⟩), .pointer (some ⟨gC, 0, none⟩), .pointer (some ⟨W.heap.size, 0, none⟩), .pointer (some ⟨w.heap.size + 1, 0, none⟩), .pointer (some ⟨W.heap.size + 1, 0, none⟩), .pointer (some ⟨w.heap.size + 1 + 1, 0, none⟩), .pointer (some ⟨W.heap.size + 1 + 1, 0, none⟩)]] 121)).alloc (.cells #[.int .i64 0, .int .i64 65536] 42)) (W.heap.size + 1 + 1 + 1) 42 [.int .i64 0, .int .i64 65536]) := by
    have h := Blk.new (((W.alloc (.cells #[.slice none 0 0] 29)).alloc (.cells #[.slice none 0 0] 26)).alloc (.cells #[.func (.func 88) #[] #[.pointer (some ⟨w.heap.size, 0, none⟩), .pointer (some ⟨gC, 0, none⟩), .pointer (some ⟨W.heap.size, 0, none⟩), .pointer (some ⟨w.heap.size + 1, 0, none⟩), .pointer (some ⟨W.heap.size + 1, 0, none⟩), .pointer (some ⟨w.heap.size + 1 + 1, 0, none⟩), .pointer (some ⟨W.heap.size + 1 + 1, 0, none⟩)]] 121)) 42 [.int .i64 0, .int .i64 65536]
    rw [show (((W.alloc (.cells #[.slice none 0 0] 29)).alloc (.cells #[.slice none 0 0] 26)).alloc (.cells #[.func (.func 88) #[] #[.pointer (some ⟨w.heap.size, 0, none⟩), .pointer (some ⟨gC, 0, none⟩), .pointer (some ⟨W.heap.size, 0, none⟩), .pointer (some ⟨w.heap.size + 1, 0, none⟩), .pointer (some ⟨W.heap.size + 1, 0, none⟩), .pointer (some ⟨w.heap.size + 1 + 1, 0, none⟩), .pointer (some ⟨W.heap.size + 1 + 1, 0, none⟩)]] 121)).heap.size = W.heap.size + 1 + 1 + 1 by simp] at h
    exact h
  go_upto_region 10 with fail
  generalize ((((W.alloc (.cells #[.slice none 0 0] 29)).alloc (.cells #[.slice none 0 0] 26)).alloc (.cells #[.func (.func 88) #[] #[.pointer (some ⟨w.heap.size, 0, none⟩), .pointer (some ⟨gC, 0, none⟩), .pointer (some ⟨W.heap.size, 0, none⟩), .pointer (some ⟨w.heap.size + 1, 0, none⟩), .pointer (some ⟨W.heap.size + 1, 0, none⟩), .pointer (some ⟨w.heap.size + 1 + 1, 0, none⟩), .pointer (some ⟨W.heap.size + 1 + 1, 0, none⟩)]] 121)).alloc (.cells #[.int .i64 0, .int .i64 65536] 42)) = W0 at HS0 HEV ⊢
  have HCALL : Hid (∀ (k : Nat) (outs : List (List Int)) (lv ov : Value) (w' : World), k < 3 → VS w.heap.size gC (w.heap.size + 1) (w.heap.size + 1 + 1) W w' lv ov [] outs → Calls Tryd.prog 88 #[.int .i64 0, .int .i64 (k : Int), .int .i64 p.faults, spv 0 65536, .pointer (some ⟨w.heap.size, 0, none⟩), .pointer (some ⟨gC, 0, none⟩), .pointer (some ⟨W.heap.size, 0, none⟩), .pointer (some ⟨w.heap.size + 1, 0, none⟩), .pointer (some ⟨W.heap.size + 1, 0, none⟩), .pointer (some ⟨w.heap.size + 1 + 1, 0, none⟩), .pointer (some ⟨W.heap.size + 1 + 1, 0, none⟩)] w'
      fun e w'' => e = .returned (.tuple #[]) ∧ ∃ lv' ov', VS w.heap.size gC (w.heap.size + 1) (w.heap.size + 1 + 1) W w'' lv' ov' [] (visF p ws most (p.log.length - 1) 0 k F (0, 65536) [] outs) ∧ Kv (W.heap.size + 1) W.heap.size lv ov w' w'' ∧ Later w' lv lv' ∧ Later w' ov ov') := fun k outs lv ov w' hk hv => by
    have h := HV0.out k F outs lv ov w' hk (by omega) hv
    rw [← HF.out] at h
    exact h
  have v0 : W0.cell? ⟨W.heap.size + 1 + 1, 0, none⟩ = some (.func (.func 88) #[] #[.pointer (some ⟨w.heap.size, 0, none⟩), .pointer (some ⟨gC, 0, none⟩), .pointer (some ⟨W.heap.size, 0, none⟩), .pointer (some ⟨w.heap.size + 1, 0, none⟩), .pointer (some ⟨W.heap.size + 1, 0, none⟩), .pointer (some ⟨w.heap.size + 1 + 1, 0, none⟩), .pointer (some ⟨W.heap.size + 1 + 1, 0, none⟩)]) := HS0.out.v
  have f0 : W0.cell? ⟨w.heap.size, 5, none⟩ = some (.int .i64 p.faults) := (pw_cell_below HS0.out.b (HX.out.s 5 (by omega)))
  have x0 : W0.cell? ⟨W.heap.size + 1 + 1 + 1, 0, none⟩ = some (.int .i64 0) := HEV.out.cell 0
  have x1 : W0.cell? ⟨W.heap.size + 1 + 1 + 1, 1, none⟩ = some (.int .i64 65536) := HEV.out.cell 1
  have HC1 := Lib.hid (HCALL.out 0 [] _ _ W0 (by omega) HS0.out)
  go_upto_region 11 with (go_at_call 88; refine HC1.out.mono ?_; rintro e w1 ⟨rfl, lv1, ov1, hS1, hK1, -, -⟩)
  have HS1 := Lib.hid hS1
  have HE1 : Hid (Blk w1 (W.heap.size + 1 + 1 + 1) 42 [.int .i64 0, .int .i64 65536]) := (hK1.block _ HEV.out.lt (by omega) (by omega) (by simp [Value.ownBlock]) (by simp [Value.ownBlock])).trans HEV.out
  clear hS1 hK1 v0 f0 x0 x1
  have v0 : w1.cell? ⟨W.heap.size + 1 + 1, 0, none⟩ = some (.func (.func 88) #[] #[.pointer (some ⟨w.heap.size, 0, none⟩), .pointer (some ⟨gC, 0, none⟩), .pointer (some ⟨W.heap.size, 0, none⟩), .pointer (some ⟨w.heap.size + 1, 0, none⟩), .pointer (some ⟨W.heap.size + 1, 0, none⟩), .pointer (some ⟨w.heap.size + 1 + 1, 0, none⟩), .pointer (some ⟨W.heap.size + 1 + 1, 0, none⟩)]) := HS1.out.v
  have f0 : w1.cell? ⟨w.heap.size, 5, none⟩ = some (.int .i64 p.faults) := (pw_cell_below HS1.out.b (HX.out.s 5 (by omega)))
  have x0 : w1.cell? ⟨W.heap.size + 1 + 1 + 1, 0, none⟩ = some (.int .i64 0) := HE1.out.cell 0
  have x1 : w1.cell? ⟨W.heap.size + 1 + 1 + 1, 1, none⟩ = some (.int .i64 65536) := HE1.out.cell 1
  have HC2 := Lib.hid (HCALL.out 1 _ _ _ w1 (by omega) HS1.out)
  go_upto_region 12 with (go_at_call 88; refine HC2.out.mono ?_; rintro e w2 ⟨rfl, lv2, ov2, hS2, hK2, -, -⟩)
  have hcf : visF p ws most (p.log.length - 1) 0 ((1 : Nat) : Int) F (0, 65536) [] (visF p ws most (p.log.length - 1) 0 ((0 : Nat) : Int) F (0, 65536) [] []) = casesF p ws most F := by
    unfold casesF
    rw [if_neg (by omega)]
    rfl
  rw [hcf] at hS2
  have HS2 := Lib.hid hS2
  clear hS2 hK2 hcf
  obtain ⟨A', c', rfl, hR, hcl⟩ := HS2.out.o.reads
  have p2 := HS2.out.bo.cell 0
  have HR := Lib.hid hR
  clear hR
  go_wp2
  go_ret
  exact ⟨A', c', rfl, HR.out, hcl, HWW.out.trans (HS2.out.b.mono HWW.out.size)⟩
end Go.Proofs.YtiidkekmklbobaaDoor
set_option linter.unusedVariables false
set_option linter.unusedSimpArgs false
namespace Go.Proofs.YtiidkekmklbobaaDoor
open Go.RowKit Go.Proofs.YtiidkekmklbobaaDoorW.PrintWords
attribute [local go_sem] mx_two mn_two blk_add
theorem row_nil (w : World) (A : Option Addr) : Kd.C kInt w A 0 [] := ⟨rfl, by omega, fun h => absurd h (by omega)⟩
set_option maxRecDepth 100000 in
set_option maxHeartbeats 1600000 in
theorem cases_none (p : Pil) (A : Option Addr) (c : Nat) (A1 : Option Addr) (c1 : Nat) (ws : List (Int × Int)) (most F : Nat) (w : World) (h0 : p.log.length = 0) :
    Calls Tryd.prog 59 #[storyv p A c A1 ws.length c1, .int .i64 most] w
      fun e w' => ∃ A' c', e = .returned (.slice A' (casesF p ws most F).length c') ∧ Kd.C kCase w' A' (casesF p ws most F).length (casesF p ws most F) ∧ (casesF p ws most F).length ≤ c' ∧ Below w.heap.size w w' := by
  have hcf : casesF p ws most F = [[]] := by unfold casesF; rw [if_pos h0]
  rw [hcf]
  have hn0 : ((p.log.length : Int) == 0) = true := by simp [h0]
  have hn1 : (p.log.length == 0) = true := by simp [h0]
  have H0 := Lib.hid h0
  clear h0 hcf
  go_enter Tryd.func59, Tryd.ntmps59
  go_wp2
  go_ret
  refine ⟨_, 1, rfl, ?_, Nat.le_refl _, (((((Below.refl _ _).alloc (Nat.le_refl _) _).alloc (by simp) _).alloc (by simp; omega) _).alloc (by simp; omega) _).alloc (by simp; omega) _⟩
  have h := one_case ((((w.alloc (boxS p A c A1 ws.length c1)).alloc (.cells #[.int .i64 most] 3)).alloc (.cells #[.int .i64 p.log.length] 3)).alloc (.cells #[] 3)) (some ⟨w.heap.size + 1 + 1 + 1, 0, none⟩) 0 [] (row_nil _ _) (by simp)
  rw [show ((((w.alloc (boxS p A c A1 ws.length c1)).alloc (.cells #[.int .i64 most] 3)).alloc (.cells #[.int .i64 p.log.length] 3)).alloc (.cells #[] 3)).heap.size = w.heap.size + 1 + 1 + 1 + 1 by simp] at h
  exact h
theorem cases_any (p : Pil) (A : Option Addr) (c : Nat) (A1 : Option Addr) (c1 : Nat) (ws : List (Int × Int)) (most : Nat) (w : World) (hp : Ok p) (hwe : weatherB p ws = true) (hmo : most ≤ 1000000) (hA : Kd.C kSpan w A p.log.length p.log) (hw : Kd.C kSpan w A1 ws.length ws) :
    Calls Tryd.prog 59 #[storyv p A c A1 ws.length c1, .int .i64 most] w
      fun e w' => ∃ A' c', e = .returned (.slice A' ((remF p ws p.log.length).take (most + 1)).length c') ∧ Kd.C kCase w' A' ((remF p ws p.log.length).take (most + 1)).length ((remF p ws p.log.length).take (most + 1)) ∧ ((remF p ws p.log.length).take (most + 1)).length ≤ c' ∧ Below w.heap.size w w' := by
  have hF : p.faults = ((p.faults.toNat : Nat) : Int) := by have := hp.f0; omega
  rw [← cases_rem p ws hp hwe most p.faults.toNat hF]
  by_cases h0 : p.log.length = 0
  · exact cases_none p A c A1 c1 ws most _ w h0
  · exact cases_some p A c A1 c1 ws most w hp hwe _ hF hmo (by omega) hA hw
/-! ## Cases -/
theorem tell_cases (p : Pil) (ws : List (Int × Int)) : tellF p ws = 0 ∧ checkB p = true ∧ weatherB p ws = true ∨ tellF p ws ≠ 0 := by
  unfold tellF
  cases checkB p <;> cases weatherB p ws <;> simp
def remR (p : Pil) (ws : List (Int × Int)) : List (List Int) := remF p ws p.log.length
def casesR (p : Pil) (ws : List (Int × Int)) : List (List Int) × Int :=
  if tellF p ws = 0 then (if (remR p ws).length ≤ 64 then (remR p ws, 0) else ([], 2)) else ([], tellF p ws)
set_option maxRecDepth 100000 in
set_option maxHeartbeats 1600000 in
theorem casesC_any (p : Pil) (A : Option Addr) (c : Nat) (A1 : Option Addr) (c1 : Nat) (ws : List (Int × Int)) (w : World) (hA : Kd.C kSpan w A p.log.length p.log) (hw : Kd.C kSpan w A1 ws.length ws) :
    Calls Tryd.prog 18 #[p.val A c, .slice A1 ws.length c1] w
      fun e w' => ∃ A' c', e = .returned (.tuple #[.slice A' (casesR p ws).1.length c', .int .i64 (casesR p ws).2]) ∧ Kd.C kCase w' A' (casesR p ws).1.length (casesR p ws).1 ∧ (casesR p ws).1.length ≤ c' ∧ Below w.heap.size w w' := by
  have hbox : Below w.heap.size w (w.alloc (boxP p A c 24)) := (Below.refl _ _).alloc (Nat.le_refl _) _
  have HA := Lib.hid (Kd.C_below hA hbox)
  have HW := Lib.hid (Kd.C_below hw hbox)
  have HT := Lib.hid (tell_any p A c A1 c1 ws _ HA.out HW.out hw.2.1)
  clear hA hw
  rcases tell_cases p ws with ⟨h0, h1, h2⟩ | h0
  · have hok := Lib.hid (ok_of_check h1)
    have H2 := Lib.hid h2
    have HR := Lib.hid (show casesR p ws = if (remR p ws).length ≤ 64 then (remR p ws, 0) else ([], 2) by unfold casesR; rw [if_pos h0])
    have HCA : Hid (∀ w2, Below (w.alloc (boxP p A c 24)).heap.size (w.alloc (boxP p A c 24)) w2 → Calls Tryd.prog 59 #[storyv p A c A1 ws.length c1, .int .i64 64] w2 fun e w' => ∃ A' c', e = .returned (.slice A' ((remR p ws).take 65).length c') ∧ Kd.C kCase w' A' ((remR p ws).take 65).length ((remR p ws).take 65) ∧ ((remR p ws).take 65).length ≤ c' ∧ Below w2.heap.size w2 w') := fun w2 hb2 =>
      cases_any p A c A1 c1 ws 64 w2 hok.out H2.out (by omega) (Kd.C_below HA.out hb2) (Kd.C_below HW.out hb2)
    rw [h0] at HT
    clear h0 h1 h2
    by_cases hl : (remR p ws).length ≤ 64
    · have ht : (remR p ws).take 65 = remR p ws := List.take_of_length_le (by omega)
      rw [ht] at HCA
      rw [if_pos hl] at HR
      rw [HR.out]
      have hl1 : ((remR p ws).length : Int) ≤ 64 := by omega
      clear ht
      generalize remR p ws = L at *
      go_enter Tryd.func18, Tryd.ntmps18
      go_wp2_with (first | (go_at_call 58; refine HT.out.mono ?_; rintro e w1 ⟨rfl, hb⟩; obtain ⟨hc, hf⟩ := bcell hb) | (go_at_call 59; refine (HCA.out _ hb).mono ?_; rintro e w2 ⟨A', c', rfl, hr, hcl, hb2⟩; have HRR := Lib.hid hr; clear hr))
      go_ret2
      exact ⟨A', c', rfl, HRR.out, hcl, (hbox.trans (hb.mono (by simp))).trans (hb2.mono (by have := hb.size; simp at this; omega))⟩
    · have ht : ((remR p ws).take 65).length = 65 := by rw [List.length_take]; omega
      rw [ht] at HCA
      rw [if_neg hl] at HR
      rw [HR.out]
      clear ht hl
      generalize (remR p ws).take 65 = L at *
      go_enter Tryd.func18, Tryd.ntmps18
      go_wp2_with (first | (go_at_call 58; refine HT.out.mono ?_; rintro e w1 ⟨rfl, hb⟩; obtain ⟨hc, hf⟩ := bcell hb) | (go_at_call 59; refine (HCA.out _ hb).mono ?_; rintro e w2 ⟨A', c', rfl, hr, hcl, hb2⟩; clear hr))
      go_ret2
      first | exact ⟨none, 0, rfl, Kd.C_nil _ _, Nat.le_refl _, (hbox.trans (hb.mono (by simp))).trans (hb2.mono (by have := hb.size; simp at this; omega))⟩ | exact ⟨none, ⟨0, rfl⟩, Kd.C_nil _ _, (hbox.trans (hb.mono (by simp))).trans (hb2.mono (by have := hb.size; simp at this; omega))⟩
  · have HR := Lib.hid (show casesR p ws = ([], tellF p ws) by unfold casesR; rw [if_neg h0])
    rw [HR.out]
    have hne : (tellF p ws != 0) = true := by simpa using h0
    clear h0
    generalize tellF p ws = E at *
    go_enter Tryd.func18, Tryd.ntmps18
    go_wp2_with (first | (go_at_call 58; refine HT.out.mono ?_; rintro e w1 ⟨rfl, hb⟩; obtain ⟨hc, hf⟩ := bcell hb))
    go_ret2
    first | exact ⟨none, 0, rfl, Kd.C_nil _ _, Nat.le_refl _, hbox.trans (hb.mono (by simp))⟩ | exact ⟨none, ⟨0, rfl⟩, Kd.C_nil _ _, hbox.trans (hb.mono (by simp))⟩
/-- Cases, asked about an entry. -/
def entryR (p : Pil) (ws : List (Int × Int)) (en : Int) : List (List Int) × Int :=
  if tellF p ws = 0 then (if within en 0 ((p.log.length : Int) - 1) then casesR p ws else ([], 1)) else ([], tellF p ws)
set_option maxRecDepth 100000 in
set_option maxHeartbeats 1600000 in
theorem entryOf_any (p : Pil) (A : Option Addr) (c : Nat) (A1 : Option Addr) (c1 : Nat) (ws : List (Int × Int)) (en : Int) (w : World) (hA : Kd.C kSpan w A p.log.length p.log) (hw : Kd.C kSpan w A1 ws.length ws) :
    Calls Tryd.prog 65 #[p.val A c, .slice A1 ws.length c1, .int .i64 en] w
      fun e w' => ∃ A' c', e = .returned (.tuple #[.slice A' (entryR p ws en).1.length c', .int .i64 (entryR p ws en).2]) ∧ Kd.C kCase w' A' (entryR p ws en).1.length (entryR p ws en).1 ∧ (entryR p ws en).1.length ≤ c' ∧ Below w.heap.size w w' := by
  have hbox : Below w.heap.size w (w.alloc (boxP p A c 24)) := (Below.refl _ _).alloc (Nat.le_refl _) _
  have HA := Lib.hid (Kd.C_below hA hbox)
  have HW := Lib.hid (Kd.C_below hw hbox)
  have HT := Lib.hid (tell_any p A c A1 c1 ws _ HA.out HW.out hw.2.1)
  have HL := Lib.hid hA.2.1
  clear hA hw
  rcases tell_cases p ws with ⟨h0, h1, h2⟩ | h0
  · have hL := (ok_of_check h1).l
    have HR := Lib.hid (show entryR p ws en = if within en 0 ((p.log.length : Int) - 1) then casesR p ws else ([], 1) by unfold entryR; rw [if_pos h0])
    have HCA : Hid (∀ w2, Below (w.alloc (boxP p A c 24)).heap.size (w.alloc (boxP p A c 24)) w2 → Calls Tryd.prog 18 #[p.val A c, .slice A1 ws.length c1] w2 fun e w' => ∃ A' c', e = .returned (.tuple #[.slice A' (casesR p ws).1.length c', .int .i64 (casesR p ws).2]) ∧ Kd.C kCase w' A' (casesR p ws).1.length (casesR p ws).1 ∧ (casesR p ws).1.length ≤ c' ∧ Below w2.heap.size w2 w') := fun w2 hb2 =>
      casesC_any p A c A1 c1 ws w2 (Kd.C_below HA.out hb2) (Kd.C_below HW.out hb2)
    rw [h0] at HT
    clear h0 h1 h2
    by_cases g1 : en < 0
    · rw [within_f (.inl g1)] at HR
      rw [HR.out]
      go_enter Tryd.func65, Tryd.ntmps65
      go_wp2_with (first | (go_at_call 58; refine HT.out.mono ?_; rintro e w1 ⟨rfl, hb⟩; obtain ⟨hc, hf⟩ := bcell hb))
      go_ret2
      first | exact ⟨none, 0, rfl, Kd.C_nil _ _, Nat.le_refl _, hbox.trans (hb.mono (by simp))⟩ | exact ⟨none, ⟨0, rfl⟩, Kd.C_nil _ _, hbox.trans (hb.mono (by simp))⟩
    · have g1' : decide (en < 0) = false := by simpa using g1
      by_cases g2 : (p.log.length : Int) ≤ en
      · rw [within_f (.inr (by omega))] at HR
        rw [HR.out]
        go_enter Tryd.func65, Tryd.ntmps65
        go_wp2_with (first | (go_at_call 58; refine HT.out.mono ?_; rintro e w1 ⟨rfl, hb⟩; obtain ⟨hc, hf⟩ := bcell hb))
        go_ret2
        first | exact ⟨none, 0, rfl, Kd.C_nil _ _, Nat.le_refl _, hbox.trans (hb.mono (by simp))⟩ | exact ⟨none, ⟨0, rfl⟩, Kd.C_nil _ _, hbox.trans (hb.mono (by simp))⟩
      · have g2' : decide ((p.log.length : Int) ≤ en) = false := by simpa using g2
        rw [within_t.2 ⟨by omega, by omega⟩] at HR
        rw [HR.out]
        generalize casesR p ws = L at *
        obtain ⟨L1, L2⟩ := L
        dsimp only at *
        go_enter Tryd.func65, Tryd.ntmps65
        go_wp2_with (first | (go_at_call 58; refine HT.out.mono ?_; rintro e w1 ⟨rfl, hb⟩; obtain ⟨hc, hf⟩ := bcell hb) | (go_at_call 18; refine (HCA.out _ hb).mono ?_; rintro e w2 ⟨A', c', rfl, hr, hcl, hb2⟩; have HRR := Lib.hid hr; clear hr))
        go_ret2
        exact ⟨A', c', rfl, HRR.out, hcl, (hbox.trans (hb.mono (by simp))).trans (hb2.mono (by have := hb.size; simp at this; omega))⟩
  · have HR := Lib.hid (show entryR p ws en = ([], tellF p ws) by unfold entryR; rw [if_neg h0])
    rw [HR.out]
    have hne : (tellF p ws != 0) = true := by simpa using h0
    clear h0
    generalize tellF p ws = E at *
    go_enter Tryd.func65, Tryd.ntmps65
    go_wp2_with (first | (go_at_call 58; refine HT.out.mono ?_; rintro e w1 ⟨rfl, hb⟩; obtain ⟨hc, hf⟩ := bcell hb))
    go_ret2
    first | exact ⟨none, 0, rfl, Kd.C_nil _ _, Nat.le_refl _, hbox.trans (hb.mono (by simp))⟩ | exact ⟨none, ⟨0, rfl⟩, Kd.C_nil _ _, hbox.trans (hb.mono (by simp))⟩
end Go.Proofs.YtiidkekmklbobaaDoor
set_option linter.unusedVariables false
set_option linter.unusedSimpArgs false
namespace Go.Proofs.YtiidkekmklbobaaDoor
open Go.RowKit Go.Proofs.YtiidkekmklbobaaDoorW.PrintWords
attribute [local go_sem] mx_two mn_two blk_add
/-! ## Plain: ends of a case that remains -/
theorem fwd_of_alive {p : Pil} {ws : List (Int × Int)} {l : List Int} (h : aliveF p ws l = true) (i : Nat) (hi : i < l.length) : fwdOk p ws l i = true := by
  unfold aliveF at h
  rw [List.all_eq_true] at h
  exact h i (by simpa using hi)
theorem bwd_in (p : Pil) (ws : List (Int × Int)) (l : List Int) (hw : weatherB p ws = true) (ha : aliveF p ws l = true) : ∀ d i, i + 1 + d = l.length →
    (fwd p ws l i).1 ≤ (bwd p ws l i).1 ∧ (bwd p ws l i).1 ≤ (bwd p ws l i).2 ∧ (bwd p ws l i).2 ≤ (fwd p ws l i).2 := by
  intro d
  induction d with
  | zero =>
    intro i hi
    rw [bwd_last p ws l i (by omega)]
    have := fwd_of_alive ha i (by omega)
    simp only [fwdOk, decide_eq_true_eq] at this
    omega
  | succ d ih =>
    intro i hi
    have h1 := fwd_of_alive ha i (by omega)
    have h2 := ih (i + 1) (by omega)
    have h3 := weather_at hw i
    simp only [fwdOk, decide_eq_true_eq] at h1
    have h4 : fwd p ws l (i + 1) = meetF (loadsF p (i + 1) (at0 l (i + 1))) ((fwd p ws l i).1 + (sp ws i).1, (fwd p ws l i).2 + (sp ws i).2) := rfl
    rw [h4] at h2
    rw [bwd_step p ws l i (by omega)]
    simp only [meetF] at h2 ⊢
    omega
theorem ends_len {p : Pil} {ws : List (Int × Int)} {l : List Int} (h : aliveF p ws l = true) : (endsF p ws l).length = l.length := by
  unfold endsF; rw [if_pos h]; simp
theorem ends_at {p : Pil} {ws : List (Int × Int)} {l : List Int} (h : aliveF p ws l = true) (i : Nat) (hi : i < l.length) : (endsF p ws l).getD i (0, 0) = bwd p ws l i := by
  unfold endsF; rw [if_pos h]; simp [hi]
theorem okL_case {p : Pil} {ws : List (Int × Int)} {l : List Int} (hl : l.length = p.log.length) (h : okL p ws l = true) : caseB p l = true ∧ aliveF p ws l = true := by
  simp only [okL, Bool.and_eq_true] at h
  refine ⟨?_, h.2.2⟩
  simp only [caseB, Bool.and_eq_true, beq_iff_eq]
  exact ⟨hl, h.1, h.2.1⟩
theorem rem_case {p : Pil} {ws : List (Int × Int)} (hp : Ok p) {l : List Int} (h : l ∈ remR p ws) : l.length = p.log.length ∧ caseB p l = true ∧ aliveF p ws l = true := by
  obtain ⟨h1, h2⟩ := (mem_rem p ws hp _ l).1 h
  exact ⟨h1, okL_case h1 h2⟩
/-- What 'entryOf' hands back: cases that remain. -/
theorem entry_ok {p : Pil} {ws : List (Int × Int)} {en : Int} (h : (entryR p ws en).2 = 0) : checkB p = true ∧ weatherB p ws = true ∧ 0 ≤ en ∧ en < p.log.length ∧ (entryR p ws en).1 = remR p ws ∧ (remR p ws).length ≤ 64 := by
  unfold entryR at h ⊢
  rcases tell_cases p ws with ⟨h0, h1, h2⟩ | h0
  · rw [if_pos h0] at h ⊢
    cases hw : within en 0 ((p.log.length : Int) - 1) with
    | false => rw [hw] at h; simp at h
    | true =>
      rw [hw] at h
      obtain ⟨g1, g2⟩ := within_t.1 hw
      simp only [if_true] at h ⊢
      unfold casesR at h ⊢
      rw [if_pos h0] at h ⊢
      by_cases hl : (remR p ws).length ≤ 64
      · rw [if_pos hl]; exact ⟨h1, h2, g1, by omega, rfl, hl⟩
      · rw [if_neg hl] at h; simp at h
  · rw [if_neg h0] at h; exact absurd h h0
theorem entry_bad {p : Pil} {ws : List (Int × Int)} {en : Int} (h : (entryR p ws en).2 ≠ 0) : (entryR p ws en).1 = [] := by
  unfold entryR at h ⊢
  by_cases h0 : tellF p ws = 0
  · rw [if_pos h0] at h ⊢
    split at h
    · rename_i hw
      rw [if_pos hw]
      unfold casesR at h ⊢
      rw [if_pos h0] at h ⊢
      split at h
      · exact absurd rfl h
      · rename_i hl; rw [if_neg hl]
    · rename_i hw
      rw [if_neg hw]
  · rw [if_neg h0]
def possL (p : Pil) (ws : List (Int × Int)) (en : Int) (L : List (List Int)) : List (Int × Int) := L.map fun l => (endsF p ws l).getD en.toNat (0, 0)
def possR (p : Pil) (ws : List (Int × Int)) (en : Int) : List (Int × Int) × Int :=
  if (entryR p ws en).2 = 0 then (uniF (possL p ws en (entryR p ws en).1), 0) else ([], (entryR p ws en).2)
theorem poss_sp (p : Pil) (ws : List (Int × Int)) (hp : Ok p) (hw : weatherB p ws = true) (e : Nat) (he : e < p.log.length) (l : List Int) (h : l ∈ remR p ws) :
    small ((endsF p ws l).getD e (0, 0)).1 ∧ small ((endsF p ws l).getD e (0, 0)).2 ∧ ((endsF p ws l).getD e (0, 0)).1 ≤ ((endsF p ws l).getD e (0, 0)).2 ∧ 0 ≤ ((endsF p ws l).getD e (0, 0)).1 ∧ ((endsF p ws l).getD e (0, 0)).2 ≤ 65536 := by
  obtain ⟨h1, h2, h3⟩ := rem_case hp h
  rw [ends_at h3 e (by omega)]
  have h4 := bwd_in p ws l hw h3 (l.length - 1 - e) e (by omega)
  have h5 := fwd_bd p ws l hp e (fwd_of_alive h3 e (by omega))
  unfold small
  omega
theorem getD_mem {α : Type} (l : List α) (i : Nat) (d : α) (h : i < l.length) : l.getD i d ∈ l := by
  rw [List.getD_eq_getElem?_getD, List.getElem?_eq_getElem h]; exact List.getElem_mem h
theorem poss_succ (p : Pil) (ws : List (Int × Int)) (en : Int) (L : List (List Int)) (k : Nat) (h : k < L.length) : possL p ws en (L.take (k + 1)) = possL p ws en (L.take k) ++ [(endsF p ws (L.getD k [])).getD en.toNat (0, 0)] := by
  unfold possL
  rw [List.take_add_one, List.map_append]
  congr 1
  simp [List.getD_eq_getElem?_getD, List.getElem?_eq_getElem h]
set_option maxRecDepth 100000 in
set_option maxHeartbeats 3200000 in
theorem possible_any (p : Pil) (A : Option Addr) (c : Nat) (A1 : Option Addr) (c1 : Nat) (ws : List (Int × Int)) (en : Int) (w : World) (hA : Kd.C kSpan w A p.log.length p.log) (hw : Kd.C kSpan w A1 ws.length ws) :
    Calls Tryd.prog 26 #[p.val A c, .slice A1 ws.length c1, .int .i64 en] w
      fun e w' => ∃ A' c', e = .returned (.tuple #[.slice A' (possR p ws en).1.length c', .int .i64 (possR p ws en).2]) ∧ Kd.C kSpan w' A' (possR p ws en).1.length (possR p ws en).1 ∧ (possR p ws en).1.length ≤ c' ∧ Below w.heap.size w w' := by
  have hbox : Below w.heap.size w (w.alloc (boxP p A c 24)) := (Below.refl _ _).alloc (Nat.le_refl _) _
  have HA := Lib.hid (Kd.C_below hA hbox)
  have HW := Lib.hid (Kd.C_below hw hbox)
  have HE := Lib.hid (entryOf_any p A c A1 c1 ws en _ HA.out HW.out)
  have HS0 : Hid (Blk (w.alloc (boxP p A c 24)) w.heap.size 24 [.int .i64 p.no, .int .i64 p.cell, .int .i64 p.noise, .int .i64 p.slab, .int .i64 p.jump, .int .i64 p.faults, .slice A p.log.length c]) := Blk.new w 24 _
  clear hA hw
  by_cases h0 : (entryR p ws en).2 = 0
  · obtain ⟨hck, hwe, g1, g2, hL, h64⟩ := entry_ok h0
    have hok := Lib.hid (ok_of_check hck)
    have HWE := Lib.hid hwe
    have HR := Lib.hid (show possR p ws en = (uniF (possL p ws en (remR p ws)), 0) by unfold possR; rw [if_pos h0, hL])
    rw [hL, h0] at HE
    clear h0 hL hck hwe
    obtain ⟨ei, rfl⟩ := Int.eq_ofNat_of_zero_le g1
    have hei : ei < p.log.length := by omega
    have HMEM : Hid (∀ k, k < (remR p ws).length → (remR p ws).getD k [] ∈ remR p ws) := fun k hk => getD_mem _ _ _ hk
    have HSP := Lib.hid (fun l h => poss_sp p ws hok.out HWE.out ei hei l h)
    have HCS := Lib.hid (fun l h => rem_case (p := p) (ws := ws) hok.out (l := l) h)
    have HUN : Hid (∀ (v : Value) (base : Nat) (w2 : World), OwnS w2 base v (possL p ws ei (remR p ws)) → base ≤ w2.heap.size → Calls Tryd.prog 66 #[v] w2 fun e w' => ∃ v', e = .returned v' ∧ OwnS w' w2.heap.size v' (uniF (possL p ws ei (remR p ws))) ∧ Below base w2 w') := fun v base w2 hv hb => by
      refine united_eq _ v base w2 (fun x hx => ?_) (by unfold possL; simp; omega) hv hb
      unfold possL at hx
      obtain ⟨l, hl, rfl⟩ := List.mem_map.1 hx
      have := HSP.out l hl
      exact ⟨this.1, this.2.1, this.2.2.1⟩
    rw [HR.out]
    generalize hLL : remR p ws = L at *
    clear hLL
    go_enter Tryd.func26, Tryd.ntmps26
    go_wp2_with (first | (go_at_call 65; refine HE.out.mono ?_; rintro e w1 ⟨A', c', rfl, hr, hcl, hb⟩; have HRR := Lib.hid hr; have HBB := Lib.hid hb; clear hr hb))
    have hbx := Lib.hid (HS0.out.below HBB.out)
    have hw1 : w.heap.size < w1.heap.size := hbx.out.lt
    go_loopw [10, 27] (fun lv vk wr => ∃ k : Nat, k ≤ L.length ∧ vk = .int .i64 k ∧ Below w1.heap.size w1 wr ∧ Hid (OwnS wr w1.heap.size lv (possL p ws ei (L.take k))))
      (fun _ vk _ => L.length - (intOf vk).toNat)
    case atStart => exact ⟨0, by omega, rfl, Below.refl _ _, own_nil _ _ _ _⟩
    case round =>
      obtain ⟨k, hk, rfl, hb, hO⟩ := hrel
      have hz := hb.size
      by_cases hlt : k < L.length
      · have j1 : (k : Int) < (L.length : Int) := by omega
        have hbr := hbx.out.below hb
        have b0 := hbr.cell 0
        have b1 := hbr.cell 1
        have b2 := hbr.cell 2
        have b3 := hbr.cell 3
        have b4 := hbr.cell 4
        have b5 := hbr.cell 5
        have b6 := hbr.cell 6
        simp at b0 b1 b2 b3 b4 b5 b6
        clear hbr
        obtain ⟨ad, A0, c0, rfl, q1, hq2, hq3⟩ := at_case (Kd.C_below HRR.out hb) k hlt
        have hmem := HMEM.out k hlt
        obtain ⟨m1, m2, m3⟩ := HCS.out _ hmem
        have HPS := Lib.hid (poss_succ p ws (ei : Int) L k hlt)
        have hsp := HSP.out _ hmem
        have hq4 := Lib.hid hq3
        have hW3 : Below (w.alloc (boxP p A c 24)).heap.size (w.alloc (boxP p A c 24)) wr := HBB.out.trans (hb.mono HBB.out.size)
        have hel := ends_len m3
        have HEN : Hid (∀ w3, Below wr.heap.size wr w3 → Calls Tryd.prog 63 #[storyv p A c A1 ws.length c1, .slice A0 (L.getD k []).length c0] w3 fun e w' => ∃ A'' c'', e = .returned (.tuple #[.slice A'' (L.getD k []).length c'', .bool true]) ∧ Kd.C kSpan w' A'' (L.getD k []).length (endsF p ws (L.getD k [])) ∧ Below w3.heap.size w3 w') := fun w3 hb3 => by
          have hb4 : Below (w.alloc (boxP p A c 24)).heap.size (w.alloc (boxP p A c 24)) w3 := hW3.trans (hb3.mono hW3.size)
          refine (ends_any p A c A1 c1 ws A0 c0 (L.getD k []) w3 hok.out HWE.out m2 (Kd.C_below HA.out hb4) (Kd.C_below HW.out hb4) (Kd.C_below hq4.out hb3)).mono ?_
          rintro e w' ⟨A2, c2, he, hC, _, hB⟩
          rw [m3, hel] at he
          rw [hel] at hC
          exact ⟨A2, c2, he, hC, hB⟩
        have hei2 : ei < (L.getD k []).length := by omega
        have j2 : (ei : Int) < ((L.getD k []).length : Int) := by omega
        have hol : (possL p ws (ei : Int) (L.take k)).length ≤ 64 := by unfold possL; simp; omega
        rw [Int.toNat_natCast] at HPS
        clear hmem m1 m2 m3 hel hq3 hsp
        generalize L.getD k [] = lk at *
        generalize hxe : (endsF p ws lk).getD ei (0, 0) = xe at *
        have HXE := Lib.hid hxe
        clear hxe
        obtain ⟨X1, X2⟩ := xe
        obtain ⟨Av, cv, rfl⟩ := own_slice hO.out
        go_wp2_with (first | (go_at_call 63; refine (HEN.out _ (Below.refl _ _)).mono ?_; rintro e w3 ⟨A3, c3, rfl, hC3, hb3⟩; obtain ⟨ad3, rfl, y1, y2⟩ := at_span hC3 ei hei2; rw [HXE.out] at y1 y2; have hO3 := Lib.hid (hO.out.below hb3); have hz3 := hb3.size) | (at_builtin; refine append_span (w0 := w1) (W0 := w3) (W := w3) w1.heap.size _ X1 X2 (possL p ws (ei : Int) (L.take k)) rfl (.tmp 41) (.tmp 46) rfl rfl rfl hO3.out (Below.refl _ _) (hb.trans (hb3.mono hz)) (by omega) (by omega) ?_; intro v1 w4 hO4 hb4 hg4 hat4))
        go_roundw
        case rel =>
          refine ⟨k + 1, by omega, by go_num, hb4, ?_⟩
          rw [HPS.out]; exact hO4
        case measure => simp [intOf]; omega
      · obtain rfl : k = L.length := by omega
        have HOF : Hid (OwnS wr w1.heap.size u10 (possL p ws (ei : Int) L)) := by
          have h := hO.out
          rw [List.take_of_length_le (Nat.le_refl _)] at h
          exact h
        go_wp2_with (go_at_call 66; refine (HUN.out _ w1.heap.size wr HOF.out hz).mono ?_; rintro e w3 ⟨v3, rfl, hO3, hb3⟩; obtain ⟨A3, c3, rfl, hC3, hcl3⟩ := hO3.reads; have HC3 := Lib.hid hC3; clear hC3)
        go_ret2
        exact ⟨A3, c3, rfl, HC3.out, hcl3, hbox.trans ((HBB.out.trans ((hb.trans hb3).mono HBB.out.size)).mono (by simp))⟩
  · have HR := Lib.hid (show possR p ws en = ([], (entryR p ws en).2) by unfold possR; rw [if_neg h0])
    rw [HR.out]
    have hne : ((entryR p ws en).2 != 0) = true := by simpa using h0
    rw [entry_bad h0] at HE
    clear h0
    generalize (entryR p ws en).2 = E at *
    go_enter Tryd.func26, Tryd.ntmps26
    go_wp2_with (first | (go_at_call 65; refine HE.out.mono ?_; rintro e w1 ⟨A', c', rfl, hr, hcl, hb⟩; clear hr))
    go_ret2
    first | exact ⟨none, 0, rfl, Kd.C_nil _ _, Nat.le_refl _, hbox.trans (hb.mono (by simp))⟩ | exact ⟨none, ⟨0, rfl⟩, Kd.C_nil _ _, hbox.trans (hb.mono (by simp))⟩
end Go.Proofs.YtiidkekmklbobaaDoor
set_option linter.unusedVariables false
set_option linter.unusedSimpArgs false
namespace Go.Proofs.YtiidkekmklbobaaDoor
open Go.RowKit Go.Proofs.YtiidkekmklbobaaDoorW.PrintWords
attribute [local go_sem] mx_two mn_two blk_add
def hullOf (l : List (Int × Int)) : (Int × Int) × Int := if l.length = 0 then ((0, 0), 33) else (((l.getD 0 (0, 0)).1, (l.getD (l.length - 1) (0, 0)).2), 0)
def hullR (p : Pil) (ws : List (Int × Int)) (en : Int) : (Int × Int) × Int := if (possR p ws en).2 = 0 then hullOf (possR p ws en).1 else ((0, 0), (possR p ws en).2)
def hullV (x : (Int × Int) × Int) : Value := .tuple #[spv x.1.1 x.1.2, .int .i64 x.2]
theorem poss_len {p : Pil} {ws : List (Int × Int)} {en : Int} : (possR p ws en).1.length ≤ 1000000 := by
  unfold possR
  by_cases h0 : (entryR p ws en).2 = 0
  · obtain ⟨hck, hwe, g1, g2, hL, h64⟩ := entry_ok h0
    rw [if_pos h0]
    have hok := ok_of_check hck
    obtain ⟨e, rfl⟩ := Int.eq_ofNat_of_zero_le g1
    have hW : WaterS (possL p ws (e : Int) (entryR p ws (e : Int)).1) := fun x hx => by
      unfold possL at hx
      obtain ⟨l, hl, rfl⟩ := List.mem_map.1 hx
      rw [hL] at hl
      have := poss_sp p ws hok hwe e (by omega) l hl
      rw [Int.toNat_natCast]
      exact ⟨this.2.2.2.1, this.2.2.1, this.2.2.2.2⟩
    obtain ⟨h1, h2⟩ := uni_water hW
    have := NFS.len _ 0 65536 h2 (fun x hx => ⟨(h1 x hx).1, (h1 x hx).2.2⟩) (by omega)
    dsimp only
    omega
  · rw [if_neg h0]; simp
set_option maxRecDepth 100000 in
set_option maxHeartbeats 3200000 in
theorem hull_any (p : Pil) (A : Option Addr) (c : Nat) (A1 : Option Addr) (c1 : Nat) (ws : List (Int × Int)) (en : Int) (w : World) (hA : Kd.C kSpan w A p.log.length p.log) (hw : Kd.C kSpan w A1 ws.length ws) :
    Calls Tryd.prog 28 #[p.val A c, .slice A1 ws.length c1, .int .i64 en] w fun e w' => e = .returned (hullV (hullR p ws en)) ∧ Below w.heap.size w w' := by
  have hbox : Below w.heap.size w ((w.alloc (boxP p A c 24)).alloc (.cells #[.int .i64 0, .int .i64 0] 42)) := ((Below.refl _ _).alloc (Nat.le_refl _) _).alloc (by simp) _
  have HA := Lib.hid (Kd.C_below hA hbox)
  have HW := Lib.hid (Kd.C_below hw hbox)
  have HE := Lib.hid (possible_any p A c A1 c1 ws en _ HA.out HW.out)
  have HB0 : Hid (Blk ((w.alloc (boxP p A c 24)).alloc (.cells #[.int .i64 0, .int .i64 0] 42)) (w.heap.size + 1) 42 [.int .i64 0, .int .i64 0]) := by
    have h := Blk.new (w.alloc (boxP p A c 24)) 42 [.int .i64 0, .int .i64 0]
    rw [show (w.alloc (boxP p A c 24)).heap.size = w.heap.size + 1 by simp] at h
    exact h
  have hpl := poss_len (p := p) (ws := ws) (en := en)
  clear hA hw
  by_cases h0 : (possR p ws en).2 = 0
  · have HR := Lib.hid (show hullR p ws en = hullOf (possR p ws en).1 by unfold hullR; rw [if_pos h0])
    rw [h0] at HE
    clear h0
    generalize (possR p ws en).1 = L at *
    by_cases hl : L.length = 0
    · have HR2 := Lib.hid (show hullOf L = ((0, 0), 33) by unfold hullOf; rw [if_pos hl])
      have hl1 : ((L.length : Int) == 0) = true := by simp [hl]
      have hl2 : (L.length == 0) = true := by simp [hl]
      clear hl
      go_enter Tryd.func28, Tryd.ntmps28
      go_wp2_with (go_at_call 26; refine HE.out.mono ?_; rintro e w1 ⟨A', c', rfl, hr, hcl, hb⟩; clear hr; have hB := HB0.out.below hb; have q0 := hB.cell 0; have q1 := hB.cell 1; have fz := hB.frozen; have HBB := Lib.hid hb; clear hb)
      refine bodyPost_ret (v := .tuple #[spv 0 0, .int .i64 33]) (by simp [results, Tryd.results28, go_sem, q0, q1]) rfl ⟨?_, ?_⟩
      · rw [HR.out, HR2.out]; rfl
      · exact ((hbox.trans (HBB.out.mono (by simp; omega))).setCell (by simp) _).setCell (by simp) _
    · have HR2 := Lib.hid (show hullOf L = (((L.getD 0 (0, 0)).1, (L.getD (L.length - 1) (0, 0)).2), 0) by unfold hullOf; rw [if_neg hl])
      have hl1 : ((L.length : Int) == 0) = false := by rw [beq_eq_false_iff_ne]; omega
      have hl2 : (L.length == 0) = false := by rw [beq_eq_false_iff_ne]; omega
      have i0 : 0 < L.length := by omega
      have i1 : (0 : Int) < (L.length : Int) := by omega
      have i2 : IntKind.i64.wrap ((L.length : Int) - 1) = (L.length : Int) - 1 := by rw [IntKind.wrap_i64]; omega
      have i3 : ((L.length : Int) - 1).toNat = L.length - 1 := by omega
      have i4 : (0 : Int) ≤ (L.length : Int) - 1 := by omega
      have i5 : (L.length : Int) - 1 < (L.length : Int) := by omega
      clear hl
      obtain ⟨V1, hV1⟩ : ∃ V, (L.getD 0 (0, 0)).1 = V := ⟨_, rfl⟩
      obtain ⟨V2, hV2⟩ : ∃ V, (L.getD (L.length - 1) (0, 0)).2 = V := ⟨_, rfl⟩
      rw [hV1, hV2] at HR2
      have HV1 := Lib.hid hV1
      have HV2 := Lib.hid hV2
      clear hV1 hV2
      go_enter Tryd.func28, Tryd.ntmps28
      go_upto_region 6 with (go_at_call 26; refine HE.out.mono ?_; rintro e w1 ⟨A', c', rfl, hr, hcl, hb⟩; obtain ⟨ad, hA', y1, y2⟩ := at_span hr 0 i0; obtain ⟨ad', hA'', z1, z2⟩ := at_span hr (L.length - 1) (by omega); subst hA'; obtain rfl := Option.some.inj hA''; rw [HV1.out] at y1; rw [HV2.out] at z2; clear hA'' y2 z1; clear hr; have hB := HB0.out.below hb; have q0 := hB.cell 0; have q1 := hB.cell 1; have fz := hB.frozen; have HBB := Lib.hid hb; clear hb)
      have lt0 := World.block_lt_of_cell? _ _ y1
      rw [blk_add] at lt0
      rw [Nat.zero_mul, show ad.add 0 = ad by simp [Addr.add]] at y1
      go_region
      go_wp2
      refine bodyPost_ret (v := .tuple #[spv V1 V2, .int .i64 0]) (by simp [results, Tryd.results28, go_sem, q0, q1]) rfl ⟨?_, ?_⟩
      · rw [HR.out, HR2.out]; rfl
      · exact below_drew (((hbox.trans (HBB.out.mono (by simp; omega))).setCell (by simp) _).setCell (by simp) _)
  · have HR := Lib.hid (show hullR p ws en = ((0, 0), (possR p ws en).2) by unfold hullR; rw [if_neg h0])
    have hne : ((possR p ws en).2 != 0) = true := by simpa using h0
    clear h0
    generalize (possR p ws en).2 = E at *
    go_enter Tryd.func28, Tryd.ntmps28
    go_wp2_with (go_at_call 26; refine HE.out.mono ?_; rintro e w1 ⟨A', c', rfl, hr, hcl, hb⟩; clear hr; have hB := HB0.out.below hb; have q0 := hB.cell 0; have q1 := hB.cell 1; have fz := hB.frozen; have HBB := Lib.hid hb; clear hb)
    refine bodyPost_ret (v := .tuple #[spv 0 0, .int .i64 E]) (by simp [results, Tryd.results28, go_sem, q0, q1]) rfl ⟨?_, ?_⟩
    · rw [HR.out]; rfl
    · exact ((hbox.trans (HBB.out.mono (by simp; omega))).setCell (by simp) _).setCell (by simp) _
/-! ## Sure -/
def sureL (en : Nat) (L : List (List Int)) : Int × Bool × Int :=
  if L.length = 0 then (0, false, 33) else if (List.range L.length).all (fun k => at0 (L.getD k []) en == at0 (L.getD 0 []) en) then (at0 (L.getD 0 []) en, true, 0) else (0, false, 0)
def sureR (p : Pil) (ws : List (Int × Int)) (en : Int) : Int × Bool × Int :=
  if (entryR p ws en).2 = 0 then sureL en.toNat (entryR p ws en).1 else (0, false, (entryR p ws en).2)
set_option maxRecDepth 100000 in
set_option maxHeartbeats 3200000 in
theorem sure_any (p : Pil) (A : Option Addr) (c : Nat) (A1 : Option Addr) (c1 : Nat) (ws : List (Int × Int)) (en : Int) (w : World) (hA : Kd.C kSpan w A p.log.length p.log) (hw : Kd.C kSpan w A1 ws.length ws) :
    Calls Tryd.prog 30 #[p.val A c, .slice A1 ws.length c1, .int .i64 en] w fun e w' => e = .returned (partedV (sureR p ws en)) ∧ Below w.heap.size w w' := by
  have hbox : Below w.heap.size w (w.alloc (boxP p A c 24)) := (Below.refl _ _).alloc (Nat.le_refl _) _
  have HA := Lib.hid (Kd.C_below hA hbox)
  have HW := Lib.hid (Kd.C_below hw hbox)
  have HE := Lib.hid (entryOf_any p A c A1 c1 ws en _ HA.out HW.out)
  clear hA hw
  by_cases h0 : (entryR p ws en).2 = 0
  · obtain ⟨hck, hwe, g1, g2, hL, h64⟩ := entry_ok h0
    obtain ⟨ei, rfl⟩ := Int.eq_ofNat_of_zero_le g1
    have hok := Lib.hid (ok_of_check hck)
    have HR := Lib.hid (show sureR p ws (ei : Int) = sureL ei (remR p ws) by unfold sureR; rw [if_pos h0, hL]; rfl)
    rw [hL, h0] at HE
    have HLEN : Hid (∀ k, k < (remR p ws).length → ei < ((remR p ws).getD k []).length) := fun k hk => by
      have := (rem_case (ws := ws) hok.out (getD_mem (remR p ws) k [] hk)).1
      omega
    rw [HR.out]
    clear h0 hL hck hwe HR
    generalize remR p ws = L at *
    by_cases hl : L.length = 0
    · have HR2 := Lib.hid (show sureL ei L = (0, false, 33) by unfold sureL; rw [if_pos hl])
      have hl1 : ((L.length : Int) == 0) = true := by simp [hl]
      have hl2 : (L.length == 0) = true := by simp [hl]
      clear hl
      rw [HR2.out]
      go_enter Tryd.func30, Tryd.ntmps30
      go_wp2_with (go_at_call 65; refine HE.out.mono ?_; rintro e w1 ⟨A', c', rfl, hr, hcl, hb⟩; clear hr)
      go_ret3
      exact ⟨rfl, hbox.trans (hb.mono (by simp))⟩
    · have HR2 := Lib.hid (show sureL ei L = if (List.range L.length).all (fun k => at0 (L.getD k []) ei == at0 (L.getD 0 []) ei) then (at0 (L.getD 0 []) ei, true, 0) else (0, false, 0) by unfold sureL; rw [if_neg hl])
      have hl1 : ((L.length : Int) == 0) = false := by rw [beq_eq_false_iff_ne]; omega
      have hl2 : (L.length == 0) = false := by rw [beq_eq_false_iff_ne]; omega
      have i0 : 0 < L.length := by omega
      have i1 : (0 : Int) < (L.length : Int) := by omega
      clear hl
      go_enter Tryd.func30, Tryd.ntmps30
      go_wp2_with (go_at_call 65; refine HE.out.mono ?_; rintro e w1 ⟨A', c', rfl, hr, hcl, hb⟩; have HRR := Lib.hid hr; have HBB := Lib.hid hb; clear hr hb)
      go_loopw [28] (fun vk wr => ∃ k : Nat, k ≤ L.length ∧ vk = .int .i64 k ∧ Below w1.heap.size w1 wr ∧ Hid (∀ j, j < k → at0 (L.getD j []) ei = at0 (L.getD 0 []) ei))
        (fun vk _ => L.length - (intOf vk).toNat)
      case atStart => exact ⟨0, by omega, rfl, Below.refl _ _, fun j h => absurd h (by omega)⟩
      case round =>
        obtain ⟨k, hk, rfl, hb, hall⟩ := hrel
        obtain ⟨ad, A0, c0, rfl, q1, hq2, hq3⟩ := at_case (Kd.C_below HRR.out hb) 0 i0
        have e00 : ad.add 0 = ad := by simp [Addr.add]
        rw [e00] at q1
        obtain ⟨a0, rfl, y0⟩ := at_i hq3 ei (HLEN.out 0 i0)
        change _ = some (Value.int .i64 (at0 (L.getD 0 []) ei)) at y0
        have j0 : (ei : Int) < ((L.getD 0 []).length : Int) := by have := HLEN.out 0 i0; omega
        clear e00 hq3
        by_cases hlt : k < L.length
        · have j1 : (k : Int) < (L.length : Int) := by omega
          obtain ⟨ad', Ak, ck, had, qk, hqk2, hqk3⟩ := at_case (Kd.C_below HRR.out hb) k hlt
          obtain rfl := Option.some.inj had
          obtain ⟨ak, rfl, yk⟩ := at_i hqk3 ei (HLEN.out k hlt)
          change _ = some (Value.int .i64 (at0 (L.getD k []) ei)) at yk
          have jk : (ei : Int) < ((L.getD k []).length : Int) := by have := HLEN.out k hlt; omega
          clear had hqk3
          have HOV := Lib.hid (show (at0 (L.getD k []) ei ≠ at0 (L.getD 0 []) ei) → sureL ei L = (0, false, 0) from fun hne => by
            rw [HR2.out, if_neg]
            rw [List.all_eq_true]
            intro h
            have := h k (by simpa using hlt)
            simp at this
            exact hne (by simpa using this))
          have HKN := Lib.hid (show (at0 (L.getD k []) ei = at0 (L.getD 0 []) ei) → ∀ j, j < k + 1 → at0 (L.getD j []) ei = at0 (L.getD 0 []) ei from fun he j hj => by
            rcases Nat.lt_or_ge j k with h3 | h3
            · exact hall.out j h3
            · obtain rfl : j = k := by omega
              exact he)
          generalize at0 (L.getD k []) ei = X at *
          generalize at0 (L.getD 0 []) ei = Y at *
          generalize L.getD k [] = Lk at *
          generalize L.getD 0 [] = L0 at *
          by_cases hxy : X = Y
          · have hd : (X != Y) = false := by simp [hxy]
            have HKN2 := Lib.hid (HKN.out hxy)
            clear hxy HOV HKN
            go_wp2
            go_quiet (fail)
            go_wp2
            go_roundw
            case rel => exact ⟨k + 1, by omega, by go_num, pw_below_drewN hb _, HKN2.out⟩
            case measure => simp [intOf]; omega
          · have hd : (X != Y) = true := by simpa using hxy
            have HOV2 := Lib.hid (HOV.out hxy)
            clear hxy HOV HKN
            go_wp2
            go_quiet (fail)
            go_wp2
            go_ret3
            rw [HOV2.out]
            exact ⟨rfl, pw_below_drewN (hbox.trans ((HBB.out.trans (hb.mono HBB.out.size)).mono (by simp))) _⟩
        · obtain rfl : k = L.length := by omega
          have HS := Lib.hid (show sureL ei L = (at0 (L.getD 0 []) ei, true, 0) by
            rw [HR2.out, if_pos]
            rw [List.all_eq_true]
            intro j hj
            simpa using hall.out j (by simpa using hj))
          generalize at0 (L.getD 0 []) ei = Y at *
          generalize L.getD 0 [] = L0 at *
          go_wp2
          go_ret3
          rw [HS.out]
          exact ⟨rfl, hbox.trans ((HBB.out.trans (hb.mono HBB.out.size)).mono (by simp))⟩
  · have HR := Lib.hid (show sureR p ws en = (0, false, (entryR p ws en).2) by unfold sureR; rw [if_neg h0])
    rw [HR.out]
    have hne : ((entryR p ws en).2 != 0) = true := by simpa using h0
    rw [entry_bad h0] at HE
    clear h0
    generalize (entryR p ws en).2 = E at *
    go_enter Tryd.func30, Tryd.ntmps30
    go_wp2_with (go_at_call 65; refine HE.out.mono ?_; rintro e w1 ⟨A', c', rfl, hr, hcl, hb⟩; clear hr)
    go_ret3
    exact ⟨rfl, hbox.trans (hb.mono (by simp))⟩
end Go.Proofs.YtiidkekmklbobaaDoor
