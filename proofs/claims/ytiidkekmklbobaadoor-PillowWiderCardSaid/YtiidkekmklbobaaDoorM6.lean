/- Contracts of the reference: ends, Alive, Loads, Refute, Shift, Parted. -/
import Derived.Test.YtiidkekmklbobaaDoorM2
set_option linter.unusedVariables false
set_option linter.unusedSimpArgs false
namespace Go.Proofs.YtiidkekmklbobaaDoor
open Go.RowKit Go.Proofs.YtiidkekmklbobaaDoorW.PrintWords
attribute [local go_sem] mx_two mn_two blk_add
theorem case_st {p : Pil} {l : List Int} (h : caseB p l = true) (i : Nat) (hi : i < l.length) : 0 ≤ at0 l i ∧ at0 l i ≤ 2 := by
  simp only [caseB, Bool.and_eq_true, List.all_eq_true] at h
  have := h.2.1 i (by simpa using hi)
  simp only [stepB, Bool.and_eq_true] at this
  exact within_t.1 this.1
set_option maxRecDepth 100000 in
set_option maxHeartbeats 3200000 in
theorem rends_any (p : Pil) (A : Option Addr) (c : Nat) (A1 : Option Addr) (c1 : Nat) (ws : List (Int × Int)) (A2 : Option Addr) (c2 : Nat) (l : List Int) (w : World) (hp : Ok p) (hwe : weatherB p ws = true) (hca : caseB p l = true) (hA : Kd.C kSpan w A p.log.length p.log) (hw : Kd.C kSpan w A1 ws.length ws) (hl : Kd.C kInt w A2 l.length l) :
    Calls Tryd.prog 64 #[p.val A c, .slice A1 ws.length c1, .slice A2 l.length c2] w fun e w' => ∃ A' c', e = .returned (.tuple #[.slice A' (endsF p ws l).length c', .bool (aliveF p ws l)]) ∧ Kd.C kSpan w' A' (endsF p ws l).length (endsF p ws l) ∧ (endsF p ws l).length ≤ c' ∧ Below w.heap.size w w' := by
  have hlen : l.length = p.log.length := by
    simp only [caseB, Bool.and_eq_true, beq_iff_eq] at hca
    exact hca.1
  have hwl : ws.length = p.log.length - 1 := by
    simp only [weatherB, Bool.and_eq_true, beq_iff_eq] at hwe
    exact hwe.1
  have hL := hp.l
  have hbox : Below w.heap.size w (w.alloc (.cells #[.int .i64 p.no, .int .i64 p.cell, .int .i64 p.noise, .int .i64 p.slab, .int .i64 p.jump, .int .i64 p.faults, .slice A p.log.length c] 24)) := (Below.refl _ _).alloc (Nat.le_refl _) _
  have HA := Lib.hid hA
  have HW := Lib.hid hw
  have HL := Lib.hid hl
  have HP := Lib.hid hp
  have HCA := Lib.hid hca
  have HWE := Lib.hid hwe
  have HN := Lib.hid hlen
  have HWL := Lib.hid hwl
  have hle : l.length ≤ 32 := by omega
  have hmk := mk_spans l.length (by omega)
  clear hA hw hl hp hca hwe hlen hwl
  go_enter Tryd.func64, Tryd.ntmps64
  go_wp2
  go_loopw [9] (fun vi wr => ∃ k : Nat, k ≤ l.length ∧ vi = .int .i64 k ∧ Below (w.heap.size + 1) (w.alloc (.cells #[.int .i64 p.no, .int .i64 p.cell, .int .i64 p.noise, .int .i64 p.slab, .int .i64 p.jump, .int .i64 p.faults, .slice A p.log.length c] 24)) wr ∧ Hid (Blk wr (w.heap.size + 1) 42 (sc (rowB l.length k (fwd p ws l) fun _ => (0, 0)))) ∧ Hid (∀ i, i < k → fwdOk p ws l i = true))
    (fun vi _ => l.length - (intOf vi).toNat)
  case atStart =>
    refine ⟨0, Nat.zero_le _, rfl, (Below.refl _ _).alloc (by simp) _, ?_, fun i h => absurd h (by omega)⟩
    have h := Blk.new (w.alloc (.cells #[.int .i64 p.no, .int .i64 p.cell, .int .i64 p.noise, .int .i64 p.slab, .int .i64 p.jump, .int .i64 p.faults, .slice A p.log.length c] 24)) 42 (sc (List.replicate l.length (0, 0)))
    rw [rowB_none, List.map_const', List.length_range]
    have e : (w.alloc (.cells #[.int .i64 p.no, .int .i64 p.cell, .int .i64 p.noise, .int .i64 p.slab, .int .i64 p.jump, .int .i64 p.faults, .slice A p.log.length c] 24)).heap.size = w.heap.size + 1 := by simp
    rw [e] at h
    exact h
  case round =>
    obtain ⟨k, hk, rfl, hb, hblk, hall⟩ := hrel
    have hwr : Below w.heap.size w wr := hbox.trans (hb.mono (by omega))
    have hz : w.heap.size + 1 < wr.heap.size := hblk.out.lt
    have hz0 : w.heap.size < wr.heap.size := by omega
    obtain ⟨hc, hf⟩ := bcell1 hb
    by_cases hlt : k < l.length
    · obtain ⟨ad, rfl, a1⟩ := at_i (Kd.C_below HL.out hwr) k hlt
      have l0 := World.block_lt_of_cell? wr _ a1
      rw [blk_add] at l0
      change _ = some (Value.int .i64 (at0 l k)) at a1
      obtain ⟨hs0, hs1⟩ := case_st HCA.out k hlt
      have HLd : Hid (∀ w3, Below wr.heap.size wr w3 → Calls Tryd.prog 79 #[p.val A c, .int .i64 (at0 l k), .int .i64 k] w3 fun e w' => e = .returned (spv (loadsF p k (at0 l k)).1 (loadsF p k (at0 l k)).2) ∧ Below w3.heap.size w3 w') := fun w3 hb3 =>
        allowed_any p A c k (at0 l k) w3 HP.out (Kd.C_below (Kd.C_below HA.out hwr) hb3) (by have := HN.out; omega) hs0 hs1
      have hT : Hid (∀ w3, Below wr.heap.size wr w3 → w3.cell? ⟨w.heap.size, 0, none⟩ = some (.int .i64 p.no) ∧ w3.cell? ⟨w.heap.size, 1, none⟩ = some (.int .i64 p.cell) ∧ w3.cell? ⟨w.heap.size, 2, none⟩ = some (.int .i64 p.noise) ∧ w3.cell? ⟨w.heap.size, 3, none⟩ = some (.int .i64 p.slab) ∧ w3.cell? ⟨w.heap.size, 4, none⟩ = some (.int .i64 p.jump) ∧ w3.cell? ⟨w.heap.size, 5, none⟩ = some (.int .i64 p.faults) ∧ w3.cell? ⟨w.heap.size, 6, none⟩ = some (.slice A p.log.length c) ∧ w3.cell? (ad.add k) = some (.int .i64 (at0 l k))) := fun w3 hb3 => by
        have hk : ∀ j, j < 7 → w3.cell? ⟨w.heap.size, j, none⟩ = #[.int .i64 p.no, .int .i64 p.cell, .int .i64 p.noise, .int .i64 p.slab, .int .i64 p.jump, .int .i64 p.faults, .slice A p.log.length c][j]? := fun j hj => by
          rw [hb3.cell (p := ⟨w.heap.size, j, none⟩) hz0, hc _ _ (by omega)]; simp
        exact ⟨hk 0 (by omega), hk 1 (by omega), hk 2 (by omega), hk 3 (by omega), hk 4 (by omega), hk 5 (by omega), hk 6 (by omega), pw_cell_below hb3 a1⟩
      have j1 : (k : Int) < (l.length : Int) := by omega
      clear a1 hc hf hs0 hs1
      generalize hx : loadsF p k (at0 l k) = x at *
      have HX := Lib.hid hx
      clear hx
      by_cases hk0 : k = 0
      · have e0 : ¬ ((0 : Int) < (k : Int)) := by omega
        have HFW : Hid (fwd p ws l k = (x.1, x.2)) := by
          show fwd p ws l k = (x.1, x.2)
          rw [← HX.out, hk0]; rfl
        have HK0 := Lib.hid hk0
        clear hk0
        go_wp2
        refine wp_region_tail 10 (fun w3 => Below wr.heap.size wr w3) (by kernel_rfl) (by kernel_rfl) (below_drew (Below.refl _ _)) ?_
        simp only [List.take_succ_cons, List.take_zero, List.drop_succ_cons, List.drop_zero]
        repeat (refine wpQuiet_step (fun K hK => ?_); go_simp; (first | (refine hK _ ?_) | (refine ⟨_, fun _ _ => rfl, hK _ ?_⟩) | (refine ⟨_, fun w3 hw3 => less_exact trivial (HLd.out w3 hw3) hw3 hw3.size, hK _ ?_⟩) | (apply Exists.intro; refine ⟨fun w3 hw3 => ?_, hK _ ?_⟩; focus (obtain ⟨t1, t2, t3, t4, t5, t6, t7, t8⟩ := hT.out w3 hw3; first | (go_simp; done) | (go_simp; rfl)))); clear hK K)
        refine wpQuiet_nil ?_
        intro w3 hw3
        have hbk3 := Lib.hid (hblk.out.below hw3)
        have hfB := hbk3.out.frozen
        obtain ⟨b1, b2⟩ := sc_get (rowB l.length k (fwd p ws l) fun _ => (0, 0)) k (by rw [rowB_len]; exact hlt)
        rw [← hbk3.out.cell] at b1 b2
        go_wp2_with fail
        have hbk4 := Lib.hid (hbk3.out.set2 k x.1 x.2)
        have hbe4 : Below (w.heap.size + 1) (w.alloc (.cells #[.int .i64 p.no, .int .i64 p.cell, .int .i64 p.noise, .int .i64 p.slab, .int .i64 p.jump, .int .i64 p.faults, .slice A p.log.length c] 24)) ((w3.setCell ⟨w.heap.size + 1, k * 2, none⟩ (.int .i64 x.1)).setCell ⟨w.heap.size + 1, k * 2 + 1, none⟩ (.int .i64 x.2)) := ((hb.trans (hw3.mono (by omega))).setCell (by simp) _).setCell (by simp) _
        have hrow : ((rowB l.length k (fwd p ws l) fun _ => (0, 0)).set k (x.1, x.2)) = rowB l.length (k + 1) (fwd p ws l) fun _ => (0, 0) := by
          rw [← HFW.out, rowB_up _ _ _ _ hlt]
        rw [hrow] at hbk4
        clear hrow hfB b1 b2
        generalize (w3.setCell ⟨w.heap.size + 1, k * 2, none⟩ (.int .i64 x.1)).setCell ⟨w.heap.size + 1, k * 2 + 1, none⟩ (.int .i64 x.2) = W4 at *
        clear hw3
        have hw4 : Below w.heap.size w W4 := hbox.trans (hbe4.mono (by omega))
        generalize x.1 = M1 at *
        generalize x.2 = M2 at *
        have m1 := hbk4.out.cell (k * 2)
        have m2 := hbk4.out.cell (k * 2 + 1)
        have hrg := rowB_get l.length (k + 1) (fwd p ws l) (fun _ => (0, 0)) k hlt
        rw [if_pos (by omega), HFW.out] at hrg
        obtain ⟨r1, r2⟩ := sc_get (rowB l.length (k + 1) (fwd p ws l) fun _ => (0, 0)) k (by rw [rowB_len]; exact hlt)
        rw [hrg] at r1 r2
        rw [r1] at m1
        rw [r2] at m2
        clear r1 r2 hrg
        cases hok : fwdOk p ws l k
        · have hg : M2 < M1 := by
            have h := hok
            unfold fwdOk at h
            rw [HFW.out] at h
            simp at h; omega
          have hdead := Lib.hid (show aliveF p ws l = false by unfold aliveF; rw [List.all_eq_false]; exact ⟨k, by simpa using hlt, by simp [hok]⟩)
          clear hok
          go_quiet (fail)
          go_wp2
          go_ret2
          have he : endsF p ws l = [] := by unfold endsF; rw [hdead.out]; rfl
          rw [hdead.out, he]
          exact ⟨none, 0, rfl, Kd.C_nil _ _, Nat.le_refl _, pw_below_drewN hw4 _⟩
        · have hg : ¬ (M2 < M1) := by
            have h := hok
            unfold fwdOk at h
            rw [HFW.out] at h
            simp at h; omega
          have HOK : Hid (∀ i, i < k + 1 → fwdOk p ws l i = true) := fun i hi => by
            rcases Nat.lt_or_ge i k with h | h
            · exact hall.out i h
            · obtain rfl : i = k := by omega
              exact hok
          clear hok
          go_quiet (fail)
          go_wp2
          go_roundw
          case rel => exact ⟨k + 1, by omega, by go_num, pw_below_drewN hbe4 _, hbk4.out, HOK.out⟩
          case measure => simp [intOf]; omega
      · have e0 : (0 : Int) < (k : Int) := by omega
        go_wp2
        refine wp_region_tail 10 (fun w3 => Below wr.heap.size wr w3) (by kernel_rfl) (by kernel_rfl) (below_drew (Below.refl _ _)) ?_
        simp only [List.take_succ_cons, List.take_zero, List.drop_succ_cons, List.drop_zero]
        repeat (refine wpQuiet_step (fun K hK => ?_); go_simp; (first | (refine hK _ ?_) | (refine ⟨_, fun _ _ => rfl, hK _ ?_⟩) | (refine ⟨_, fun w3 hw3 => less_exact trivial (HLd.out w3 hw3) hw3 hw3.size, hK _ ?_⟩) | (apply Exists.intro; refine ⟨fun w3 hw3 => ?_, hK _ ?_⟩; focus (obtain ⟨t1, t2, t3, t4, t5, t6, t7, t8⟩ := hT.out w3 hw3; first | (go_simp; done) | (go_simp; rfl)))); clear hK K)
        refine wpQuiet_nil ?_
        intro w3 hw3
        have hbk3 := Lib.hid (hblk.out.below hw3)
        have hfB := hbk3.out.frozen
        obtain ⟨b1, b2⟩ := sc_get (rowB l.length k (fwd p ws l) fun _ => (0, 0)) k (by rw [rowB_len]; exact hlt)
        rw [← hbk3.out.cell] at b1 b2
        go_wp2_with fail
        have hbk2 := Lib.hid (hbk3.out.set2 k x.1 x.2)
        have hbe2 : Below (w.heap.size + 1) (w.alloc (.cells #[.int .i64 p.no, .int .i64 p.cell, .int .i64 p.noise, .int .i64 p.slab, .int .i64 p.jump, .int .i64 p.faults, .slice A p.log.length c] 24)) ((w3.setCell ⟨w.heap.size + 1, k * 2, none⟩ (.int .i64 x.1)).setCell ⟨w.heap.size + 1, k * 2 + 1, none⟩ (.int .i64 x.2)) := ((hb.trans (hw3.mono (by omega))).setCell (by simp) _).setCell (by simp) _
        clear hfB b1 b2
        generalize (w3.setCell ⟨w.heap.size + 1, k * 2, none⟩ (.int .i64 x.1)).setCell ⟨w.heap.size + 1, k * 2 + 1, none⟩ (.int .i64 x.2) = W2 at *
        clear hw3
        have hw2 : Below w.heap.size w W2 := hbox.trans (hbe2.mono (by omega))
        obtain ⟨d1, d2⟩ := sc_get ((rowB l.length k (fwd p ws l) fun _ => (0, 0)).set k (x.1, x.2)) k (by simpa [rowB_len] using hlt)
        obtain ⟨p1, p2⟩ := sc_get ((rowB l.length k (fwd p ws l) fun _ => (0, 0)).set k (x.1, x.2)) (k - 1) (by simp [rowB_len]; omega)
        have ev : ((rowB l.length k (fwd p ws l) fun _ => (0, 0)).set k (x.1, x.2)).getD k (0, 0) = x := by simp [rowB_len, hlt]
        have ep : ((rowB l.length k (fwd p ws l) fun _ => (0, 0)).set k (x.1, x.2)).getD (k - 1) (0, 0) = fwd p ws l (k - 1) := by
          have := rowB_get l.length k (fwd p ws l) (fun _ => (0, 0)) (k - 1) (by omega)
          rw [if_pos (by omega)] at this
          rw [← this]
          simp [List.getElem?_set, show k ≠ k - 1 by omega]
        rw [ev, ← hbk2.out.cell] at d1 d2
        rw [ep, ← hbk2.out.cell] at p1 p2
        obtain ⟨adw, rfl, q1, q2⟩ := at_span (Kd.C_below HW.out hw2) (k - 1) (by have := HN.out; have := HWL.out; omega)
        change _ = some (Value.int .i64 (sp ws (k - 1)).1) at q1
        change _ = some (Value.int .i64 (sp ws (k - 1)).2) at q2
        clear ev ep
        have hfb := fwd_bd p ws l HP.out (k - 1) (hall.out (k - 1) (by omega))
        have hsb := weather_at HWE.out (k - 1)
        have HFW := Lib.hid (show fwd p ws l k = (max x.1 ((fwd p ws l (k - 1)).1 + (sp ws (k - 1)).1), min x.2 ((fwd p ws l (k - 1)).2 + (sp ws (k - 1)).2)) by
          obtain ⟨m, rfl⟩ : ∃ m, k = m + 1 := ⟨k - 1, by omega⟩
          rw [← HX.out]; rfl)
        generalize (fwd p ws l (k - 1)).1 = F1 at *
        generalize (fwd p ws l (k - 1)).2 = F2 at *
        generalize (sp ws (k - 1)).1 = S1 at *
        generalize (sp ws (k - 1)).2 = S2 at *
        have g1 : IntKind.i64.wrap (F1 + S1) = F1 + S1 := IntWalk.i64_in _ (by omega)
        have g2 : IntKind.i64.wrap (F2 + S2) = F2 + S2 := IntWalk.i64_in _ (by omega)
        have i1 : IntKind.i64.wrap ((k : Int) - 1) = (k : Int) - 1 := IntWalk.i64_in _ (by omega)
        have i2 : ((k : Int) - 1).toNat = k - 1 := by omega
        have i3 : 0 ≤ (k : Int) - 1 := by omega
        have i4 : (k : Int) - 1 < (l.length : Int) := by omega
        have i5 : (1 : Int) ≤ (k : Int) := by omega
        have i6 : 1 ≤ k := by omega
        have i7 : (k : Int) ≤ (l.length : Int) := by omega
        have i8 : (k : Int) - 1 < (ws.length : Int) := by have := HWL.out; have := HN.out; omega
        have i9 : (k : Int) ≤ (ws.length : Int) := by omega
        have HT : Hid (∀ w3, Below W2.heap.size W2 w3 → w3.cell? ⟨w.heap.size + 1, k * 2, none⟩ = some (.int .i64 x.1) ∧ w3.cell? ⟨w.heap.size + 1, k * 2 + 1, none⟩ = some (.int .i64 x.2) ∧ w3.cell? ⟨w.heap.size + 1, (k - 1) * 2, none⟩ = some (.int .i64 F1) ∧ w3.cell? ⟨w.heap.size + 1, (k - 1) * 2 + 1, none⟩ = some (.int .i64 F2) ∧ w3.cell? (adw.add ((k - 1) * 2)) = some (.int .i64 S1) ∧ w3.cell? ⟨adw.block, (adw.add ((k - 1) * 2)).off + 1, none⟩ = some (.int .i64 S2)) := fun w3 hb3 =>
          ⟨pw_cell_below hb3 d1, pw_cell_below hb3 d2, pw_cell_below hb3 p1, pw_cell_below hb3 p2, pw_cell_below hb3 q1, pw_cell_below hb3 q2⟩
        clear d1 d2 p1 p2 q1 q2 hfb hsb hT HLd
        refine wp_region_tail 35 (fun w3 => Below W2.heap.size W2 w3) (by kernel_rfl) (by kernel_rfl) (below_drew (Below.refl _ _)) ?_
        simp only [List.take_succ_cons, List.take_zero, List.drop_succ_cons, List.drop_zero]
        repeat (refine wpQuiet_step (fun K hK => ?_); go_simp; (first | (refine hK _ ?_) | (refine ⟨_, fun _ _ => rfl, hK _ ?_⟩) | (refine ⟨_, fun w3 hw3 => less_exact trivial (rmeet_any _ _ _ _ w3) hw3 hw3.size, hK _ ?_⟩) | (apply Exists.intro; refine ⟨fun w3 hw3 => ?_, hK _ ?_⟩; focus (have t1 := (HT.out w3 hw3).1; have t2 := (HT.out w3 hw3).2.1; have t3 := (HT.out w3 hw3).2.2.1; have t4 := (HT.out w3 hw3).2.2.2.1; have t5 := (HT.out w3 hw3).2.2.2.2.1; have t6 := (HT.out w3 hw3).2.2.2.2.2; first | (go_simp; done) | (go_simp; rfl)))); clear hK K)
        refine wpQuiet_nil ?_
        intro w3 hw3
        have hbk3' := Lib.hid (hbk2.out.below hw3)
        have hfB := hbk3'.out.frozen
        have c1' := (HT.out w3 hw3).1
        have c2' := (HT.out w3 hw3).2.1
        go_wp2_with fail
        have hbk4 := Lib.hid (hbk3'.out.set2 k (max x.1 (F1 + S1)) (min x.2 (F2 + S2)))
        have hbe4 : Below (w.heap.size + 1) (w.alloc (.cells #[.int .i64 p.no, .int .i64 p.cell, .int .i64 p.noise, .int .i64 p.slab, .int .i64 p.jump, .int .i64 p.faults, .slice A p.log.length c] 24)) ((w3.setCell ⟨w.heap.size + 1, k * 2, none⟩ (.int .i64 (max x.1 (F1 + S1)))).setCell ⟨w.heap.size + 1, k * 2 + 1, none⟩ (.int .i64 (min x.2 (F2 + S2)))) := ((hbe2.trans (hw3.mono (by have := hbk2.out.lt; omega))).setCell (by simp) _).setCell (by simp) _
        have hrow : (((rowB l.length k (fwd p ws l) fun _ => (0, 0)).set k (x.1, x.2)).set k (max x.1 (F1 + S1), min x.2 (F2 + S2))) = rowB l.length (k + 1) (fwd p ws l) fun _ => (0, 0) := by
          rw [List.set_set, ← HFW.out, rowB_up _ _ _ _ hlt]
        rw [hrow] at hbk4
        clear hrow
        generalize (w3.setCell ⟨w.heap.size + 1, k * 2, none⟩ (.int .i64 (max x.1 (F1 + S1)))).setCell ⟨w.heap.size + 1, k * 2 + 1, none⟩ (.int .i64 (min x.2 (F2 + S2))) = W4 at *
        have hw4 : Below w.heap.size w W4 := hbox.trans (hbe4.mono (by omega))
        generalize max x.1 (F1 + S1) = M1 at *
        generalize min x.2 (F2 + S2) = M2 at *
        clear c1' c2' hfB hbk3' hw3 i1 i2 i3 i4 i5 i6 i7 i8 i9 g1 g2
        have m1 := hbk4.out.cell (k * 2)
        have m2 := hbk4.out.cell (k * 2 + 1)
        have hrg := rowB_get l.length (k + 1) (fwd p ws l) (fun _ => (0, 0)) k hlt
        rw [if_pos (by omega), HFW.out] at hrg
        obtain ⟨r1, r2⟩ := sc_get (rowB l.length (k + 1) (fwd p ws l) fun _ => (0, 0)) k (by rw [rowB_len]; exact hlt)
        rw [hrg] at r1 r2
        rw [r1] at m1
        rw [r2] at m2
        clear r1 r2 hrg
        cases hok : fwdOk p ws l k
        · have hg : M2 < M1 := by
            have h := hok
            unfold fwdOk at h
            rw [HFW.out] at h
            simp at h; omega
          have hdead := Lib.hid (show aliveF p ws l = false by unfold aliveF; rw [List.all_eq_false]; exact ⟨k, by simpa using hlt, by simp [hok]⟩)
          clear hok
          go_quiet (fail)
          go_wp2
          go_ret2
          have he : endsF p ws l = [] := by unfold endsF; rw [hdead.out]; rfl
          rw [hdead.out, he]
          exact ⟨none, 0, rfl, Kd.C_nil _ _, Nat.le_refl _, pw_below_drewN hw4 _⟩
        · have hg : ¬ (M2 < M1) := by
            have h := hok
            unfold fwdOk at h
            rw [HFW.out] at h
            simp at h; omega
          have HOK : Hid (∀ i, i < k + 1 → fwdOk p ws l i = true) := fun i hi => by
            rcases Nat.lt_or_ge i k with h | h
            · exact hall.out i h
            · obtain rfl : i = k := by omega
              exact hok
          clear hok
          go_quiet (fail)
          go_wp2
          go_roundw
          case rel => exact ⟨k + 1, by omega, by go_num, pw_below_drewN hbe4 _, hbk4.out, HOK.out⟩
          case measure => simp [intOf]; omega
    · obtain rfl : k = l.length := by omega
      have hal := Lib.hid (show aliveF p ws l = true by
        unfold aliveF
        rw [List.all_eq_true]
        intro i hi
        exact hall.out i (by simpa using hi))
      have iw : IntKind.i64.wrap ((l.length : Int) - 2) = (l.length : Int) - 2 := IntWalk.i64_in _ (by omega)
      have hrow0 : rowB l.length l.length (fwd p ws l) (fun _ => (0, 0)) = rowB l.length (((l.length : Int) - 2) + 1).toNat (fwd p ws l) (bwd p ws l) := by
        apply List.ext_getElem
        · simp [rowB]
        · intro i h1 h2
          have hi : i < l.length := by simpa [rowB] using h1
          simp only [rowB, List.getElem_map, List.getElem_range]
          rw [if_pos hi]
          split
          · rfl
          · rw [bwd_last p ws l i (by omega)]
      rw [hrow0] at hblk
      clear hrow0 hlt
      go_wp2
      go_loopw [10] (fun vi wr => ∃ z : Int, vi = .int .i64 z ∧ -2 ≤ z ∧ z + 2 ≤ (l.length : Int) ∧ Below (w.heap.size + 1) (w.alloc (.cells #[.int .i64 p.no, .int .i64 p.cell, .int .i64 p.noise, .int .i64 p.slab, .int .i64 p.jump, .int .i64 p.faults, .slice A p.log.length c] 24)) wr ∧ Hid (Blk wr (w.heap.size + 1) 42 (sc (rowB l.length (z + 1).toNat (fwd p ws l) (bwd p ws l)))))
        (fun vi _ => (intOf vi + 1).toNat)
      case atStart => exact ⟨_, rfl, by omega, by omega, hb, hblk⟩
      case round =>
        clear hb hblk hc hf hz hz0 hwr iw
        obtain ⟨z, rfl, hz1, hz2, hb, hblk⟩ := hrel
        have hwr : Below w.heap.size w wr := hbox.trans (hb.mono (by omega))
        have hz : w.heap.size + 1 < wr.heap.size := hblk.out.lt
        by_cases hz0 : z < 0
        · have g : decide (0 ≤ z) = false := by simp; omega
          have hfin : rowB l.length (z + 1).toNat (fwd p ws l) (bwd p ws l) = endsF p ws l := by
            rw [show (z + 1).toNat = 0 by omega, rowB_none]
            unfold endsF
            rw [hal.out]; rfl
          rw [hfin] at hblk
          have hlen2 : (endsF p ws l).length = l.length := by unfold endsF; rw [hal.out]; simp
          have HLE := Lib.hid hlen2
          clear hlen2 hfin
          go_wp2
          go_ret2
          refine ⟨some ⟨w.heap.size + 1, 0, none⟩, l.length, ?_, hblk.out.reads (by have := HLE.out; omega), (by have := HLE.out; omega), hwr⟩
          rw [hal.out, HLE.out]; rfl
        · obtain ⟨m, rfl⟩ := Int.eq_ofNat_of_zero_le (show 0 ≤ z by omega)
          have hm : m + 1 < l.length := by omega
          rw [show ((m : Int) + 1).toNat = m + 1 by omega] at hblk
          obtain ⟨hc, hf⟩ := bcell1 hb
          obtain ⟨d1, d2⟩ := sc_get (rowB l.length (m + 1) (fwd p ws l) (bwd p ws l)) m (by rw [rowB_len]; omega)
          obtain ⟨p1, p2⟩ := sc_get (rowB l.length (m + 1) (fwd p ws l) (bwd p ws l)) (m + 1) (by rw [rowB_len]; omega)
          rw [rowB_get _ _ _ _ _ (by omega), if_pos (by omega), ← hblk.out.cell] at d1 d2
          rw [rowB_get _ _ _ _ _ (by omega), if_neg (by omega), ← hblk.out.cell] at p1 p2
          obtain ⟨adw, rfl, q1, q2⟩ := at_span (Kd.C_below HW.out hwr) m (by have := HN.out; have := HWL.out; omega)
          obtain ⟨l1, -, -⟩ := at_lt q1
          change _ = some (Value.int .i64 (sp ws m).1) at q1
          change _ = some (Value.int .i64 (sp ws m).2) at q2
          obtain ⟨hF1, hF2⟩ := bwd_small p ws l HP.out HWE.out hall.out hle (m + 1) (by omega)
          have hsb := weather_at HWE.out m
          have hS1 : small (sp ws m).1 := by unfold small; omega
          have hS2 : small (sp ws m).2 := by unfold small; omega
          have HFW := Lib.hid (show bwd p ws l m = (max (fwd p ws l m).1 ((bwd p ws l (m + 1)).1 - (sp ws m).2), min (fwd p ws l m).2 ((bwd p ws l (m + 1)).2 - (sp ws m).1)) from bwd_step p ws l m hm)
          clear hsb
          have i1 : IntKind.i64.wrap ((m : Int) + 1) = (m : Int) + 1 := IntWalk.i64_in _ (by omega)
          have i2 : ((m : Int) + 1).toNat = m + 1 := by omega
          have i3 : (m : Int) + 1 < (l.length : Int) := by omega
          have i4 : m < l.length := by omega
          have i5 : m < ws.length := by have := HWL.out; have := HN.out; omega
          have i6 : (m : Int) < (ws.length : Int) := by omega
          have i7 : (m : Int) < (l.length : Int) := by omega
          have i8 : 0 ≤ (m : Int) + 1 := by omega
          generalize (fwd p ws l m).1 = X1 at *
          generalize (fwd p ws l m).2 = X2 at *
          generalize (bwd p ws l (m + 1)).1 = F1 at *
          generalize (bwd p ws l (m + 1)).2 = F2 at *
          generalize (sp ws m).1 = S1 at *
          generalize (sp ws m).2 = S2 at *
          have g1 : IntKind.i64.wrap (F1 - S2) = F1 - S2 := IntWalk.i64_in _ (by unfold small at *; omega)
          have g2 : IntKind.i64.wrap (F2 - S1) = F2 - S1 := IntWalk.i64_in _ (by unfold small at *; omega)
          have HT : Hid (∀ w3, Below wr.heap.size wr w3 → w3.cell? ⟨w.heap.size + 1, m * 2, none⟩ = some (.int .i64 X1) ∧ w3.cell? ⟨w.heap.size + 1, m * 2 + 1, none⟩ = some (.int .i64 X2) ∧ w3.cell? ⟨w.heap.size + 1, (m + 1) * 2, none⟩ = some (.int .i64 F1) ∧ w3.cell? ⟨w.heap.size + 1, (m + 1) * 2 + 1, none⟩ = some (.int .i64 F2) ∧ w3.cell? (adw.add (m * 2)) = some (.int .i64 S1) ∧ w3.cell? ⟨adw.block, (adw.add (m * 2)).off + 1, none⟩ = some (.int .i64 S2)) := fun w3 hb3 =>
            ⟨pw_cell_below hb3 d1, pw_cell_below hb3 d2, pw_cell_below hb3 p1, pw_cell_below hb3 p2, pw_cell_below hb3 q1, pw_cell_below hb3 q2⟩
          clear d1 d2 p1 p2 q1 q2 hc hf
          go_wp2
          refine wp_region_tail 33 (fun w3 => Below wr.heap.size wr w3) (by kernel_rfl) (by kernel_rfl) (below_drew (Below.refl _ _)) ?_
          simp only [List.take_succ_cons, List.take_zero, List.drop_succ_cons, List.drop_zero]
          repeat (refine wpQuiet_step (fun K hK => ?_); go_simp; (first | (refine hK _ ?_) | (refine ⟨_, fun _ _ => rfl, hK _ ?_⟩) | (refine ⟨_, fun w3 hw3 => less_exact trivial (rmeet_any _ _ _ _ w3) hw3 hw3.size, hK _ ?_⟩) | (apply Exists.intro; refine ⟨fun w3 hw3 => ?_, hK _ ?_⟩; focus (have t1 := (HT.out w3 hw3).1; have t2 := (HT.out w3 hw3).2.1; have t3 := (HT.out w3 hw3).2.2.1; have t4 := (HT.out w3 hw3).2.2.2.1; have t5 := (HT.out w3 hw3).2.2.2.2.1; have t6 := (HT.out w3 hw3).2.2.2.2.2; first | (go_simp; done) | (go_simp; rfl)))); clear hK K)
          refine wpQuiet_nil ?_
          intro w3 hw3
          have hbk3 := Lib.hid (hblk.out.below hw3)
          have hfB := hbk3.out.frozen
          have c1' := (HT.out w3 hw3).1
          have c2' := (HT.out w3 hw3).2.1
          go_wp2_with fail
          go_roundw
          case rel =>
            refine ⟨_, rfl, by omega, by omega, ((hb.trans (hw3.mono (by omega))).setCell (by simp) _).setCell (by simp) _, ?_⟩
            have hbk4 := hbk3.out.set2 m (max X1 (F1 - S2)) (min X2 (F2 - S1))
            have hrow : ((rowB l.length (m + 1) (fwd p ws l) (bwd p ws l)).set m (max X1 (F1 - S2), min X2 (F2 - S1))) = rowB l.length m (fwd p ws l) (bwd p ws l) := by
              rw [← HFW.out, rowB_down _ _ _ _ (by omega)]
            rw [hrow] at hbk4
            rw [show ((m : Int) - 1 + 1).toNat = m by omega]
            exact hbk4
          case measure => first | (simp [intOf]; done) | (simp [intOf]; omega)
end Go.Proofs.YtiidkekmklbobaaDoor
set_option linter.unusedVariables false
set_option linter.unusedSimpArgs false
namespace Go.Proofs.YtiidkekmklbobaaDoor
open Go.RowKit Go.Proofs.YtiidkekmklbobaaDoorW.PrintWords
attribute [local go_sem] mx_two mn_two blk_add
theorem asked_told (p : Pil) (ws : List (Int × Int)) (l : List Int) : askedF p ws (-1) [l] = toldF p ws l := by
  have h : within (-1) (-1) ((p.log.length : Int) - 1) = true := within_t.2 ⟨by omega, by omega⟩
  unfold askedF toldF
  rw [h]
  simp
/-- The one-case list that a call builds. -/
theorem one_case (W : World) (A2 : Option Addr) (c2 : Nat) (l : List Int) (hl : Kd.C kInt W A2 l.length l) (hc : l.length ≤ c2) :
    Kd.C kCase (W.alloc (.cells #[.slice A2 l.length c2] 26)) (some ⟨W.heap.size, 0, none⟩) 1 [l] := by
  have hb : Below W.heap.size W (W.alloc (.cells #[.slice A2 l.length c2] 26)) := (Below.refl _ _).alloc (Nat.le_refl _) _
  refine ⟨rfl, by omega, fun _ => ⟨_, rfl, fun j p hj => ?_⟩⟩
  obtain ⟨hlt, rfl⟩ := List.getElem?_eq_some_iff.1 hj
  obtain rfl : j = 0 := by simp at hlt; exact hlt
  refine ⟨[.slice A2 l.length c2], rfl, ⟨A2, c2, rfl, hc, Kd.C_below hl hb⟩, fun i u hu => ?_⟩
  match i, hu with
  | 0, hu =>
    simp at hu; subst hu
    have h := (Blk.new W 26 [.slice A2 l.length c2]).cell 0
    simp [Addr.add, h]
theorem asked_one (p : Pil) (A : Option Addr) (c : Nat) (A1 : Option Addr) (c1 : Nat) (ws : List (Int × Int)) (en : Int) (A2 : Option Addr) (c2 : Nat) (l : List Int) (W : World) (hA : Kd.C kSpan W A p.log.length p.log) (hw : Kd.C kSpan W A1 ws.length ws) (hl : Kd.C kInt W A2 l.length l) (hc : l.length ≤ c2) (hn : ws.length ≤ 9223372036854775807) (g : Nat) (hg : W.heap.size = g) :
    Calls Tryd.prog 60 #[p.val A c, .slice A1 ws.length c1, .int .i64 en, .slice (some ⟨g, 0, none⟩) 1 1] (W.alloc (.cells #[.slice A2 l.length c2] 26)) fun e w' => e = .returned (.int .i64 (askedF p ws en [l])) ∧ Below W.heap.size W w' := by
  subst hg
  have hb : Below W.heap.size W (W.alloc (.cells #[.slice A2 l.length c2] 26)) := (Below.refl _ _).alloc (Nat.le_refl _) _
  refine (asked_any p A c A1 c1 ws en (some ⟨W.heap.size, 0, none⟩) 1 [l] _ (Kd.C_below hA hb) (Kd.C_below hw hb) (one_case W A2 c2 l hl hc) hn (by simp)).mono ?_
  rintro e w' ⟨he, hb2⟩
  exact ⟨he, hb.trans (hb2.mono (by simp))⟩
/-- The same, where the case alone is asked for. -/
theorem asked_tld (p : Pil) (A : Option Addr) (c : Nat) (A1 : Option Addr) (c1 : Nat) (ws : List (Int × Int)) (A2 : Option Addr) (c2 : Nat) (l : List Int) (W : World) (hA : Kd.C kSpan W A p.log.length p.log) (hw : Kd.C kSpan W A1 ws.length ws) (hl : Kd.C kInt W A2 l.length l) (hc : l.length ≤ c2) (hn : ws.length ≤ 9223372036854775807) (g : Nat) (hg : W.heap.size = g) :
    Calls Tryd.prog 60 #[p.val A c, .slice A1 ws.length c1, .int .i64 (-1), .slice (some ⟨g, 0, none⟩) 1 1] (W.alloc (.cells #[.slice A2 l.length c2] 26)) fun e w' => e = .returned (.int .i64 (toldF p ws l)) ∧ Below W.heap.size W w' := by
  rw [← asked_told]
  exact asked_one p A c A1 c1 ws (-1) A2 c2 l W hA hw hl hc hn g hg
set_option maxRecDepth 100000 in
set_option maxHeartbeats 1600000 in
theorem ralive_any (p : Pil) (A : Option Addr) (c : Nat) (A1 : Option Addr) (c1 : Nat) (ws : List (Int × Int)) (A2 : Option Addr) (c2 : Nat) (l : List Int) (w : World) (hA : Kd.C kSpan w A p.log.length p.log) (hw : Kd.C kSpan w A1 ws.length ws) (hl : Kd.C kInt w A2 l.length l) (hcl2 : l.length ≤ c2) :
    Calls Tryd.prog 21 #[p.val A c, .slice A1 ws.length c1, .slice A2 l.length c2] w fun e w' => e = .returned (.tuple #[.bool (aliveR p ws l).1, .int .i64 (aliveR p ws l).2]) ∧ Below w.heap.size w w' := by
  have hbox : Below w.heap.size w (w.alloc (boxP p A c 24)) := (Below.refl _ _).alloc (Nat.le_refl _) _
  have HA := Lib.hid (Kd.C_below hA hbox)
  have HW := Lib.hid (Kd.C_below hw hbox)
  have HL := Lib.hid (Kd.C_below hl hbox)
  have HN := Lib.hid hw.2.1
  have HT := Lib.hid (asked_tld p A c A1 c1 ws A2 c2 l _ HA.out HW.out HL.out hcl2 HN.out (w.heap.size + 1) (by simp))
  clear hA hw hl
  rcases told_cases p ws l with ⟨h0, h1, h2, h3⟩ | h0
  · have hok := Lib.hid (ok_of_check h1)
    have H2 := Lib.hid h2
    have H3 := Lib.hid h3
    have hF := Lib.hid (show aliveR p ws l = (aliveF p ws l, 0) by simp [aliveR, h0])
    rw [h0] at HT
    clear h0 h1 h2 h3
    go_enter Tryd.func21, Tryd.ntmps21
    go_wp2_with (first | (go_at_call 60; refine HT.out.mono ?_; rintro e w1 ⟨rfl, hb⟩; obtain ⟨hc, hf⟩ := bcell hb) | (go_at_call 64; refine (rends_any p A c A1 _ ws A2 _ l _ hok.out H2.out H3.out (Kd.C_below HA.out hb) (Kd.C_below HW.out hb) (Kd.C_below HL.out hb)).mono ?_; rintro e w2 ⟨A', c', rfl, hr, hcl, hb2⟩))
    go_ret2
    rw [hF.out]
    exact ⟨rfl, (hbox.trans (hb.mono (by simp))).trans (hb2.mono (by have := hb.size; simp at this; omega))⟩
  · have hF := Lib.hid (show aliveR p ws l = (false, toldF p ws l) by simp [aliveR, h0])
    have hne : (toldF p ws l != 0) = true := by simpa using h0
    clear h0
    generalize toldF p ws l = E at *
    go_enter Tryd.func21, Tryd.ntmps21
    go_wp2_with (go_at_call 60; refine HT.out.mono ?_; rintro e w1 ⟨rfl, hb⟩; obtain ⟨hc, hf⟩ := bcell hb)
    go_ret2
    rw [hF.out]
    exact ⟨rfl, hbox.trans (hb.mono (by simp))⟩
set_option maxRecDepth 100000 in
set_option maxHeartbeats 1600000 in
theorem rloadsC_any (p : Pil) (A : Option Addr) (c : Nat) (A1 : Option Addr) (c1 : Nat) (ws : List (Int × Int)) (A2 : Option Addr) (c2 : Nat) (l : List Int) (w : World) (hA : Kd.C kSpan w A p.log.length p.log) (hw : Kd.C kSpan w A1 ws.length ws) (hl : Kd.C kInt w A2 l.length l) (hcl2 : l.length ≤ c2) :
    Calls Tryd.prog 23 #[p.val A c, .slice A1 ws.length c1, .slice A2 l.length c2] w fun e w' => ∃ A' c', e = .returned (.tuple #[.slice A' (loadsR p ws l).1.length c', .int .i64 (loadsR p ws l).2]) ∧ Kd.C kSpan w' A' (loadsR p ws l).1.length (loadsR p ws l).1 ∧ (loadsR p ws l).1.length ≤ c' ∧ Below w.heap.size w w' := by
  have hbox : Below w.heap.size w (w.alloc (boxP p A c 24)) := (Below.refl _ _).alloc (Nat.le_refl _) _
  have HA := Lib.hid (Kd.C_below hA hbox)
  have HW := Lib.hid (Kd.C_below hw hbox)
  have HL := Lib.hid (Kd.C_below hl hbox)
  have HN := Lib.hid hw.2.1
  have HT := Lib.hid (asked_tld p A c A1 c1 ws A2 c2 l _ HA.out HW.out HL.out hcl2 HN.out (w.heap.size + 1) (by simp))
  clear hA hw hl
  rcases told_cases p ws l with ⟨h0, h1, h2, h3⟩ | h0
  · have hok := Lib.hid (ok_of_check h1)
    have H2 := Lib.hid h2
    have H3 := Lib.hid h3
    have hF := Lib.hid (show loadsR p ws l = (endsF p ws l, if aliveF p ws l then 0 else 33) by simp [loadsR, h0])
    rw [h0] at HT
    clear h0 h1 h2 h3
    cases hal : aliveF p ws l
    · have hnil := Lib.hid (show endsF p ws l = [] by simp [endsF, hal])
      have HAL := Lib.hid hal
      clear hal
      go_enter Tryd.func23, Tryd.ntmps23
      go_wp2_with (first | (go_at_call 60; refine HT.out.mono ?_; rintro e w1 ⟨rfl, hb⟩; obtain ⟨hc, hf⟩ := bcell hb) | (go_at_call 64; refine (rends_any p A c A1 _ ws A2 _ l _ hok.out H2.out H3.out (Kd.C_below HA.out hb) (Kd.C_below HW.out hb) (Kd.C_below HL.out hb)).mono ?_; rw [HAL.out]; rintro e w2 ⟨A', c', rfl, hr, hcl, hb2⟩))
      go_ret2
      rw [hF.out, hnil.out, HAL.out]
      exact ⟨none, 0, rfl, Kd.C_nil _ _, Nat.le_refl _, (hbox.trans (hb.mono (by simp))).trans (hb2.mono (by have := hb.size; simp at this; omega))⟩
    · have HAL := Lib.hid hal
      clear hal
      go_enter Tryd.func23, Tryd.ntmps23
      go_wp2_with (first | (go_at_call 60; refine HT.out.mono ?_; rintro e w1 ⟨rfl, hb⟩; obtain ⟨hc, hf⟩ := bcell hb) | (go_at_call 64; refine (rends_any p A c A1 _ ws A2 _ l _ hok.out H2.out H3.out (Kd.C_below HA.out hb) (Kd.C_below HW.out hb) (Kd.C_below HL.out hb)).mono ?_; rw [HAL.out]; rintro e w2 ⟨A', c', rfl, hr, hcl, hb2⟩; have HR := Lib.hid hr; clear hr))
      go_ret2
      rw [hF.out, HAL.out]
      exact ⟨A', c', rfl, HR.out, hcl, (hbox.trans (hb.mono (by simp))).trans (hb2.mono (by have := hb.size; simp at this; omega))⟩
  · have hF := Lib.hid (show loadsR p ws l = ([], toldF p ws l) by simp [loadsR, h0])
    have hne : (toldF p ws l != 0) = true := by simpa using h0
    clear h0
    generalize toldF p ws l = E at *
    go_enter Tryd.func23, Tryd.ntmps23
    go_wp2_with (go_at_call 60; refine HT.out.mono ?_; rintro e w1 ⟨rfl, hb⟩; obtain ⟨hc, hf⟩ := bcell hb)
    go_ret2
    rw [hF.out]
    exact ⟨none, 0, rfl, Kd.C_nil _ _, Nat.le_refl _, hbox.trans (hb.mono (by simp))⟩
end Go.Proofs.YtiidkekmklbobaaDoor
set_option linter.unusedVariables false
set_option linter.unusedSimpArgs false
namespace Go.Proofs.YtiidkekmklbobaaDoor
open Go.RowKit Go.Proofs.YtiidkekmklbobaaDoorW.PrintWords
attribute [local go_sem] mx_two mn_two blk_add
def sumF (ws : List (Int × Int)) (i : Nat) : Nat → Int × Int
  | 0 => (0, 0)
  | d + 1 => ((sumF ws i d).1 + (sp ws (i + d)).1, (sumF ws i d).2 + (sp ws (i + d)).2)
theorem acc_sum (p : Pil) (ws : List (Int × Int)) (l : List Int) (i d : Nat) : accF p ws l i d = ((loadsF p i (at0 l i)).1 + (sumF ws i d).1, (loadsF p i (at0 l i)).2 + (sumF ws i d).2) := by
  induction d with
  | zero => simp [accF, sumF]
  | succ d ih => simp only [accF, sumF, ih]; ext <;> dsimp only <;> omega
theorem sum_bd (p : Pil) (ws : List (Int × Int)) (hw : weatherB p ws = true) (i d : Nat) : -(65536 * d) ≤ (sumF ws i d).1 ∧ (sumF ws i d).1 ≤ (sumF ws i d).2 ∧ (sumF ws i d).2 ≤ 65536 * d := by
  induction d with
  | zero => simp [sumF]
  | succ d ih => have := weather_at hw (i + d); simp only [sumF]; omega
theorem loads_ne0 (p : Pil) (hp : Ok p) (i : Nat) (st : Int) : (loadsF p i st).1 ≤ (loadsF p i st).2 := by
  have := hp.w i
  have h1 := hp.n0
  have h2 := hp.n1
  have h3 := hp.s0
  have h4 := hp.s1
  change 0 ≤ p.wt i ∧ p.wt i ≤ 65536 at this
  unfold loadsF
  split
  · dsimp only; omega
  · split
    · dsimp only; omega
    · decide
def againstB (p : Pil) (ws : List (Int × Int)) (l : List Int) (i k : Nat) : Bool :=
  decide ((loadsF p k (at0 l k)).2 - (loadsF p i (at0 l i)).1 < (sumF ws i (k - i)).1) || decide ((sumF ws i (k - i)).2 < (loadsF p k (at0 l k)).1 - (loadsF p i (at0 l i)).2)
theorem against_eq (p : Pil) (ws : List (Int × Int)) (hp : Ok p) (hw : weatherB p ws = true) (l : List Int) (i k : Nat) : againstB p ws l i k = contraB p ws l i k := by
  have h1 := loads_ne0 p hp i (at0 l i)
  have h2 := loads_ne0 p hp k (at0 l k)
  have h3 := sum_bd p ws hw i (k - i)
  unfold againstB contraB
  rw [acc_sum]
  rw [Bool.eq_iff_iff]
  simp only [Bool.or_eq_true, decide_eq_true_eq]
  omega
set_option maxRecDepth 100000 in
set_option maxHeartbeats 3200000 in
theorem against_any (p : Pil) (A : Option Addr) (c : Nat) (A1 : Option Addr) (c1 : Nat) (ws : List (Int × Int)) (A2 : Option Addr) (c2 : Nat) (l : List Int) (i k : Nat) (w : World) (hik : i < k) (hkl : k < l.length) (hp : Ok p) (hwe : weatherB p ws = true) (hca : caseB p l = true) (hA : Kd.C kSpan w A p.log.length p.log) (hw : Kd.C kSpan w A1 ws.length ws) (hl : Kd.C kInt w A2 l.length l) :
    Calls Tryd.prog 69 #[p.val A c, .slice A1 ws.length c1, .slice A2 l.length c2, .int .i64 i, .int .i64 k] w fun e w' => e = .returned (.bool (contraB p ws l i k)) ∧ Below w.heap.size w w' := by
  have hlen : l.length = p.log.length := by
    simp only [caseB, Bool.and_eq_true, beq_iff_eq] at hca
    exact hca.1
  have hwl : ws.length = p.log.length - 1 := by
    simp only [weatherB, Bool.and_eq_true, beq_iff_eq] at hwe
    exact hwe.1
  have hL := hp.l
  have hle : l.length ≤ 32 := by omega
  have hbox : Below w.heap.size w (w.alloc (boxP p A c 24)) := (Below.refl _ _).alloc (Nat.le_refl _) _
  have HA := Lib.hid (Kd.C_below hA hbox)
  have HW := Lib.hid (Kd.C_below hw hbox)
  have HL := Lib.hid (Kd.C_below hl hbox)
  have HP := Lib.hid hp
  have HCA := Lib.hid hca
  have HWE := Lib.hid hwe
  have HN := Lib.hid hlen
  have HWL := Lib.hid hwl
  have HEQ := Lib.hid (against_eq p ws hp hwe l i k)
  clear hA hw hl hp hca hwe hlen hwl
  have HLO : ∀ n, n < l.length → Hid (∀ w2, Below (w.heap.size + 1) (w.alloc (boxP p A c 24)) w2 → Calls Tryd.prog 79 #[p.val A c, .int .i64 (at0 l n), .int .i64 n] w2 fun e w' => e = .returned (spv (loadsF p n (at0 l n)).1 (loadsF p n (at0 l n)).2) ∧ Below w2.heap.size w2 w') := fun n hn w2 hb2 => by
    obtain ⟨hs0, hs1⟩ := case_st HCA.out n hn
    exact allowed_any p A c n _ w2 HP.out (Kd.C_below HA.out (hb2.mono (by simp))) (by have := HN.out; omega) hs0 hs1
  have HLI := HLO i (by omega)
  have HLK := HLO k hkl
  clear HLO
  have HSZ : Hid (∀ w2, Below (w.heap.size + 1) (w.alloc (boxP p A c 24)) w2 → w.heap.size + 1 ≤ w2.heap.size) := fun w2 hb2 => by have := hb2.size; simpa using this
  go_enter Tryd.func69, Tryd.ntmps69
  go_wp2
  go_loopw [12] (fun vn wr => ∃ n : Nat, i ≤ n ∧ n ≤ k ∧ vn = .int .i64 n ∧ Hid (Blk wr (w.heap.size + 1) 42 (sc [sumF ws i (n - i)])) ∧ Below (w.heap.size + 1) (w.alloc (boxP p A c 24)) wr)
    (fun vn _ => k - (intOf vn).toNat)
  case atStart =>
    refine ⟨i, by omega, by omega, rfl, ?_, (Below.refl _ _).alloc (by simp) _⟩
    rw [Nat.sub_self]
    have h := Blk.new (w.alloc (boxP p A c 24)) 42 (sc [(0, 0)])
    rw [show (w.alloc (boxP p A c 24)).heap.size = w.heap.size + 1 by simp] at h
    exact h
  case round =>
    obtain ⟨n, hn1, hn2, rfl, hblk, hb⟩ := hrel
    have hz : w.heap.size + 1 ≤ wr.heap.size := HSZ.out _ hb
    have hgz := hblk.out.lt
    obtain ⟨hc, hf⟩ := bcell1 hb
    have hsm := sum_bd p ws HWE.out i (n - i)
    have b1 : wr.cell? ⟨w.heap.size + 1, 0, none⟩ = some (.int .i64 (sumF ws i (n - i)).1) := hblk.out.cell 0
    have b2 : wr.cell? ⟨w.heap.size + 1, 1, none⟩ = some (.int .i64 (sumF ws i (n - i)).2) := hblk.out.cell 1
    by_cases hnk : n < k
    · obtain ⟨adw, rfl, q1, q2⟩ := at_span (Kd.C_below HW.out (hb.mono (by simp))) n (by have := HN.out; have := HWL.out; omega)
      change _ = some (Value.int .i64 (sp ws n).1) at q1
      change _ = some (Value.int .i64 (sp ws n).2) at q2
      have hsb := weather_at HWE.out n
      have HAC := Lib.hid (show sumF ws i (n + 1 - i) = ((sumF ws i (n - i)).1 + (sp ws n).1, (sumF ws i (n - i)).2 + (sp ws n).2) by
        rw [show n + 1 - i = (n - i) + 1 by omega]
        show ((sumF ws i (n - i)).1 + (sp ws (i + (n - i))).1, (sumF ws i (n - i)).2 + (sp ws (i + (n - i))).2) = _
        rw [show i + (n - i) = n by omega])
      have i5 : n < ws.length := by have := HWL.out; have := HN.out; omega
      have i6 : (n : Int) < (ws.length : Int) := by omega
      have hd32 : n - i ≤ 32 := by omega
      have g1 : IntKind.i64.wrap ((sumF ws i (n - i)).1 + (sp ws n).1) = (sumF ws i (n - i)).1 + (sp ws n).1 := IntWalk.i64_in _ (by omega)
      have g2 : IntKind.i64.wrap ((sumF ws i (n - i)).2 + (sp ws n).2) = (sumF ws i (n - i)).2 + (sp ws n).2 := IntWalk.i64_in _ (by omega)
      clear hsb hsm
      generalize (sumF ws i (n - i)).1 = F1 at *
      generalize (sumF ws i (n - i)).2 = F2 at *
      generalize (sp ws n).1 = S1 at *
      generalize (sp ws n).2 = S2 at *
      have HT : Hid (∀ w3, Below wr.heap.size wr w3 → w3.cell? ⟨w.heap.size + 1, 0, none⟩ = some (.int .i64 F1) ∧ w3.cell? ⟨w.heap.size + 1, 1, none⟩ = some (.int .i64 F2) ∧ w3.cell? (adw.add (n * 2)) = some (.int .i64 S1) ∧ w3.cell? ⟨adw.block, (adw.add (n * 2)).off + 1, none⟩ = some (.int .i64 S2)) := fun w3 hb3 =>
        ⟨pw_cell_below hb3 b1, pw_cell_below hb3 b2, pw_cell_below hb3 q1, pw_cell_below hb3 q2⟩
      clear q1 q2 b1 b2 hc hf
      go_wp2
      refine wp_region_tail 17 (fun w3 => Below wr.heap.size wr w3) (by kernel_rfl) (by kernel_rfl) (below_drew (Below.refl _ _)) ?_
      simp only [List.take_succ_cons, List.take_zero, List.drop_succ_cons, List.drop_zero]
      repeat (refine wpQuiet_step (fun K hK => ?_); go_simp; (first | (refine hK _ ?_) | (refine ⟨_, fun _ _ => rfl, hK _ ?_⟩) | (apply Exists.intro; refine ⟨fun w3 hw3 => ?_, hK _ ?_⟩; focus (have t1 := (HT.out w3 hw3).1; have t2 := (HT.out w3 hw3).2.1; have t3 := (HT.out w3 hw3).2.2.1; have t4 := (HT.out w3 hw3).2.2.2; first | (go_simp; done) | (go_simp; rfl)))); clear hK K)
      refine wpQuiet_nil ?_
      intro w3 hw3
      have hfB := (hblk.out.below hw3).frozen
      have c1' := (HT.out w3 hw3).1
      have c2' := (HT.out w3 hw3).2.1
      go_wp2_with fail
      go_roundw
      case rel =>
        refine ⟨n + 1, by omega, by omega, by go_num, ?_, ((hb.trans (hw3.mono hz)).setCell (by simp) _).setCell (by simp) _⟩
        have h := (hblk.out.below hw3).set2 0 (F1 + S1) (F2 + S2)
        rw [HAC.out]
        show Blk _ _ _ _
        simpa using h
      case measure => simp [intOf]; omega
    · obtain rfl : n = k := by omega
      have hi5 : (i : Int) < (l.length : Int) := by omega
      have hk5 : (n : Int) < (l.length : Int) := by omega
      obtain ⟨adi, ei, qi⟩ := at_i (Kd.C_below HL.out (hb.mono (by simp))) i (by omega)
      obtain ⟨adk, ek, qk⟩ := at_i (Kd.C_below HL.out (hb.mono (by simp))) n hkl
      subst ei
      obtain rfl := Option.some.inj ek
      change _ = some (Value.int .i64 (at0 l i)) at qi
      change _ = some (Value.int .i64 (at0 l n)) at qk
      have HB := Lib.hid (show againstB p ws l i n = (decide ((loadsF p n (at0 l n)).2 - (loadsF p i (at0 l i)).1 < (sumF ws i (n - i)).1) || decide ((sumF ws i (n - i)).2 < (loadsF p n (at0 l n)).1 - (loadsF p i (at0 l i)).2)) from rfl)
      have hbi := loads_bd p HP.out i (at0 l i)
      have hbk := loads_bd p HP.out n (at0 l n)
      have HTB : Hid (∀ w2, Below wr.heap.size wr w2 → Below (w.heap.size + 1) (w.alloc (boxP p A c 24)) w2) := fun w2 hb2 => hb.trans (hb2.mono hz)
      have HT : Hid (∀ w3, Below wr.heap.size wr w3 → w3.cell? ⟨w.heap.size, 0, none⟩ = some (.int .i64 p.no) ∧ w3.cell? ⟨w.heap.size, 1, none⟩ = some (.int .i64 p.cell) ∧ w3.cell? ⟨w.heap.size, 2, none⟩ = some (.int .i64 p.noise) ∧ w3.cell? ⟨w.heap.size, 3, none⟩ = some (.int .i64 p.slab) ∧ w3.cell? ⟨w.heap.size, 4, none⟩ = some (.int .i64 p.jump) ∧ w3.cell? ⟨w.heap.size, 5, none⟩ = some (.int .i64 p.faults) ∧ w3.cell? ⟨w.heap.size, 6, none⟩ = some (.slice A p.log.length c) ∧ w3.cell? (adi.add i) = some (.int .i64 (at0 l i)) ∧ w3.cell? (adi.add n) = some (.int .i64 (at0 l n))) := fun w3 hb3 => by
        have hk : ∀ j, j < 7 → w3.cell? ⟨w.heap.size, j, none⟩ = #[.int .i64 p.no, .int .i64 p.cell, .int .i64 p.noise, .int .i64 p.slab, .int .i64 p.jump, .int .i64 p.faults, .slice A p.log.length c][j]? := fun j hj => by
          rw [hb3.cell (p := ⟨w.heap.size, j, none⟩) (by simp; omega), hc _ _ (by omega)]; simp
        exact ⟨hk 0 (by omega), hk 1 (by omega), hk 2 (by omega), hk 3 (by omega), hk 4 (by omega), hk 5 (by omega), hk 6 (by omega), pw_cell_below hb3 qi, pw_cell_below hb3 qk⟩
      clear qi qk hc hf
      generalize loadsF p i (at0 l i) = X at *
      generalize loadsF p n (at0 l n) = Y at *
      generalize sumF ws i (n - i) = S at *
      obtain ⟨X1, X2⟩ := X
      obtain ⟨Y1, Y2⟩ := Y
      obtain ⟨S1, S2⟩ := S
      dsimp only at *
      go_upto_region 6 with fail
      go_cut [13] (fun v13 wc => ∃ g, v13 = .pointer (some ⟨g, 0, none⟩) ∧ wr.heap.size ≤ g ∧ Hid (Blk wc g 42 (sc [(X1, X2)])) ∧ Below wr.heap.size wr wc)
      case first =>
        go_region_held3 (fun w3 => w3.cell? ⟨w.heap.size, 0, none⟩ = some (.int .i64 p.no) ∧ w3.cell? ⟨w.heap.size, 1, none⟩ = some (.int .i64 p.cell) ∧ w3.cell? ⟨w.heap.size, 2, none⟩ = some (.int .i64 p.noise) ∧ w3.cell? ⟨w.heap.size, 3, none⟩ = some (.int .i64 p.slab) ∧ w3.cell? ⟨w.heap.size, 4, none⟩ = some (.int .i64 p.jump) ∧ w3.cell? ⟨w.heap.size, 5, none⟩ = some (.int .i64 p.faults) ∧ w3.cell? ⟨w.heap.size, 6, none⟩ = some (.slice A p.log.length c) ∧ w3.cell? (adi.add i) = some (.int .i64 (at0 l i)) ∧ w3.cell? (adi.add n) = some (.int .i64 (at0 l n))) (exact HT.out _ (by repeat (first | exact Below.refl _ _ | refine below_drew ?_ | refine Below.alloc ?_ (by first | (simp; done) | (simp; omega) | omega) _ | refine Below.setCell ?_ (by first | (simp; done) | (simp; omega) | omega) _ | refine Below.trans ?_ (hb1.mono (by first | (simp; done) | (simp; omega) | omega))))) (first | (go_at_call 79; refine (HLI.out _ (HTB.out _ (by repeat (first | exact Below.refl _ _ | refine below_drew ?_ | refine Below.alloc ?_ (by first | (simp; done) | (simp; omega) | omega) _ | refine Below.setCell ?_ (by first | (simp; done) | (simp; omega) | omega) _ | refine Below.trans ?_ (hb1.mono (by first | (simp; done) | (simp; omega) | omega)))))).mono ?_; rintro e w1 ⟨rfl, hb1⟩; have hs1 : wr.heap.size ≤ w1.heap.size := (by have h := hb1.size; simp at h; omega); obtain ⟨hc1, hf1⟩ := bcell hb1))
        all_goals (go_wp2_with fail; go_meet)
        · exact ⟨_, rfl, by omega, Blk.new w1 42 (sc [(X1, X2)]), by repeat (first | exact Below.refl _ _ | refine below_drew ?_ | refine Below.alloc ?_ (by first | (simp; done) | (simp; omega) | omega) _ | refine Below.setCell ?_ (by first | (simp; done) | (simp; omega) | omega) _ | refine Below.trans ?_ (hb1.mono (by first | (simp; done) | (simp; omega) | omega)))⟩
        · refine ⟨_, rfl, by omega, ?_, by repeat (first | exact Below.refl _ _ | refine below_drew ?_ | refine Below.alloc ?_ (by first | (simp; done) | (simp; omega) | omega) _ | refine Below.setCell ?_ (by first | (simp; done) | (simp; omega) | omega) _ | refine Below.trans ?_ (hb1.mono (by first | (simp; done) | (simp; omega) | omega)))⟩
          have h := (Blk.new wr 42 (sc [(0, 0)])).below (w' := w1) ⟨hb1.os, hb1.tape, hb1.output, hb1.size, hb1.block⟩
          have h2 := h.set2 0 X1 X2
          show Blk _ _ _ _
          simpa using h2
      case rest =>
        obtain ⟨gx, rfl, hgx, hbx, hwc⟩ := hcut
        obtain ⟨wk, rfl⟩ : ∃ wk : World, wk = wc := ⟨_, rfl⟩
        have hsc := hwc.size
        have hgxl := hbx.out.lt
        go_upto_region 7 with fail
        go_cut [14] (fun v14 wd => ∃ g, v14 = .pointer (some ⟨g, 0, none⟩) ∧ wk.heap.size ≤ g ∧ Hid (Blk wd g 42 (sc [(Y1, Y2)])) ∧ Below wk.heap.size wk wd)
        case first =>
          have HTC : Hid (∀ w2, Below wk.heap.size wk w2 → Below wr.heap.size wr w2) := fun w2 hb2 => hwc.trans (hb2.mono hsc)
          go_region_held3 (fun w3 => w3.cell? ⟨w.heap.size, 0, none⟩ = some (.int .i64 p.no) ∧ w3.cell? ⟨w.heap.size, 1, none⟩ = some (.int .i64 p.cell) ∧ w3.cell? ⟨w.heap.size, 2, none⟩ = some (.int .i64 p.noise) ∧ w3.cell? ⟨w.heap.size, 3, none⟩ = some (.int .i64 p.slab) ∧ w3.cell? ⟨w.heap.size, 4, none⟩ = some (.int .i64 p.jump) ∧ w3.cell? ⟨w.heap.size, 5, none⟩ = some (.int .i64 p.faults) ∧ w3.cell? ⟨w.heap.size, 6, none⟩ = some (.slice A p.log.length c) ∧ w3.cell? (adi.add i) = some (.int .i64 (at0 l i)) ∧ w3.cell? (adi.add n) = some (.int .i64 (at0 l n))) (exact HT.out _ (HTC.out _ (by repeat (first | exact Below.refl _ _ | refine below_drew ?_ | refine Below.alloc ?_ (by first | (simp; done) | (simp; omega) | omega) _ | refine Below.setCell ?_ (by first | (simp; done) | (simp; omega) | omega) _ | refine Below.trans ?_ (hb1.mono (by first | (simp; done) | (simp; omega) | omega)))))) (first | (go_at_call 79; refine (HLK.out _ (HTB.out _ (HTC.out _ (by repeat (first | exact Below.refl _ _ | refine below_drew ?_ | refine Below.alloc ?_ (by first | (simp; done) | (simp; omega) | omega) _ | refine Below.setCell ?_ (by first | (simp; done) | (simp; omega) | omega) _ | refine Below.trans ?_ (hb1.mono (by first | (simp; done) | (simp; omega) | omega))))))).mono ?_; rintro e w1 ⟨rfl, hb1⟩; have hs1 : wk.heap.size ≤ w1.heap.size := (by have h := hb1.size; simp at h; omega); obtain ⟨hc1, hf1⟩ := bcell hb1))
          all_goals (go_wp2_with fail; go_meet)
          · exact ⟨_, rfl, by omega, Blk.new w1 42 (sc [(Y1, Y2)]), by repeat (first | exact Below.refl _ _ | refine below_drew ?_ | refine Below.alloc ?_ (by first | (simp; done) | (simp; omega) | omega) _ | refine Below.setCell ?_ (by first | (simp; done) | (simp; omega) | omega) _ | refine Below.trans ?_ (hb1.mono (by first | (simp; done) | (simp; omega) | omega)))⟩
          · refine ⟨_, rfl, by omega, ?_, by repeat (first | exact Below.refl _ _ | refine below_drew ?_ | refine Below.alloc ?_ (by first | (simp; done) | (simp; omega) | omega) _ | refine Below.setCell ?_ (by first | (simp; done) | (simp; omega) | omega) _ | refine Below.trans ?_ (hb1.mono (by first | (simp; done) | (simp; omega) | omega)))⟩
            have h := (Blk.new wk 42 (sc [(0, 0)])).below (w' := w1) ⟨hb1.os, hb1.tape, hb1.output, hb1.size, hb1.block⟩
            have h2 := h.set2 0 Y1 Y2
            show Blk _ _ _ _
            simpa using h2
        case rest =>
          obtain ⟨gy, rfl, hgy, hby, hwd⟩ := hcut
          have x1 : wc.cell? ⟨gx, 0, none⟩ = some (.int .i64 X1) := pw_cell_below hwd (hbx.out.cell 0)
          have x2 : wc.cell? ⟨gx, 1, none⟩ = some (.int .i64 X2) := pw_cell_below hwd (hbx.out.cell 1)
          have y1 : wc.cell? ⟨gy, 0, none⟩ = some (.int .i64 Y1) := hby.out.cell 0
          have y2 : wc.cell? ⟨gy, 1, none⟩ = some (.int .i64 Y2) := hby.out.cell 1
          have z1 : wc.cell? ⟨w.heap.size + 1, 0, none⟩ = some (.int .i64 S1) := pw_cell_below hwd (pw_cell_below hwc b1)
          have z2 : wc.cell? ⟨w.heap.size + 1, 1, none⟩ = some (.int .i64 S2) := pw_cell_below hwd (pw_cell_below hwc b2)
          have hend : Below w.heap.size w wc := hbox.trans ((hb.trans ((hwc.trans (hwd.mono hsc)).mono hz)).mono (by omega))
          by_cases hlt : Y2 - X1 < S1
          · go_wp2
            go_ret
            exact ⟨ret_bool (by rw [← HEQ.out, HB.out]; simp [hlt]), hend⟩
          · have hlt2 : decide (Y2 - X1 < S1) = false := by simpa using hlt
            go_wp2
            go_ret
            exact ⟨ret_bool (by rw [← HEQ.out, HB.out, hlt2]; simp), hend⟩
end Go.Proofs.YtiidkekmklbobaaDoor
set_option linter.unusedVariables false
set_option linter.unusedSimpArgs false
namespace Go.Proofs.YtiidkekmklbobaaDoor
open Go.RowKit Go.Proofs.YtiidkekmklbobaaDoorW.PrintWords
attribute [local go_sem] mx_two mn_two blk_add
set_option maxRecDepth 100000 in
set_option maxHeartbeats 1600000 in
theorem rrefute_any (p : Pil) (A : Option Addr) (c : Nat) (A1 : Option Addr) (c1 : Nat) (ws : List (Int × Int)) (A2 : Option Addr) (c2 : Nat) (l : List Int) (w : World) (hA : Kd.C kSpan w A p.log.length p.log) (hw : Kd.C kSpan w A1 ws.length ws) (hl : Kd.C kInt w A2 l.length l) (hcl2 : l.length ≤ c2) :
    Calls Tryd.prog 33 #[p.val A c, .slice A1 ws.length c1, .slice A2 l.length c2] w fun e w' => e = .returned (refuteV (refuteR p ws l)) ∧ Below w.heap.size w w' := by
  have hbox : Below w.heap.size w ((w.alloc (boxP p A c 24)).alloc (.cells #[.int .i64 0, .int .i64 0] 49)) := ((Below.refl _ _).alloc (Nat.le_refl _) _).alloc (by simp) _
  have HA := Lib.hid (Kd.C_below hA hbox)
  have HW := Lib.hid (Kd.C_below hw hbox)
  have HL := Lib.hid (Kd.C_below hl hbox)
  have HN := Lib.hid hw.2.1
  have HT := Lib.hid (asked_tld p A c A1 c1 ws A2 c2 l _ HA.out HW.out HL.out hcl2 HN.out (w.heap.size + 1 + 1) (by simp))
  clear hA hw hl
  rcases told_cases p ws l with ⟨h0, h1, h2, h3⟩ | h0
  · have hok := Lib.hid (ok_of_check h1)
    have H2 := Lib.hid h2
    have H3 := Lib.hid h3
    have HE0 := Lib.hid h0
    rw [h0] at HT
    clear h0 h1 h2 h3
    go_enter Tryd.func33, Tryd.ntmps33
    go_wp2_with (first | (go_at_call 60; refine HT.out.mono ?_; rintro e w1 ⟨rfl, hb⟩; obtain ⟨hc, hf⟩ := bcell hb))
    have hlen : l.length = p.log.length := by
      have hca := H3.out
      simp only [caseB, Bool.and_eq_true, beq_iff_eq] at hca
      exact hca.1
    have hL := hok.out.l
    have hle : l.length ≤ 32 := by omega
    have HLEN := Lib.hid hlen
    clear hlen hc hf HT
    have hbR := Lib.hid ((Blk.new (w.alloc (boxP p A c 24)) 49 [.int .i64 0, .int .i64 0]).below hb)
    have hbS := Lib.hid (((Blk.new w 24 [.int .i64 p.no, .int .i64 p.cell, .int .i64 p.noise, .int .i64 p.slab, .int .i64 p.jump, .int .i64 p.faults, .slice A p.log.length c]).alloc (.cells #[.int .i64 0, .int .i64 0] 49)).below hb)
    have hW2 : Below w.heap.size w w1 := hbox.trans (hb.mono (by simp; omega))
    rw [show (w.alloc (boxP p A c 24)).heap.size = w.heap.size + 1 by simp] at hbR
    have HA2 := Lib.hid (Kd.C_below HA.out hb)
    have HW2 := Lib.hid (Kd.C_below HW.out hb)
    have HL2 := Lib.hid (Kd.C_below HL.out hb)
    clear hb HA HW HL hbox HN
    obtain ⟨W2, rfl⟩ : ∃ W2 : World, W2 = w1 := ⟨_, rfl⟩
    have z0 := hW2.size
    have z1 := hbR.out.lt
    have z2 := hbS.out.lt
    have r0 : ∀ j, W2.frozen? ⟨w.heap.size + 1, j, none⟩ = false := hbR.out.frozen
    have q0 : W2.cell? ⟨w.heap.size + 1, 0, none⟩ = some (.int .i64 0) := hbR.out.cell 0
    have q1 : W2.cell? ⟨w.heap.size + 1, 1, none⟩ = some (.int .i64 0) := hbR.out.cell 1
    have s0 : W2.cell? ⟨w.heap.size, 0, none⟩ = some (.int .i64 p.no) := hbS.out.cell 0
    have s1 : W2.cell? ⟨w.heap.size, 1, none⟩ = some (.int .i64 p.cell) := hbS.out.cell 1
    have s2 : W2.cell? ⟨w.heap.size, 2, none⟩ = some (.int .i64 p.noise) := hbS.out.cell 2
    have s3 : W2.cell? ⟨w.heap.size, 3, none⟩ = some (.int .i64 p.slab) := hbS.out.cell 3
    have s4 : W2.cell? ⟨w.heap.size, 4, none⟩ = some (.int .i64 p.jump) := hbS.out.cell 4
    have s5 : W2.cell? ⟨w.heap.size, 5, none⟩ = some (.int .i64 p.faults) := hbS.out.cell 5
    have s6 : W2.cell? ⟨w.heap.size, 6, none⟩ = some (.slice A p.log.length c) := hbS.out.cell 6
    have HCo : Hid (∀ i k w2, i < k → k < l.length → Below W2.heap.size W2 w2 → Calls Tryd.prog 69 #[p.val A c, .slice A1 ws.length c1, .slice A2 l.length c2, .int .i64 i, .int .i64 k] w2 fun e w' => e = .returned (.bool (contraB p ws l i k)) ∧ Below w2.heap.size w2 w') := fun i k w2 h1 h2 hb2 =>
      against_any p A c A1 c1 ws A2 c2 l i k w2 h1 h2 hok.out H2.out H3.out (Kd.C_below HA2.out hb2) (Kd.C_below HW2.out hb2) (Kd.C_below HL2.out hb2)
    have hF : Hid (refuteR p ws l = match refuteF p ws l with | some x => (((x.1 : Int), (x.2 : Int)), true, 0) | none => ((0, 0), false, 0)) := by
      show refuteR p ws l = _
      unfold refuteR; rw [if_pos HE0.out]; rfl
    clear HA2 HW2 HL2
    go_loopw [10] (fun vi wr => ∃ i : Nat, i ≤ l.length ∧ vi = .int .i64 i ∧ Below W2.heap.size W2 wr ∧ Hid (∀ i', i' < i → ∀ k', i' < k' → k' < l.length → contraB p ws l i' k' = false))
      (fun vi _ => l.length - (intOf vi).toNat)
    case atStart => exact ⟨0, Nat.zero_le _, rfl, Below.refl _ _, fun i h => absurd h (by omega)⟩
    case round =>
      obtain ⟨i, hi, rfl, hb, hall⟩ := hrel
      obtain ⟨hc, hf⟩ := bcell hb
      have hz := hb.size
      by_cases hlt : i < l.length
      · go_wp2
        obtain ⟨wo, rfl⟩ : ∃ wo : World, wo = wr := ⟨_, rfl⟩
        go_loopw [11] (fun vk wr => ∃ k : Nat, i < k ∧ k ≤ l.length ∧ vk = .int .i64 k ∧ Below W2.heap.size W2 wr ∧ Hid (∀ k', i < k' → k' < k → contraB p ws l i k' = false))
          (fun vk _ => l.length - (intOf vk).toNat)
        case atStart => exact ⟨i + 1, by omega, by omega, by go_num, hb, fun k' h h2 => absurd h (by omega)⟩
        case round =>
          clear hb hc hf hz
          obtain ⟨k, hik, hk, rfl, hb, hall2⟩ := hrel
          obtain ⟨hc, hf⟩ := bcell hb
          have hz := hb.size
          by_cases hkl : k < l.length
          · have HC := Lib.hid (HCo.out i k wr hik hkl hb)
            cases hcb : contraB p ws l i k
            · have HCB := Lib.hid hcb
              clear hcb
              go_wp2_with (go_at_call 69; refine HC.out.mono ?_; rw [HCB.out]; rintro e w3 ⟨rfl, hb3⟩)
              go_roundw
              case rel => exact ⟨k + 1, by omega, by omega, by go_num, hb.trans (hb3.mono hz), fun k' h h2 => by
                rcases Nat.lt_or_ge k' k with h3 | h3
                · exact hall2.out k' h h3
                · obtain rfl : k' = k := by omega
                  exact HCB.out⟩
              case measure => simp [intOf]; omega
            · have HCB := Lib.hid hcb
              have hR := Lib.hid (show refuteF p ws l = some (i, k) from pair_some hik hkl hall.out hall2.out hcb)
              clear hcb
              go_wp2_with (go_at_call 69; refine HC.out.mono ?_; rw [HCB.out]; rintro e w3 ⟨rfl, hb3⟩; obtain ⟨hc3, hf3⟩ := bcell (hb.trans (hb3.mono hz)))
              refine bodyPost_ret (v := .tuple #[spv i k, .bool true, .int .i64 0]) (by simp [results, Tryd.results33, go_sem, hc3, hf3, q0, q1, z1]) rfl ⟨?_, ?_⟩
              · rw [hF.out, hR.out]; rfl
              · exact ((hW2.trans ((hb.trans (hb3.mono hz)).mono z0)).setCell (by simp) _).setCell (by simp) _
          · obtain rfl : k = l.length := by omega
            go_wp2
            go_roundw
            case rel => exact ⟨i + 1, by omega, by go_num, hb, fun i' h k' h1 h2 => by
              rcases Nat.lt_or_ge i' i with h3 | h3
              · exact hall.out i' h3 k' h1 h2
              · obtain rfl : i' = i := by omega
                exact hall2.out k' h1 h2⟩
            case measure => simp [intOf]; omega
      · obtain rfl : i = l.length := by omega
        have hR := Lib.hid (show refuteF p ws l = none from pair_none hall.out)
        go_wp2
        refine bodyPost_ret (v := .tuple #[spv 0 0, .bool false, .int .i64 0]) (by simp [results, Tryd.results33, go_sem, hc, hf, q0, q1, z1]) rfl ⟨?_, ?_⟩
        · rw [hF.out, hR.out]; rfl
        · exact ((hW2.trans (hb.mono z0)).setCell (by simp) _).setCell (by simp) _
  · have hF := Lib.hid (show refuteR p ws l = ((0, 0), false, toldF p ws l) by simp [refuteR, h0])
    have hne : (toldF p ws l != 0) = true := by simpa using h0
    clear h0
    generalize toldF p ws l = E at *
    go_enter Tryd.func33, Tryd.ntmps33
    go_wp2_with (go_at_call 60; refine HT.out.mono ?_; rintro e w1 ⟨rfl, hb⟩; obtain ⟨hc, hf⟩ := bcell hb)
    refine bodyPost_ret (v := .tuple #[spv 0 0, .bool false, .int .i64 E]) (by simp [results, Tryd.results33, go_sem, hc, hf]) rfl ⟨?_, ?_⟩
    · rw [hF.out]; rfl
    · exact ((hbox.trans (hb.mono (by simp; omega))).setCell (by simp) _).setCell (by simp) _
/-! ## CheckRefute -/
def pairB (p : Pil) (ws : List (Int × Int)) (l : List Int) (x1 x2 : Int) : Bool := decide (0 ≤ x1) && (decide (x1 < x2) && (decide (x2 < l.length) && contraB p ws l x1.toNat x2.toNat))
def chkrefF (p : Pil) (ws : List (Int × Int)) (l : List Int) (x1 x2 : Int) : Int := if toldF p ws l = 0 then (if pairB p ws l x1 x2 then 0 else 33) else toldF p ws l
theorem pair_no {p : Pil} {ws : List (Int × Int)} {l : List Int} {x1 x2 : Int} (h0 : toldF p ws l = 0) (h : x1 < 0 ∨ x2 ≤ x1 ∨ (l.length : Int) ≤ x2) : chkrefF p ws l x1 x2 = 33 := by
  unfold chkrefF
  rw [if_pos h0, if_neg]
  simp only [pairB, Bool.and_eq_true, decide_eq_true_eq]
  omega
theorem pair_is {p : Pil} {ws : List (Int × Int)} {l : List Int} {i k : Nat} (h0 : toldF p ws l = 0) (h : i < k) (h2 : k < l.length) : chkrefF p ws l i k = if contraB p ws l i k then 0 else 33 := by
  unfold chkrefF
  have : pairB p ws l i k = contraB p ws l i k := by
    simp only [pairB, Int.toNat_natCast]
    rw [decide_eq_true (show (0 : Int) ≤ (i : Int) by omega), decide_eq_true (show (i : Int) < (k : Int) by omega), decide_eq_true (show (k : Int) < (l.length : Int) by omega)]
    rfl
  rw [if_pos h0, this]
set_option maxRecDepth 100000 in
set_option maxHeartbeats 1600000 in
theorem chkref_any (p : Pil) (A : Option Addr) (c : Nat) (A1 : Option Addr) (c1 : Nat) (ws : List (Int × Int)) (A2 : Option Addr) (c2 : Nat) (l : List Int) (x1 x2 : Int) (w : World) (hA : Kd.C kSpan w A p.log.length p.log) (hw : Kd.C kSpan w A1 ws.length ws) (hl : Kd.C kInt w A2 l.length l) :
    Calls Tryd.prog 34 #[p.val A c, .slice A1 ws.length c1, .slice A2 l.length c2, spv x1 x2] w fun e w' => e = .returned (.int .i64 (chkrefF p ws l x1 x2)) ∧ Below w.heap.size w w' := by
  have hbox : Below w.heap.size w ((w.alloc (boxP p A c 24)).alloc (.cells #[.int .i64 x1, .int .i64 x2] 49)) := ((Below.refl _ _).alloc (Nat.le_refl _) _).alloc (by simp) _
  have HA := Lib.hid (Kd.C_below hA hbox)
  have HW := Lib.hid (Kd.C_below hw hbox)
  have HL := Lib.hid (Kd.C_below hl hbox)
  have HN := Lib.hid hw.2.1
  have HT := Lib.hid (told_any p A c A1 c1 ws A2 c2 l _ HA.out HW.out HL.out HN.out)
  clear hA hw hl
  rcases told_cases p ws l with ⟨h0, h1, h2, h3⟩ | h0
  · have hok := Lib.hid (ok_of_check h1)
    have H2 := Lib.hid h2
    have H3 := Lib.hid h3
    have HE0 := Lib.hid h0
    rw [h0] at HT
    clear h0 h1 h2 h3
    by_cases g1 : x1 < 0
    · have HF := Lib.hid (pair_no (x2 := x2) HE0.out (.inl g1))
      go_enter Tryd.func34, Tryd.ntmps34
      go_wp2_with (first | (go_at_call 62; refine HT.out.mono ?_; rintro e w1 ⟨rfl, hb⟩; obtain ⟨hc, hf⟩ := bcell hb))
      go_ret
      exact ⟨ret_int HF.out.symm, hbox.trans (hb.mono (by simp; omega))⟩
    · have g1' : decide (x1 < 0) = false := by simpa using g1
      by_cases g2 : x2 ≤ x1
      · have HF := Lib.hid (pair_no (x1 := x1) HE0.out (.inr (.inl g2)))
        go_enter Tryd.func34, Tryd.ntmps34
        go_wp2_with (first | (go_at_call 62; refine HT.out.mono ?_; rintro e w1 ⟨rfl, hb⟩; obtain ⟨hc, hf⟩ := bcell hb))
        go_ret
        exact ⟨ret_int HF.out.symm, hbox.trans (hb.mono (by simp; omega))⟩
      · have g2' : decide (x2 ≤ x1) = false := by simpa using g2
        by_cases g3 : (l.length : Int) ≤ x2
        · have HF := Lib.hid (pair_no (x1 := x1) HE0.out (.inr (.inr g3)))
          go_enter Tryd.func34, Tryd.ntmps34
          go_wp2_with (first | (go_at_call 62; refine HT.out.mono ?_; rintro e w1 ⟨rfl, hb⟩; obtain ⟨hc, hf⟩ := bcell hb))
          go_ret
          exact ⟨ret_int HF.out.symm, hbox.trans (hb.mono (by simp; omega))⟩
        · obtain ⟨i, rfl⟩ := Int.eq_ofNat_of_zero_le (show 0 ≤ x1 by omega)
          obtain ⟨k, rfl⟩ := Int.eq_ofNat_of_zero_le (show 0 ≤ x2 by omega)
          have g3' : decide ((l.length : Int) ≤ (k : Int)) = false := by simpa using g3
          have g4 : decide (l.length ≤ k) = false := by simp at g3 ⊢; omega
          have g5 : decide (k ≤ i) = false := by simp at g2 ⊢; omega
          have HF := Lib.hid (pair_is (i := i) (k := k) HE0.out (by omega) (by omega))
          have HCo : Hid (∀ w2, Below ((w.alloc (boxP p A c 24)).alloc (.cells #[.int .i64 (i : Int), .int .i64 (k : Int)] 49)).heap.size ((w.alloc (boxP p A c 24)).alloc (.cells #[.int .i64 (i : Int), .int .i64 (k : Int)] 49)) w2 → Calls Tryd.prog 68 #[storyv p A c A1 ws.length c1, .slice A2 l.length c2, .int .i64 i, .int .i64 k] w2 fun e w' => e = .returned (.bool (contraB p ws l i k)) ∧ Below w2.heap.size w2 w') := fun w2 hb2 =>
            contra_any p A c A1 c1 ws A2 c2 l i k w2 (by omega) (by omega) hok.out H2.out H3.out (Kd.C_below HA.out hb2) (Kd.C_below HW.out hb2) (Kd.C_below HL.out hb2)
          cases hcb : contraB p ws l i k
          all_goals
            rw [hcb] at HF HCo
            clear hcb
            go_enter Tryd.func34, Tryd.ntmps34
            go_wp2_with (first | (go_at_call 62; refine HT.out.mono ?_; rintro e w1 ⟨rfl, hb⟩; obtain ⟨hc, hf⟩ := bcell hb) | (go_at_call 68; refine (HCo.out _ hb).mono ?_; rintro e w2 ⟨rfl, hb2⟩))
            go_ret
            exact ⟨ret_int HF.out.symm, (hbox.trans (hb.mono (by simp; omega))).trans (hb2.mono (by have := hb.size; simp at this; omega))⟩
  · have hF := Lib.hid (show chkrefF p ws l x1 x2 = toldF p ws l by simp [chkrefF, h0])
    have hne : (toldF p ws l != 0) = true := by simpa using h0
    clear h0
    generalize toldF p ws l = E at *
    go_enter Tryd.func34, Tryd.ntmps34
    go_wp2_with (go_at_call 62; refine HT.out.mono ?_; rintro e w1 ⟨rfl, hb⟩; obtain ⟨hc, hf⟩ := bcell hb)
    go_ret
    exact ⟨ret_int hF.out.symm, hbox.trans (hb.mono (by simp; omega))⟩
set_option maxRecDepth 100000 in
set_option maxHeartbeats 1600000 in
theorem rchkref_any (p : Pil) (A : Option Addr) (c : Nat) (A1 : Option Addr) (c1 : Nat) (ws : List (Int × Int)) (A2 : Option Addr) (c2 : Nat) (l : List Int) (x1 x2 : Int) (w : World) (hA : Kd.C kSpan w A p.log.length p.log) (hw : Kd.C kSpan w A1 ws.length ws) (hl : Kd.C kInt w A2 l.length l) (hcl2 : l.length ≤ c2) :
    Calls Tryd.prog 35 #[p.val A c, .slice A1 ws.length c1, .slice A2 l.length c2, spv x1 x2] w fun e w' => e = .returned (.int .i64 (chkrefF p ws l x1 x2)) ∧ Below w.heap.size w w' := by
  have hbox : Below w.heap.size w ((w.alloc (boxP p A c 24)).alloc (.cells #[.int .i64 x1, .int .i64 x2] 49)) := ((Below.refl _ _).alloc (Nat.le_refl _) _).alloc (by simp) _
  have HA := Lib.hid (Kd.C_below hA hbox)
  have HW := Lib.hid (Kd.C_below hw hbox)
  have HL := Lib.hid (Kd.C_below hl hbox)
  have HN := Lib.hid hw.2.1
  have HT := Lib.hid (asked_tld p A c A1 c1 ws A2 c2 l _ HA.out HW.out HL.out hcl2 HN.out (w.heap.size + 1 + 1) (by simp))
  clear hA hw hl
  rcases told_cases p ws l with ⟨h0, h1, h2, h3⟩ | h0
  · have hok := Lib.hid (ok_of_check h1)
    have H2 := Lib.hid h2
    have H3 := Lib.hid h3
    have HE0 := Lib.hid h0
    rw [h0] at HT
    clear h0 h1 h2 h3
    by_cases g1 : x1 < 0
    · have HF := Lib.hid (pair_no (x2 := x2) HE0.out (.inl g1))
      go_enter Tryd.func35, Tryd.ntmps35
      go_wp2_with (first | (go_at_call 60; refine HT.out.mono ?_; rintro e w1 ⟨rfl, hb⟩; obtain ⟨hc, hf⟩ := bcell hb))
      go_ret
      exact ⟨ret_int HF.out.symm, hbox.trans (hb.mono (by simp; omega))⟩
    · have g1' : decide (x1 < 0) = false := by simpa using g1
      by_cases g2 : x2 ≤ x1
      · have HF := Lib.hid (pair_no (x1 := x1) HE0.out (.inr (.inl g2)))
        go_enter Tryd.func35, Tryd.ntmps35
        go_wp2_with (first | (go_at_call 60; refine HT.out.mono ?_; rintro e w1 ⟨rfl, hb⟩; obtain ⟨hc, hf⟩ := bcell hb))
        go_ret
        exact ⟨ret_int HF.out.symm, hbox.trans (hb.mono (by simp; omega))⟩
      · have g2' : decide (x2 ≤ x1) = false := by simpa using g2
        by_cases g3 : (l.length : Int) ≤ x2
        · have HF := Lib.hid (pair_no (x1 := x1) HE0.out (.inr (.inr g3)))
          go_enter Tryd.func35, Tryd.ntmps35
          go_wp2_with (first | (go_at_call 60; refine HT.out.mono ?_; rintro e w1 ⟨rfl, hb⟩; obtain ⟨hc, hf⟩ := bcell hb))
          go_ret
          exact ⟨ret_int HF.out.symm, hbox.trans (hb.mono (by simp; omega))⟩
        · obtain ⟨i, rfl⟩ := Int.eq_ofNat_of_zero_le (show 0 ≤ x1 by omega)
          obtain ⟨k, rfl⟩ := Int.eq_ofNat_of_zero_le (show 0 ≤ x2 by omega)
          have g3' : decide ((l.length : Int) ≤ (k : Int)) = false := by simpa using g3
          have g4 : decide (l.length ≤ k) = false := by simp at g3 ⊢; omega
          have g5 : decide (k ≤ i) = false := by simp at g2 ⊢; omega
          have HF := Lib.hid (pair_is (i := i) (k := k) HE0.out (by omega) (by omega))
          have HCo : Hid (∀ w2, Below ((w.alloc (boxP p A c 24)).alloc (.cells #[.int .i64 (i : Int), .int .i64 (k : Int)] 49)).heap.size ((w.alloc (boxP p A c 24)).alloc (.cells #[.int .i64 (i : Int), .int .i64 (k : Int)] 49)) w2 → Calls Tryd.prog 69 #[p.val A c, .slice A1 ws.length c1, .slice A2 l.length c2, .int .i64 i, .int .i64 k] w2 fun e w' => e = .returned (.bool (contraB p ws l i k)) ∧ Below w2.heap.size w2 w') := fun w2 hb2 =>
            against_any p A c A1 c1 ws A2 c2 l i k w2 (by omega) (by omega) hok.out H2.out H3.out (Kd.C_below HA.out hb2) (Kd.C_below HW.out hb2) (Kd.C_below HL.out hb2)
          cases hcb : contraB p ws l i k
          all_goals
            rw [hcb] at HF HCo
            clear hcb
            go_enter Tryd.func35, Tryd.ntmps35
            go_wp2_with (first | (go_at_call 60; refine HT.out.mono ?_; rintro e w1 ⟨rfl, hb⟩; obtain ⟨hc, hf⟩ := bcell hb) | (go_at_call 69; refine (HCo.out _ hb).mono ?_; rintro e w2 ⟨rfl, hb2⟩))
            go_ret
            exact ⟨ret_int HF.out.symm, (hbox.trans (hb.mono (by simp; omega))).trans (hb2.mono (by have := hb.size; simp at this; omega))⟩
  · have hF := Lib.hid (show chkrefF p ws l x1 x2 = toldF p ws l by simp [chkrefF, h0])
    have hne : (toldF p ws l != 0) = true := by simpa using h0
    clear h0
    generalize toldF p ws l = E at *
    go_enter Tryd.func35, Tryd.ntmps35
    go_wp2_with (go_at_call 60; refine HT.out.mono ?_; rintro e w1 ⟨rfl, hb⟩; obtain ⟨hc, hf⟩ := bcell hb)
    go_ret
    exact ⟨ret_int hF.out.symm, hbox.trans (hb.mono (by simp; omega))⟩
end Go.Proofs.YtiidkekmklbobaaDoor
set_option linter.unusedVariables false
set_option linter.unusedSimpArgs false
namespace Go.Proofs.YtiidkekmklbobaaDoor
open Go.RowKit Go.Proofs.YtiidkekmklbobaaDoorW.PrintWords
attribute [local go_sem] mx_two mn_two blk_add
def cshiftR (p : Pil) (en : Int) : Bool × Int := if checkB p then (if within en 0 ((p.log.length : Int) - 2) then (shiftF p en.toNat, 0) else (false, 1)) else (false, 30)
theorem check_0 {p : Pil} (h : checkB p = true) : checkF p = 0 := by simp [checkF, h]
theorem check_30 {p : Pil} (h : checkB p = false) : checkF p = 30 := by simp [checkF, h]
theorem within_f {n a b : Int} (h : n < a ∨ b < n) : within n a b = false := by
  unfold within
  rcases h with h | h
  · rw [decide_eq_false (show ¬ a ≤ n by omega)]; rfl
  · rw [decide_eq_false (show ¬ n ≤ b by omega)]; simp
set_option maxRecDepth 100000 in
set_option maxHeartbeats 1600000 in
theorem cshift_any (p : Pil) (A : Option Addr) (c : Nat) (en : Int) (w : World) (hA : Kd.C kSpan w A p.log.length p.log) :
    Calls Tryd.prog 42 #[p.val A c, .int .i64 en] w fun e w' => e = .returned (.tuple #[.bool (cshiftR p en).1, .int .i64 (cshiftR p en).2]) ∧ Below w.heap.size w w' := by
  have hbox : Below w.heap.size w (w.alloc (boxP p A c 24)) := (Below.refl _ _).alloc (Nat.le_refl _) _
  have HA := Lib.hid (Kd.C_below hA hbox)
  have HC := Lib.hid (check_any p A c _ HA.out)
  clear hA
  cases hck : checkB p with
  | true =>
    rw [check_0 hck] at HC
    have hok := Lib.hid (ok_of_check hck)
    have hL := hok.out.l
    by_cases h1 : en < 0
    · have HF := Lib.hid (show cshiftR p en = (false, 1) by unfold cshiftR; rw [if_pos hck, within_f (.inl h1)]; rfl)
      clear hck
      go_enter Tryd.func42, Tryd.ntmps42
      go_wp2_with (go_at_call 45; refine HC.out.mono ?_; rintro e w1 ⟨rfl, hb⟩; obtain ⟨hc, hf⟩ := bcell hb)
      go_ret2
      rw [HF.out]
      exact ⟨rfl, hbox.trans (hb.mono (by simp))⟩
    · by_cases h2 : (p.log.length : Int) - 1 ≤ en
      · have HF := Lib.hid (show cshiftR p en = (false, 1) by unfold cshiftR; rw [if_pos hck, within_f (.inr (by omega))]; rfl)
        have h1' : decide (en < 0) = false := by simpa using h1
        clear hck
        go_enter Tryd.func42, Tryd.ntmps42
        go_wp2_with (go_at_call 45; refine HC.out.mono ?_; rintro e w1 ⟨rfl, hb⟩; obtain ⟨hc, hf⟩ := bcell hb)
        go_ret2
        rw [HF.out]
        exact ⟨rfl, hbox.trans (hb.mono (by simp))⟩
      · obtain ⟨i, rfl⟩ := Int.eq_ofNat_of_zero_le (show 0 ≤ en by omega)
        have HF := Lib.hid (show cshiftR p i = (shiftF p i, 0) by unfold cshiftR; rw [if_pos hck, within_t.2 ⟨by omega, by omega⟩]; rfl)
        have h2' : decide ((p.log.length : Int) - 1 ≤ (i : Int)) = false := by simpa using h2
        clear hck
        go_enter Tryd.func42, Tryd.ntmps42
        go_wp2_with (first | (go_at_call 45; refine HC.out.mono ?_; rintro e w1 ⟨rfl, hb⟩; obtain ⟨hc, hf⟩ := bcell hb) | (go_at_call 73; refine (shift_any p A c i _ hok.out (Kd.C_below HA.out hb) (by omega)).mono ?_; rintro e w2 ⟨rfl, hb2⟩))
        go_ret2
        rw [HF.out]
        exact ⟨rfl, (hbox.trans (hb.mono (by simp))).trans (hb2.mono (by have := hb.size; simp at this; omega))⟩
  | false =>
    rw [check_30 hck] at HC
    have HF := Lib.hid (show cshiftR p en = (false, 30) by simp [cshiftR, hck])
    clear hck
    go_enter Tryd.func42, Tryd.ntmps42
    go_wp2_with (go_at_call 45; refine HC.out.mono ?_; rintro e w1 ⟨rfl, hb⟩; obtain ⟨hc, hf⟩ := bcell hb)
    go_ret2
    rw [HF.out]
    exact ⟨rfl, hbox.trans (hb.mono (by simp))⟩
set_option maxRecDepth 100000 in
set_option maxHeartbeats 1600000 in
theorem rcshift_any (p : Pil) (A : Option Addr) (c : Nat) (en : Int) (w : World) (hA : Kd.C kSpan w A p.log.length p.log) :
    Calls Tryd.prog 43 #[p.val A c, .int .i64 en] w fun e w' => e = .returned (.tuple #[.bool (cshiftR p en).1, .int .i64 (cshiftR p en).2]) ∧ Below w.heap.size w w' := by
  have hbox : Below w.heap.size w (w.alloc (boxP p A c 24)) := (Below.refl _ _).alloc (Nat.le_refl _) _
  have HA := Lib.hid (Kd.C_below hA hbox)
  have HC := Lib.hid (rcheck_any p A c _ HA.out)
  clear hA
  cases hck : checkB p with
  | true =>
    rw [check_0 hck] at HC
    have hok := Lib.hid (ok_of_check hck)
    have hL := hok.out.l
    have fw : IntKind.i64.wrap ((p.log.length : Int) - 2) = (p.log.length : Int) - 2 := by rw [IntKind.wrap_i64]; omega
    cases hwi : within en 0 ((p.log.length : Int) - 2) with
    | false =>
      have HF := Lib.hid (show cshiftR p en = (false, 1) by unfold cshiftR; rw [if_pos hck, hwi]; rfl)
      have HWI := Lib.hid hwi
      clear hck hwi
      go_enter Tryd.func43, Tryd.ntmps43
      go_wp2_with (first | (go_at_call 46; refine HC.out.mono ?_; rintro e w1 ⟨rfl, hb⟩; obtain ⟨hc, hf⟩ := bcell hb) | (go_at_call 74; refine (within_any _ _ _ _).mono ?_; rw [HWI.out]; rintro e w2 ⟨rfl, rfl⟩))
      go_ret2
      rw [HF.out]
      exact ⟨rfl, hbox.trans (hb.mono (by simp))⟩
    | true =>
      obtain ⟨h1, h2⟩ := within_t.1 hwi
      obtain ⟨i, rfl⟩ := Int.eq_ofNat_of_zero_le h1
      have HF := Lib.hid (show cshiftR p i = (shiftF p i, 0) by unfold cshiftR; rw [if_pos hck, hwi]; rfl)
      have HWI := Lib.hid hwi
      clear hck hwi
      go_enter Tryd.func43, Tryd.ntmps43
      go_wp2_with (first | (go_at_call 46; refine HC.out.mono ?_; rintro e w1 ⟨rfl, hb⟩; obtain ⟨hc, hf⟩ := bcell hb) | (go_at_call 74; refine (within_any _ _ _ _).mono ?_; rw [HWI.out]; rintro e w2 ⟨rfl, rfl⟩) | (go_at_call 75; refine (rshift_any p A c i _ hok.out (Kd.C_below HA.out hb) (by omega)).mono ?_; rintro e w3 ⟨rfl, hb2⟩))
      go_ret2
      rw [HF.out]
      exact ⟨rfl, (hbox.trans (hb.mono (by simp))).trans (hb2.mono (by have := hb.size; simp at this; omega))⟩
  | false =>
    rw [check_30 hck] at HC
    have HF := Lib.hid (show cshiftR p en = (false, 30) by simp [cshiftR, hck])
    clear hck
    go_enter Tryd.func43, Tryd.ntmps43
    go_wp2_with (go_at_call 46; refine HC.out.mono ?_; rintro e w1 ⟨rfl, hb⟩; obtain ⟨hc, hf⟩ := bcell hb)
    go_ret2
    rw [HF.out]
    exact ⟨rfl, hbox.trans (hb.mono (by simp))⟩
/-! ## CheckCase -/
def ckcF (p : Pil) (l : List Int) : Int := if checkB p then (if caseB p l then 0 else 31) else 30
set_option maxRecDepth 100000 in
set_option maxHeartbeats 1600000 in
theorem ckc_any (p : Pil) (A : Option Addr) (c : Nat) (A1 : Option Addr) (c1 : Nat) (l : List Int) (w : World) (hA : Kd.C kSpan w A p.log.length p.log) (hl : Kd.C kInt w A1 l.length l) :
    Calls Tryd.prog 38 #[p.val A c, .slice A1 l.length c1] w fun e w' => e = .returned (.int .i64 (ckcF p l)) ∧ Below w.heap.size w w' := by
  have hbox : Below w.heap.size w (w.alloc (boxP p A c 24)) := (Below.refl _ _).alloc (Nat.le_refl _) _
  have HA := Lib.hid (Kd.C_below hA hbox)
  have HL := Lib.hid (Kd.C_below hl hbox)
  have HC := Lib.hid (check_any p A c _ HA.out)
  clear hA hl
  cases hck : checkB p with
  | true =>
    rw [check_0 hck] at HC
    have hok := Lib.hid (ok_of_check hck)
    cases hca : caseB p l
    all_goals
      have HF := Lib.hid (show ckcF p l = if caseB p l = true then 0 else 31 by simp [ckcF, hck])
      have HCA := Lib.hid hca
      rw [hca] at HF
      clear hca
      go_enter Tryd.func38, Tryd.ntmps38
      go_wp2_with (first | (go_at_call 45; refine HC.out.mono ?_; rintro e w1 ⟨rfl, hb⟩; obtain ⟨hc, hf⟩ := bcell hb) | (go_at_call 70; refine (isCase_any p A c A1 c1 l _ hok.out (Kd.C_below HA.out hb) (Kd.C_below HL.out hb)).mono ?_; rw [HCA.out]; rintro e w2 ⟨rfl, hb2⟩))
      go_ret
      exact ⟨ret_int HF.out.symm, (hbox.trans (hb.mono (by simp))).trans (hb2.mono (by have := hb.size; simp at this; omega))⟩
  | false =>
    rw [check_30 hck] at HC
    have HF := Lib.hid (show ckcF p l = 30 by simp [ckcF, hck])
    clear hck
    go_enter Tryd.func38, Tryd.ntmps38
    go_wp2_with (go_at_call 45; refine HC.out.mono ?_; rintro e w1 ⟨rfl, hb⟩; obtain ⟨hc, hf⟩ := bcell hb)
    go_ret
    exact ⟨ret_int HF.out.symm, hbox.trans (hb.mono (by simp))⟩
set_option maxRecDepth 100000 in
set_option maxHeartbeats 1600000 in
theorem rckc_any (p : Pil) (A : Option Addr) (c : Nat) (A1 : Option Addr) (c1 : Nat) (l : List Int) (w : World) (hA : Kd.C kSpan w A p.log.length p.log) (hl : Kd.C kInt w A1 l.length l) :
    Calls Tryd.prog 47 #[p.val A c, .slice A1 l.length c1] w fun e w' => e = .returned (.int .i64 (ckcF p l)) ∧ Below w.heap.size w w' := by
  have hbox : Below w.heap.size w (w.alloc (boxP p A c 24)) := (Below.refl _ _).alloc (Nat.le_refl _) _
  have HA := Lib.hid (Kd.C_below hA hbox)
  have HL := Lib.hid (Kd.C_below hl hbox)
  have HC := Lib.hid (rcheck_any p A c _ HA.out)
  clear hA hl
  cases hck : checkB p with
  | true =>
    rw [check_0 hck] at HC
    have hok := Lib.hid (ok_of_check hck)
    cases hca : caseB p l
    all_goals
      have HF := Lib.hid (show ckcF p l = if caseB p l = true then 0 else 31 by simp [ckcF, hck])
      have HCA := Lib.hid hca
      rw [hca] at HF
      clear hca
      go_enter Tryd.func47, Tryd.ntmps47
      go_wp2_with (first | (go_at_call 46; refine HC.out.mono ?_; rintro e w1 ⟨rfl, hb⟩; obtain ⟨hc, hf⟩ := bcell hb) | (go_at_call 78; refine (right_any p A c A1 c1 l _ hok.out (Kd.C_below HA.out hb) (Kd.C_below HL.out hb)).mono ?_; rw [HCA.out]; rintro e w2 ⟨rfl, hb2⟩))
      go_ret
      exact ⟨ret_int HF.out.symm, (hbox.trans (hb.mono (by simp))).trans (hb2.mono (by have := hb.size; simp at this; omega))⟩
  | false =>
    rw [check_30 hck] at HC
    have HF := Lib.hid (show ckcF p l = 30 by simp [ckcF, hck])
    clear hck
    go_enter Tryd.func47, Tryd.ntmps47
    go_wp2_with (go_at_call 46; refine HC.out.mono ?_; rintro e w1 ⟨rfl, hb⟩; obtain ⟨hc, hf⟩ := bcell hb)
    go_ret
    exact ⟨ret_int HF.out.symm, hbox.trans (hb.mono (by simp))⟩
end Go.Proofs.YtiidkekmklbobaaDoor
set_option linter.unusedVariables false
set_option linter.unusedSimpArgs false
namespace Go.Proofs.YtiidkekmklbobaaDoor
open Go.RowKit Go.Proofs.YtiidkekmklbobaaDoorW.PrintWords
attribute [local go_sem] mx_two mn_two blk_add
def diffF (a b : List Int) : Option Nat := (List.range a.length).find? fun i => at0 a i != at0 b i
def partedR (p : Pil) (a b : List Int) : Int × Bool × Int :=
  if checkB p then (if caseB p a && caseB p b then (match diffF a b with | some i => ((i : Int), true, 0) | none => (0, false, 0)) else (0, false, 31)) else (0, false, 30)
def partedV (x : Int × Bool × Int) : Value := .tuple #[.int .i64 x.1, .bool x.2.1, .int .i64 x.2.2]
theorem case_length {p : Pil} {l : List Int} (h : caseB p l = true) : l.length = p.log.length := by
  simp only [caseB, Bool.and_eq_true, beq_iff_eq] at h
  exact h.1
set_option maxRecDepth 100000 in
set_option maxHeartbeats 1600000 in
theorem parted_any (p : Pil) (A : Option Addr) (c : Nat) (A1 : Option Addr) (c1 : Nat) (a : List Int) (A2 : Option Addr) (c2 : Nat) (b : List Int) (w : World) (hA : Kd.C kSpan w A p.log.length p.log) (hl : Kd.C kInt w A1 a.length a) (hm : Kd.C kInt w A2 b.length b) :
    Calls Tryd.prog 50 #[p.val A c, .slice A1 a.length c1, .slice A2 b.length c2] w fun e w' => e = .returned (partedV (partedR p a b)) ∧ Below w.heap.size w w' := by
  have hbox : Below w.heap.size w (w.alloc (boxP p A c 24)) := (Below.refl _ _).alloc (Nat.le_refl _) _
  have HL0 := Lib.hid hl
  have HM0 := Lib.hid hm
  have HA := Lib.hid (Kd.C_below hA hbox)
  have HL := Lib.hid (Kd.C_below hl hbox)
  have HM := Lib.hid (Kd.C_below hm hbox)
  have HC := Lib.hid (ckc_any p A c A1 c1 a _ HA.out HL.out)
  have HC2 : Hid (∀ w2, Below (w.alloc (boxP p A c 24)).heap.size (w.alloc (boxP p A c 24)) w2 → Calls Tryd.prog 38 #[p.val A c, .slice A2 b.length c2] w2 fun e w' => e = .returned (.int .i64 (ckcF p b)) ∧ Below w2.heap.size w2 w') := fun w2 hb2 =>
    ckc_any p A c A2 c2 b w2 (Kd.C_below HA.out hb2) (Kd.C_below HM.out hb2)
  clear hA hl hm
  by_cases h1 : ckcF p a = 0
  case neg =>
    have HR := Lib.hid (show partedR p a b = (0, false, ckcF p a) by
      unfold partedR ckcF
      unfold ckcF at h1
      cases hck : checkB p
      · simp
      · cases hca : caseB p a
        · simp
        · simp [hck, hca] at h1)
    have hne : (ckcF p a != 0) = true := by simpa using h1
    clear h1
    generalize ckcF p a = E at *
    go_enter Tryd.func50, Tryd.ntmps50
    go_wp2_with (first | (go_at_call 38; refine HC.out.mono ?_; rintro e w1 ⟨rfl, hb⟩; obtain ⟨hc, hf⟩ := bcell hb))
    go_ret3
    rw [HR.out]
    exact ⟨rfl, hbox.trans (hb.mono (by simp))⟩
  by_cases h2 : ckcF p b = 0
  case neg =>
    have HR := Lib.hid (show partedR p a b = (0, false, ckcF p b) by
      unfold partedR ckcF
      unfold ckcF at h1 h2
      cases hck : checkB p
      · simp
      · cases hca : caseB p b
        · simp
        · simp [hck, hca] at h2)
    have hne : (ckcF p b != 0) = true := by simpa using h2
    rw [h1] at HC
    clear h1 h2
    generalize ckcF p b = E at *
    go_enter Tryd.func50, Tryd.ntmps50
    go_upto_if 16 with (first | (go_at_call 38; refine HC.out.mono ?_; rintro e w1 ⟨rfl, hb⟩; obtain ⟨hc, hf⟩ := bcell hb))
    go_wp2_with (first | (go_at_call 38; refine (HC2.out _ hb).mono ?_; rintro e w2 ⟨rfl, hb2⟩))
    go_ret3
    rw [HR.out]
    exact ⟨rfl, (hbox.trans (hb.mono (by simp))).trans (hb2.mono (by have := hb.size; simp at this; omega))⟩
  · rw [h1] at HC
    rw [h2] at HC2
    have hall3 : checkB p = true ∧ caseB p a = true ∧ caseB p b = true := by
      unfold ckcF at h1 h2
      cases hck : checkB p
      · simp [hck] at h1
      · cases hca : caseB p a
        · simp [hck, hca] at h1
        · cases hcb : caseB p b
          · simp [hck, hcb] at h2
          · exact ⟨rfl, rfl, rfl⟩
    obtain ⟨hck, hca, hcb⟩ := hall3
    have hok := Lib.hid (ok_of_check hck)
    have HCA := Lib.hid hca
    have HCB := Lib.hid hcb
    have HR : Hid (partedR p a b = match diffF a b with | some i => ((i : Int), true, 0) | none => (0, false, 0)) := by
      show partedR p a b = _
      unfold partedR
      rw [if_pos hck, hca, hcb]
      rfl
    clear h1 h2 hck hca hcb
    have hc1 := case_length HCA.out
    have hc2 := case_length HCB.out
    have hLL := hok.out.l
    have hle : a.length ≤ 32 := by omega
    have hab : a.length = b.length := by omega
    have HAB := Lib.hid hab
    clear hc1 hc2 hab
    go_enter Tryd.func50, Tryd.ntmps50
    go_upto_if 16 with (first | (go_at_call 38; refine HC.out.mono ?_; rintro e w1 ⟨rfl, hb⟩; obtain ⟨hc, hf⟩ := bcell hb))
    go_wp2_with (first | (go_at_call 38; refine (HC2.out _ hb).mono ?_; rintro e w2 ⟨rfl, hb2⟩))
    go_loopw [26] (fun vi wr => ∃ i : Nat, i ≤ a.length ∧ vi = .int .i64 i ∧ Below w.heap.size w wr ∧ Hid (∀ j, j < i → (at0 a j != at0 b j) = false))
      (fun vi _ => a.length - (intOf vi).toNat)
    case atStart => exact ⟨0, Nat.zero_le _, rfl, (hbox.trans (hb.mono (by simp))).trans (hb2.mono (by have := hb.size; simp at this; omega)), fun j h => absurd h (by omega)⟩
    case round =>
      clear hb hb2 hc hf
      obtain ⟨i, hi, rfl, hb, hall⟩ := hrel
      by_cases hlt : i < a.length
      · obtain ⟨a1, rfl, q1⟩ := at_i (Kd.C_below HL0.out hb) i hlt
        obtain ⟨a2, rfl, q2⟩ := at_i (Kd.C_below HM0.out hb) i (by have := HAB.out; omega)
        have j1 : (i : Int) < (a.length : Int) := by omega
        have j2 : (i : Int) < (b.length : Int) := by have := HAB.out; omega
        change _ = some (Value.int .i64 (at0 a i)) at q1
        change _ = some (Value.int .i64 (at0 b i)) at q2
        cases hne : (at0 a i != at0 b i) with
        | true =>
          have HD := Lib.hid (show diffF a b = some i from find_range_some hlt hall.out hne)
          go_wp2
          go_quiet (fail)
          go_wp2
          go_ret3
          refine ⟨?_, by repeat (first | exact hb | refine pw_below_drewN ?_ _)⟩
          rw [HR.out, HD.out]; rfl
        | false =>
          have HNE := Lib.hid hne
          go_wp2
          go_quiet (fail)
          go_wp2
          go_roundw
          case rel => exact ⟨i + 1, by omega, by go_num, by repeat (first | exact hb | refine pw_below_drewN ?_ _), fun j h => by
            rcases Nat.lt_or_ge j i with h3 | h3
            · exact hall.out j h3
            · obtain rfl : j = i := by omega
              exact HNE.out⟩
          case measure => simp [intOf]; omega
      · obtain rfl : i = a.length := by omega
        have HD := Lib.hid (show diffF a b = none from find_range_none hall.out)
        go_wp2
        go_ret3
        refine ⟨?_, hb⟩
        rw [HR.out, HD.out]; rfl
set_option maxRecDepth 100000 in
set_option maxHeartbeats 1600000 in
theorem rparted_any (p : Pil) (A : Option Addr) (c : Nat) (A1 : Option Addr) (c1 : Nat) (a : List Int) (A2 : Option Addr) (c2 : Nat) (b : List Int) (w : World) (hA : Kd.C kSpan w A p.log.length p.log) (hl : Kd.C kInt w A1 a.length a) (hm : Kd.C kInt w A2 b.length b) :
    Calls Tryd.prog 51 #[p.val A c, .slice A1 a.length c1, .slice A2 b.length c2] w fun e w' => e = .returned (partedV (partedR p a b)) ∧ Below w.heap.size w w' := by
  have hbox : Below w.heap.size w (w.alloc (boxP p A c 24)) := (Below.refl _ _).alloc (Nat.le_refl _) _
  have HL0 := Lib.hid hl
  have HM0 := Lib.hid hm
  have HA := Lib.hid (Kd.C_below hA hbox)
  have HL := Lib.hid (Kd.C_below hl hbox)
  have HM := Lib.hid (Kd.C_below hm hbox)
  have HC := Lib.hid (rcheck_any p A c _ HA.out)
  clear hA hl hm
  cases hck : checkB p with
  | false =>
    rw [check_30 hck] at HC
    have HR := Lib.hid (show partedR p a b = (0, false, 30) by unfold partedR; rw [hck]; rfl)
    clear hck
    go_enter Tryd.func51, Tryd.ntmps51
    go_wp2_with (first | (go_at_call 46; refine HC.out.mono ?_; rintro e w1 ⟨rfl, hb⟩; obtain ⟨hc, hf⟩ := bcell hb))
    go_ret3
    rw [HR.out]
    exact ⟨rfl, hbox.trans (hb.mono (by simp))⟩
  | true =>
  rw [check_0 hck] at HC
  have hok := Lib.hid (ok_of_check hck)
  have HC1 : Hid (∀ w2, Below (w.alloc (boxP p A c 24)).heap.size (w.alloc (boxP p A c 24)) w2 → Calls Tryd.prog 78 #[p.val A c, .slice A1 a.length c1] w2 fun e w' => e = .returned (.bool (caseB p a)) ∧ Below w2.heap.size w2 w') := fun w2 hb2 =>
    right_any p A c A1 c1 a w2 hok.out (Kd.C_below HA.out hb2) (Kd.C_below HL.out hb2)
  have HC2 : Hid (∀ w2, Below (w.alloc (boxP p A c 24)).heap.size (w.alloc (boxP p A c 24)) w2 → Calls Tryd.prog 78 #[p.val A c, .slice A2 b.length c2] w2 fun e w' => e = .returned (.bool (caseB p b)) ∧ Below w2.heap.size w2 w') := fun w2 hb2 =>
    right_any p A c A2 c2 b w2 hok.out (Kd.C_below HA.out hb2) (Kd.C_below HM.out hb2)
  cases hca : caseB p a with
  | false =>
    have HR := Lib.hid (show partedR p a b = (0, false, 31) by unfold partedR; rw [hck, hca]; rfl)
    rw [hca] at HC1
    clear hck hca
    go_enter Tryd.func51, Tryd.ntmps51
    go_wp2_with (first | (go_at_call 46; refine HC.out.mono ?_; rintro e w1 ⟨rfl, hb⟩; obtain ⟨hc, hf⟩ := bcell hb) | (go_at_call 78; refine (HC1.out _ hb).mono ?_; rintro e w2 ⟨rfl, hb2⟩))
    go_ret3
    rw [HR.out]
    exact ⟨rfl, (hbox.trans (hb.mono (by simp))).trans (hb2.mono (by have := hb.size; simp at this; omega))⟩
  | true =>
  cases hcb : caseB p b with
  | false =>
    have HR := Lib.hid (show partedR p a b = (0, false, 31) by unfold partedR; rw [hck, hca, hcb]; rfl)
    rw [hca] at HC1
    rw [hcb] at HC2
    clear hck hca hcb
    have HC3 : Hid (∀ w3, Below (w.alloc (boxP p A c 24)).heap.size (w.alloc (boxP p A c 24)) w3 → (w.alloc (boxP p A c 24)).heap.size ≤ w3.heap.size) := fun w3 h3 => h3.size
    go_enter Tryd.func51, Tryd.ntmps51
    go_wp2_with (first | (go_at_call 46; refine HC.out.mono ?_; rintro e w1 ⟨rfl, hb⟩; obtain ⟨hc, hf⟩ := bcell hb) | (go_at_call 78; (with_reducible refine (HC1.out _ hb).mono ?_); rintro e w2 ⟨rfl, hb2⟩; have hb3 : Below (w.alloc (boxP p A c 24)).heap.size (w.alloc (boxP p A c 24)) w2 := hb.trans (hb2.mono hb.size); obtain ⟨hc2, hf2⟩ := bcell hb3) | (go_at_call 78; refine (HC2.out _ hb3).mono ?_; rintro e w4 ⟨rfl, hb4⟩))
    go_ret3
    rw [HR.out]
    exact ⟨rfl, (hbox.trans (hb3.mono (by simp))).trans (hb4.mono (by have := hb3.size; simp at this; omega))⟩
  | true =>
    have HCA := Lib.hid hca
    have HCB := Lib.hid hcb
    have HR : Hid (partedR p a b = match diffF a b with | some i => ((i : Int), true, 0) | none => (0, false, 0)) := by
      show partedR p a b = _
      unfold partedR
      rw [hck, hca, hcb]
      rfl
    rw [hca] at HC1
    rw [hcb] at HC2
    clear hck hca hcb
    have hc1 := case_length HCA.out
    have hc2 := case_length HCB.out
    have hLL := hok.out.l
    have hle : a.length ≤ 32 := by omega
    have hab : a.length = b.length := by omega
    have HAB := Lib.hid hab
    clear hc1 hc2 hab
    go_enter Tryd.func51, Tryd.ntmps51
    go_wp2_with (first | (go_at_call 46; refine HC.out.mono ?_; rintro e w1 ⟨rfl, hb⟩; obtain ⟨hc, hf⟩ := bcell hb) | (go_at_call 78; (with_reducible refine (HC1.out _ hb).mono ?_); rintro e w2 ⟨rfl, hb2⟩; have hb3 : Below (w.alloc (boxP p A c 24)).heap.size (w.alloc (boxP p A c 24)) w2 := hb.trans (hb2.mono hb.size); obtain ⟨hc2, hf2⟩ := bcell hb3) | (go_at_call 78; refine (HC2.out _ hb3).mono ?_; rintro e w4 ⟨rfl, hb4⟩))
    go_loopw [9] (fun vi wr => ∃ i : Nat, i ≤ a.length ∧ vi = .int .i64 i ∧ Below w.heap.size w wr ∧ Hid (∀ j, j < i → (at0 a j != at0 b j) = false))
      (fun vi _ => a.length - (intOf vi).toNat)
    case atStart => exact ⟨0, Nat.zero_le _, rfl, (hbox.trans (hb3.mono (by simp))).trans (hb4.mono (by have := hb3.size; simp at this; omega)), fun j h => absurd h (by omega)⟩
    case round =>
      clear hb hb2 hb3 hb4 hc hf hc2 hf2
      obtain ⟨i, hi, rfl, hb, hall⟩ := hrel
      by_cases hlt : i < a.length
      · obtain ⟨a1, rfl, q1⟩ := at_i (Kd.C_below HL0.out hb) i hlt
        obtain ⟨a2, rfl, q2⟩ := at_i (Kd.C_below HM0.out hb) i (by have := HAB.out; omega)
        have j1 : (i : Int) < (a.length : Int) := by omega
        have j2 : (i : Int) < (b.length : Int) := by have := HAB.out; omega
        change _ = some (Value.int .i64 (at0 a i)) at q1
        change _ = some (Value.int .i64 (at0 b i)) at q2
        cases hne : (at0 a i != at0 b i) with
        | true =>
          have HD := Lib.hid (show diffF a b = some i from find_range_some hlt hall.out hne)
          go_wp2
          go_quiet (fail)
          go_wp2
          go_ret3
          refine ⟨?_, by repeat (first | exact hb | refine pw_below_drewN ?_ _)⟩
          rw [HR.out, HD.out]; rfl
        | false =>
          have HNE := Lib.hid hne
          go_wp2
          go_quiet (fail)
          go_wp2
          go_roundw
          case rel => exact ⟨i + 1, by omega, by go_num, by repeat (first | exact hb | refine pw_below_drewN ?_ _), fun j h => by
            rcases Nat.lt_or_ge j i with h3 | h3
            · exact hall.out j h3
            · obtain rfl : j = i := by omega
              exact HNE.out⟩
          case measure => simp [intOf]; omega
      · obtain rfl : i = a.length := by omega
        have HD := Lib.hid (show diffF a b = none from find_range_none hall.out)
        go_wp2
        go_ret3
        refine ⟨?_, hb⟩
        rw [HR.out, HD.out]; rfl
end Go.Proofs.YtiidkekmklbobaaDoor
