/- The tied card of PillowPairs: whatever the input, PillowPairs returns true and its arguments read as they did; under no condition beyond the row's own (the listed tables as the program's text lays them, tied). -/
import Derived.Test.YtiidkekmklbobaaDoorM9
import Derived.Test.YtiidkekmklbobaaDoorMJ
import Derived.Test.YtiidkekmklbobaaDoorM2
import Derived.Test.YtiidkekmklbobaaDoorM6
set_option linter.unusedVariables false
set_option linter.unusedSimpArgs false
namespace Go.Proofs.YtiidkekmklbobaaDoor
open Go.RowKit Go.Proofs.YtiidkekmklbobaaDoorW.PrintWords
/-! ## Plain: a case remains exactly if no two entries contradict each other -/
theorem loads_le2 (p : Pil) (hp : Ok p) (i : Nat) (st : Int) : (loadsF p i st).1 ≤ (loadsF p i st).2 := by
  have := hp.w i
  have h1 := hp.n0
  have h2 := hp.n1
  have h3 := hp.s0
  have h4 := hp.s1
  change 0 ≤ p.wt i ∧ p.wt i ≤ 65536 at this
  unfold loadsF
  split
  · dsimp only; omega
  · split
    · dsimp only; omega
    · decide
theorem acc_par (p : Pil) (ws : List (Int × Int)) (l : List Int) (hw : weatherB p ws = true) (j e j' e' : Nat) (h : j + e = j' + e') : ∀ d,
    (accF p ws l j (e + d)).1 - (accF p ws l j e).1 ≤ (accF p ws l j' (e' + d)).2 - (accF p ws l j' e').2
  | 0 => by simp
  | d + 1 => by
    have ih := acc_par p ws l hw j e j' e' h d
    have hs := weather_at hw (j + (e + d))
    have e1 : accF p ws l j (e + (d + 1)) = ((accF p ws l j (e + d)).1 + (sp ws (j + (e + d))).1, (accF p ws l j (e + d)).2 + (sp ws (j + (e + d))).2) := rfl
    have e2 : accF p ws l j' (e' + (d + 1)) = ((accF p ws l j' (e' + d)).1 + (sp ws (j' + (e' + d))).1, (accF p ws l j' (e' + d)).2 + (sp ws (j' + (e' + d))).2) := rfl
    rw [e1, e2, show j' + (e' + d) = j + (e + d) by omega]
    dsimp only
    omega
theorem fwd_acc_le (p : Pil) (ws : List (Int × Int)) (l : List Int) (j : Nat) : ∀ d, (accF p ws l j d).1 ≤ (fwd p ws l (j + d)).1 ∧ (fwd p ws l (j + d)).2 ≤ (accF p ws l j d).2
  | 0 => by
    cases j with
    | zero => exact ⟨Int.le_refl _, Int.le_refl _⟩
    | succ j =>
      show (loadsF p (j + 1) (at0 l (j + 1))).1 ≤ max _ _ ∧ min _ _ ≤ (loadsF p (j + 1) (at0 l (j + 1))).2
      omega
  | d + 1 => by
    have ih := fwd_acc_le p ws l j d
    show (accF p ws l j d).1 + (sp ws (j + d)).1 ≤ max _ ((fwd p ws l (j + d)).1 + (sp ws (j + d)).1) ∧ min _ ((fwd p ws l (j + d)).2 + (sp ws (j + d)).2) ≤ (accF p ws l j d).2 + (sp ws (j + d)).2
    omega
theorem fwd_is_lo (p : Pil) (ws : List (Int × Int)) (l : List Int) : ∀ i, ∃ j d, j + d = i ∧ (fwd p ws l i).1 = (accF p ws l j d).1
  | 0 => ⟨0, 0, rfl, rfl⟩
  | i + 1 => by
    obtain ⟨j, d, hj, he⟩ := fwd_is_lo p ws l i
    have e1 : (fwd p ws l (i + 1)).1 = max (loadsF p (i + 1) (at0 l (i + 1))).1 ((fwd p ws l i).1 + (sp ws i).1) := rfl
    rcases Int.le_total (loadsF p (i + 1) (at0 l (i + 1))).1 ((fwd p ws l i).1 + (sp ws i).1) with h | h
    · refine ⟨j, d + 1, by omega, ?_⟩
      rw [e1, Int.max_eq_right h, he]
      show _ = (accF p ws l j d).1 + (sp ws (j + d)).1
      rw [hj]
    · refine ⟨i + 1, 0, rfl, ?_⟩
      rw [e1, Int.max_eq_left h]
      rfl
theorem fwd_is_hi (p : Pil) (ws : List (Int × Int)) (l : List Int) : ∀ i, ∃ j d, j + d = i ∧ (fwd p ws l i).2 = (accF p ws l j d).2
  | 0 => ⟨0, 0, rfl, rfl⟩
  | i + 1 => by
    obtain ⟨j, d, hj, he⟩ := fwd_is_hi p ws l i
    have e1 : (fwd p ws l (i + 1)).2 = min (loadsF p (i + 1) (at0 l (i + 1))).2 ((fwd p ws l i).2 + (sp ws i).2) := rfl
    rcases Int.le_total ((fwd p ws l i).2 + (sp ws i).2) (loadsF p (i + 1) (at0 l (i + 1))).2 with h | h
    · refine ⟨j, d + 1, by omega, ?_⟩
      rw [e1, Int.min_eq_right h, he]
      show _ = (accF p ws l j d).2 + (sp ws (j + d)).2
      rw [hj]
    · refine ⟨i + 1, 0, rfl, ?_⟩
      rw [e1, Int.min_eq_left h]
      rfl
theorem alive_pairs (p : Pil) (ws : List (Int × Int)) (l : List Int) (hp : Ok p) (hw : weatherB p ws = true) :
    aliveF p ws l = true ↔ ∀ i k, i < k → k < l.length → contraB p ws l i k = false := by
  constructor
  · intro h i k hik hk
    have hok : fwdOk p ws l k = true := by
      unfold aliveF at h
      rw [List.all_eq_true] at h
      exact h k (by simpa using hk)
    unfold fwdOk at hok
    rw [decide_eq_true_eq] at hok
    have h1 := fwd_acc_le p ws l i (k - i)
    rw [show i + (k - i) = k by omega] at h1
    have h2 := fwd_acc_le p ws l k 0
    have e0 : accF p ws l k 0 = loadsF p k (at0 l k) := rfl
    rw [e0, Nat.add_zero] at h2
    unfold contraB
    rw [decide_eq_false_iff_not]
    omega
  · intro h
    unfold aliveF
    rw [List.all_eq_true]
    intro i hi
    have hi : i < l.length := by simpa using hi
    unfold fwdOk
    rw [decide_eq_true_eq]
    obtain ⟨j, d, hj, e1⟩ := fwd_is_lo p ws l i
    obtain ⟨j', d', hj', e2⟩ := fwd_is_hi p ws l i
    rw [e1, e2]
    rcases Nat.lt_trichotomy j j' with hlt | heq | hgt
    · have hc := h j j' hlt (by omega)
      unfold contraB at hc
      rw [decide_eq_false_iff_not] at hc
      have hp2 := acc_par p ws l hw j (j' - j) j' 0 (by omega) d'
      rw [show j' - j + d' = d by omega, Nat.zero_add] at hp2
      have e0 : accF p ws l j' 0 = loadsF p j' (at0 l j') := rfl
      rw [e0] at hp2
      omega
    · subst heq
      have : d = d' := by omega
      subst this
      have hp2 := acc_par p ws l hw j 0 j 0 rfl d
      rw [Nat.zero_add] at hp2
      have e0 : accF p ws l j 0 = loadsF p j (at0 l j) := rfl
      rw [e0] at hp2
      have := loads_le2 p hp j (at0 l j)
      omega
    · have hc := h j' j hgt (by omega)
      unfold contraB at hc
      rw [decide_eq_false_iff_not] at hc
      have hp2 := acc_par p ws l hw j 0 j' (j - j') (by omega) d
      rw [show j - j' + d = d' by omega, Nat.zero_add] at hp2
      have e0 : accF p ws l j 0 = loadsF p j (at0 l j) := rfl
      rw [e0] at hp2
      omega
theorem pairF_none {f : Nat → Nat → Bool} {n : Nat} (h : pairF f n = none) : ∀ i k, i < k → k < n → f i k = false := by
  intro i k hik hk
  unfold pairF at h
  rw [List.findSome?_eq_none_iff] at h
  have := h i (by simp; omega)
  rw [Option.map_eq_none_iff, List.find?_eq_none] at this
  have := this k (by simpa using hk)
  simpa [hik] using this
theorem pairF_some {f : Nat → Nat → Bool} {n : Nat} {x : Nat × Nat} (h : pairF f n = some x) : x.1 < x.2 ∧ x.2 < n ∧ f x.1 x.2 = true := by
  unfold pairF at h
  obtain ⟨i, _, h2⟩ := List.exists_of_findSome?_eq_some h
  rw [Option.map_eq_some_iff] at h2
  obtain ⟨k, hk, rfl⟩ := h2
  have h3 := List.find?_some hk
  have h4 := List.mem_of_find?_eq_some hk
  simp only [Bool.and_eq_true, decide_eq_true_eq] at h3
  exact ⟨h3.1, by simpa using h4, h3.2⟩
/-- Refute's answer against Alive's. -/
theorem refute_alive (p : Pil) (ws : List (Int × Int)) (l : List Int) (hp : Ok p) (hw : weatherB p ws = true) : (refuteF p ws l).isSome = !aliveF p ws l := by
  cases h : refuteF p ws l with
  | none =>
    have := (alive_pairs p ws l hp hw).2 (pairF_none h)
    simp [this]
  | some x =>
    obtain ⟨h1, h2, h3⟩ := pairF_some h
    cases ha : aliveF p ws l with
    | false => rfl
    | true =>
      have := (alive_pairs p ws l hp hw).1 ha x.1 x.2 h1 h2
      rw [h3] at this
      cases this
end Go.Proofs.YtiidkekmklbobaaDoor
set_option linter.unusedVariables false
set_option linter.unusedSimpArgs false
namespace Go.Proofs.YtiidkekmklbobaaDoor
open Go.RowKit Go.Proofs.YtiidkekmklbobaaDoorW.PrintWords
attribute [local go_sem] mx_two mn_two blk_add
theorem pairs_cond (p : Pil) (ws : List (Int × Int)) (l : List Int) (x1 x2 : Int) :
    ((aliveR p ws l).2 ≠ 0 ∧ (aliveR p ws l).1 = false ∧ (refuteR p ws l).2.1 = false ∧ (refuteR p ws l).2.2 = (aliveR p ws l).2) ∨
    ((aliveR p ws l).2 = 0 ∧ (aliveR p ws l).1 = true ∧ (refuteR p ws l).2.1 = false ∧ (refuteR p ws l).2.2 = 0 ∧ chkrefF p ws l x1 x2 = 33) ∨
    ((aliveR p ws l).2 = 0 ∧ (aliveR p ws l).1 = false ∧ (refuteR p ws l).2.1 = true ∧ (refuteR p ws l).2.2 = 0 ∧ chkrefF p ws l (refuteR p ws l).1.1 (refuteR p ws l).1.2 = 0) := by
  rcases told_cases p ws l with ⟨h0, h1, h2, h3⟩ | h0
  · have hp := ok_of_check h1
    have hra := refute_alive p ws l hp h2
    have e1 : aliveR p ws l = (aliveF p ws l, 0) := by unfold aliveR; rw [if_pos h0]
    right
    cases hr : refuteF p ws l with
    | none =>
      left
      rw [hr] at hra
      have e2 : refuteR p ws l = ((0, 0), false, 0) := by unfold refuteR; rw [if_pos h0, hr]
      have ha : aliveF p ws l = true := by cases h : aliveF p ws l <;> simp_all
      rw [e1, e2, ha]
      refine ⟨rfl, rfl, rfl, rfl, ?_⟩
      unfold chkrefF
      rw [if_pos h0, if_neg]
      simp only [pairB, Bool.and_eq_true, decide_eq_true_eq, not_and, Bool.not_eq_true]
      intro q1 q2 q3
      exact (alive_pairs p ws l hp h2).1 ha x1.toNat x2.toNat (by omega) (by omega)
    | some x =>
      right
      rw [hr] at hra
      have e2 : refuteR p ws l = (((x.1 : Int), (x.2 : Int)), true, 0) := by unfold refuteR; rw [if_pos h0, hr]
      have ha : aliveF p ws l = false := by cases h : aliveF p ws l <;> simp_all
      rw [e1, e2, ha]
      obtain ⟨q1, q2, q3⟩ := pairF_some hr
      refine ⟨rfl, rfl, rfl, rfl, ?_⟩
      show chkrefF p ws l (x.1 : Int) (x.2 : Int) = 0
      rw [pair_is h0 q1 q2, q3]
      rfl
  · left
    have e1 : aliveR p ws l = (false, toldF p ws l) := by unfold aliveR; rw [if_neg h0]
    have e2 : refuteR p ws l = ((0, 0), false, toldF p ws l) := by unfold refuteR; rw [if_neg h0]
    rw [e1, e2]
    exact ⟨h0, rfl, rfl, rfl⟩
set_option maxRecDepth 100000 in
set_option maxHeartbeats 1600000 in
theorem pairs_law (p : Pil) (A : Option Addr) (c : Nat) (A1 : Option Addr) (c1 : Nat) (ws : List (Int × Int)) (A2 : Option Addr) (c2 : Nat) (l : List Int) (x1 x2 : Int) (w : World) (hA : Kd.C kSpan w A p.log.length p.log) (hw : Kd.C kSpan w A1 ws.length ws) (hl : Kd.C kInt w A2 l.length l) (ht : Tab w) :
    Calls Tryd.prog 7 #[p.val A c, .slice A1 ws.length c1, .slice A2 l.length c2, spv x1 x2] w fun e w' => e = .returned (.bool true) ∧ Below w.heap.size w w' := by
  have hbox : Below w.heap.size w ((w.alloc (boxP p A c 24)).alloc (.cells #[.int .i64 x1, .int .i64 x2] 49)) := ((Below.refl _ _).alloc (Nat.le_refl _) _).alloc (by simp) _
  have HB0 := Lib.hid hbox
  have HALL : Hid (∀ w3, Below w.heap.size w w3 → Kd.C kSpan w3 A p.log.length p.log ∧ Kd.C kSpan w3 A1 ws.length ws ∧ Kd.C kInt w3 A2 l.length l ∧ Tab w3) := fun w3 h3 =>
    ⟨Kd.C_below hA h3, Kd.C_below hw h3, Kd.C_below hl h3, ht.below h3⟩
  clear hA hw hl ht hbox
  go_enter Tryd.func7, Tryd.ntmps7
  go_upto_region 1 with (fail)
  have HX0 : Hid (Blk ((w.alloc (boxP p A c 24)).alloc (.cells #[.int .i64 x1, .int .i64 x2] 49)) w.heap.size 24 (cellsP p A c)) := (Blk.new w 24 _).alloc _
  have HY0 : Hid (Blk ((w.alloc (boxP p A c 24)).alloc (.cells #[.int .i64 x1, .int .i64 x2] 49)) (w.heap.size + 1) 49 [.int .i64 x1, .int .i64 x2]) := by
    have := Blk.new (w.alloc (boxP p A c 24)) 49 [.int .i64 x1, .int .i64 x2]
    exact Lib.hid (by simpa using this)
  generalize (w.alloc (.cells #[.int .i64 p.no, .int .i64 p.cell, .int .i64 p.noise, .int .i64 p.slab, .int .i64 p.jump, .int .i64 p.faults, .slice A p.log.length c] 24)).alloc (.cells #[.int .i64 x1, .int .i64 x2] 49) = W0 at HB0 HX0 HY0 ⊢
  obtain ⟨e0, e1, e2, e3, e4, e5, e6⟩ := HX0.out.p7
  obtain ⟨y0, y1⟩ := HY0.out.p2
  have hz := HX0.out.lt
  have hz1 := HY0.out.lt
  go_upto_region 3 with (go_at_call 16; refine (sane_any _ (HALL.out _ HB0.out).2.2.2).mono ?_; rintro e w1 ⟨rfl, hb⟩; obtain ⟨hc, hf⟩ := bcell hb; have hs := hb.size)
  have HK1 := Lib.hid hb
  clear hb
  have HE : Hid (∀ W, Below W0.heap.size W0 W → Calls Tryd.prog 20 #[p.val A c, .slice A1 ws.length c1, .slice A2 l.length c2] W fun e w' => e = .returned (.tuple #[.bool (aliveR p ws l).1, .int .i64 (aliveR p ws l).2]) ∧ Below W.heap.size W w') := fun W hW => by
    obtain ⟨f1, f2, f3, _⟩ := HALL.out W (HB0.out.trans (hW.mono HB0.out.size))
    exact alive_any p A c A1 c1 ws A2 c2 l W f1 f2 f3
  have HR : Hid (∀ W, Below W0.heap.size W0 W → Calls Tryd.prog 32 #[p.val A c, .slice A1 ws.length c1, .slice A2 l.length c2] W fun e w' => e = .returned (refuteV (refuteR p ws l)) ∧ Below W.heap.size W w') := fun W hW => by
    obtain ⟨f1, f2, f3, _⟩ := HALL.out W (HB0.out.trans (hW.mono HB0.out.size))
    exact refute_any p A c A1 c1 ws A2 c2 l W f1 f2 f3
  have HC : Hid (∀ x y W, Below W0.heap.size W0 W → Calls Tryd.prog 34 #[p.val A c, .slice A1 ws.length c1, .slice A2 l.length c2, spv x y] W fun e w' => e = .returned (.int .i64 (chkrefF p ws l x y)) ∧ Below W.heap.size W w') := fun x y W hW => by
    obtain ⟨f1, f2, f3, _⟩ := HALL.out W (HB0.out.trans (hW.mono HB0.out.size))
    exact chkref_any p A c A1 c1 ws A2 c2 l x y W f1 f2 f3
  have hcond := pairs_cond p ws l x1 x2
  generalize aliveR p ws l = S at HE hcond
  generalize refuteR p ws l = R at HR hcond
  obtain ⟨al, E⟩ := S
  obtain ⟨⟨a, b⟩, bo, en⟩ := R
  simp only [refuteV, spv] at HR HE hcond
  have HX := Lib.hid (HC.out x1 x2)
  have HY := Lib.hid (HC.out a b)
  generalize chkrefF p ws l x1 x2 = Ex at HX hcond
  generalize chkrefF p ws l a b = Ey at HY hcond
  clear HC
  rcases hcond with ⟨q1, rfl, rfl, rfl⟩ | ⟨rfl, rfl, rfl, rfl, rfl⟩ | ⟨rfl, rfl, rfl, rfl, rfl⟩
  all_goals
    go_upto_region 4 with (go_at_call 20; refine (HE.out _ HK1.out).mono ?_; rintro e w2 ⟨rfl, hb2⟩; obtain ⟨hc2, hf2⟩ := bcell hb2; have hs2 := hb2.size)
    have HK2 : Hid (Below W0.heap.size W0 w2) := HK1.out.trans (hb2.mono HK1.out.size)
    have HX2 := Lib.hid (HX0.out.below HK2.out)
    have HY2 := Lib.hid (HY0.out.below HK2.out)
    clear e0 e1 e2 e3 e4 e5 e6 y0 y1 HX0 HY0 hb2 hc2 hf2 hs2 hc hf hs HE
    obtain ⟨e0, e1, e2, e3, e4, e5, e6⟩ := HX2.out.p7
    obtain ⟨y0, y1⟩ := HY2.out.p2
    go_upto_region 5 with (go_at_call 32; refine (HR.out _ HK2.out).mono ?_; rintro e w3 ⟨rfl, hb3⟩; obtain ⟨hc3, hf3⟩ := bcell hb3; have hs3 := hb3.size)
    have HK3 := Lib.hid ((HK2.out.trans (hb3.mono HK2.out.size)).alloc (Nat.le_trans HK2.out.size hs3) (.cells #[.int .i64 a, .int .i64 b] 49))
    have HK23 : Hid (Below w2.heap.size w2 (w3.alloc (.cells #[.int .i64 a, .int .i64 b] 49))) := hb3.alloc hs3 _
    have HX3 := Lib.hid (HX2.out.below HK23.out)
    have HY3 := Lib.hid (HY2.out.below HK23.out)
    have HU3 := Lib.hid (Blk.new w3 49 [.int .i64 a, .int .i64 b])
    generalize w3.heap.size = g3 at HU3 ⊢
    change Hid (Blk (w3.alloc (.cells #[.int .i64 a, .int .i64 b] 49)) g3 49 _) at HU3
    generalize w3.alloc (.cells #[.int .i64 a, .int .i64 b] 49) = W3 at HK3 HX3 HY3 HU3 HK23 ⊢
    clear e0 e1 e2 e3 e4 e5 e6 y0 y1 HX2 HY2 hb3 hc3 hf3 hs3 HR
    obtain ⟨e0, e1, e2, e3, e4, e5, e6⟩ := HX3.out.p7
    obtain ⟨y0, y1⟩ := HY3.out.p2
    obtain ⟨u0, u1⟩ := HU3.out.p2
    go_wp2_with (first | (go_at_call 34; (with_reducible refine (HY.out _ HK3.out).mono ?_); rintro e w4 ⟨rfl, hb4⟩) | (go_at_call 34; (with_reducible refine (HX.out _ HK3.out).mono ?_); rintro e w4 ⟨rfl, hb4⟩))
    go_ret
    first
      | exact ⟨rfl, HB0.out.trans (HK3.out.mono HB0.out.size)⟩
      | exact ⟨rfl, HB0.out.trans ((HK3.out.trans (hb4.mono HK3.out.size)).mono HB0.out.size)⟩
end Go.Proofs.YtiidkekmklbobaaDoor
set_option linter.unusedVariables false
set_option linter.unusedSimpArgs false
namespace Go.Proofs.YtiidkekmklbobaaDoor
open Go.ChangeShapes Go.WideShapes Go.ChangeAt Go.RowKit
set_option maxRecDepth 100000 in
theorem pillowPairs_lifted (os : Os) (started : os.Started) (H : Type) (enc : TypeId × Value → H) :
    ReturnsInHanded {} Tryd.checked os 7 .any (fun w args => (Rows.pillowPairsSpec.pre enc Tryd.prog Tryd.f7 [] false w args ∧ laidMetH Tryd.prog laid3 w) ∧ sizedMet enc Tryd.prog Tryd.f7 (OpenSpec.ofChange Rows.pillowPairsSpec) false w args)
      (Rows.pillowPairsSpec.post enc Tryd.prog Tryd.f7 false true false false) := by
  refine returnsInHanded_of_change_and (C := Tryd.checked) (X := fun w _ => laidMetH Tryd.prog laid3 w) (fun _ _ _ hh h => h.of_heap hh) own_none started (by kernel_rfl) Tryd.func7
    (ChangeSpec.witness_shaped (enc := enc) (C := Tryd.checked) (os := os) (X := fun w _ => laidMetH Tryd.prog laid3 w) false (World.doorLaid Tryd.prog 400 os) #[.agg #[.int .i64 0, .int .i64 0, .int .i64 0, .int .i64 0, .int .i64 0, .int .i64 0, .slice none 0 0], .slice none 0 0, .slice none 0 0, .agg #[.int .i64 0, .int .i64 0]] 8 rfl (World.shaped_of_RefB (by kernel_rfl) (by kernel_rfl)) (by kernel_rfl) (by kernel_rfl) (by kernel_rfl) (door_met os _)) ?_
  intro W base args ds gs before hval0 hW _ _ hL _
  have hval : ∀ (j : Nat) t v, Tryd.f7.params[j]? = some t → args[j]? = some v → Value.okWide Tryd.prog W .any base t v := hval0
  have hW' := hW
  obtain ⟨p, q, hA0, hV, rfl, hfz, hnd⟩ := hW
  have hA : DataW.TrodAll enc Tryd.prog W 0 (fun _ => true) true Tryd.f7.params.toList args.toList ds p := hA0
  rw [Tryd.params7] at hA hval
  obtain ⟨v0, vs0, d0, ds0, p0, q0, hargs, rfl, rfl, h0, r0⟩ := trodAll_cons hA
  obtain ⟨v1, vs1, d1, ds1, p1, q1, rfl, rfl, rfl, h1, r1⟩ := trodAll_cons r0
  obtain ⟨v2, vs2, d2, ds2, p2, q2, rfl, rfl, rfl, h2, r2⟩ := trodAll_cons r1
  obtain ⟨v3, vs3, d3, ds3, p3, q3, rfl, rfl, rfl, h3, r3⟩ := trodAll_cons r2
  obtain ⟨rfl, rfl, rfl⟩ := trodAll_nil r3
  obtain rfl : args = #[v0, v1, v2, v3] := by cases args; simp_all
  obtain ⟨rfl, rfl⟩ := trodVars_none hV
  have lt0 : ∀ x ∈ p0, x.block < W.heap.size := by obtain ⟨m, hm⟩ := h0; exact DataW.trod_lt m _ _ _ hm
  obtain ⟨x0, A0, c0, rfl, hc0, hR0, hm0, hn0, hw0⟩ := open_pil (hval 0 24 v0 rfl rfl) h0
  have lt1 : ∀ x ∈ p1, x.block < W.heap.size := by obtain ⟨m, hm⟩ := h1; exact DataW.trod_lt m _ _ _ hm
  obtain ⟨A1, c1, l1, rfl, hc1, hR1, hm1, hw1⟩ := open_spans (hval 1 25 v1 rfl rfl) h1
  have lt2 : ∀ x ∈ p2, x.block < W.heap.size := by obtain ⟨m, hm⟩ := h2; exact DataW.trod_lt m _ _ _ hm
  obtain ⟨A2, c2, l2, rfl, hc2, hR2, hm2, hw2⟩ := open_list (hval 2 26 v2 rfl rfl) h2
  have lt3 : ∀ x ∈ p3, x.block < W.heap.size := by obtain ⟨m, hm⟩ := h3; exact DataW.trod_lt m _ _ _ hm
  obtain ⟨a3, b3, rfl, hwa3, hwb3⟩ := open_pair (hval 3 49 v3 rfl rfl) h3
  have htab := tab_of_laid hL
  clear hA0 hval0
  simp only [List.append_nil] at hW'
  refine (pairs_law x0 A0 c0 A1 c1 l1 A2 c2 l2 a3 b3 W hR0 hR1 hR2 htab).mono fun e W' ⟨he, bel⟩ => ?_
  subst he
  exact ⟨_, rfl, _, _, _, [], _, [], hW', trodAll_mk1 (shut_bool Tryd.underlying4 _), (trodAll_cons_mk (Below.trod laid_out (by kernel_rfl) (of_decide_eq_true (by kernel_rfl)) h0 bel lt0) (trodAll_cons_mk (Below.trod laid_out (by kernel_rfl) (of_decide_eq_true (by kernel_rfl)) h1 bel lt1) (trodAll_cons_mk (Below.trod laid_out (by kernel_rfl) (of_decide_eq_true (by kernel_rfl)) h2 bel lt2) (trodAll_cons_mk (Below.trod laid_out (by kernel_rfl) (of_decide_eq_true (by kernel_rfl)) h3 bel lt3) trodAll_mk0)))), rfl, bel.frame _, fun h => by cases h⟩
theorem pillowPairs_holds : Rows.PillowPairsSaid :=
  OpenClaim.holds_of_wide 7 Tryd.f7 rfl rfl rfl rfl rfl rfl rfl ⟨rfl, rfl, rfl, rfl, rfl⟩ rfl rfl rfl rfl rfl (by kernel_rfl) Tryd.func7 (by kernel_rfl)
    (of_decide_eq_true (by kernel_rfl)) (by unfold Func.isWrapper; first | (rw [if_pos (by decide +kernel)]; kernel_rfl) | (rw [if_neg (by decide +kernel)]; exact ⟨rfl, rfl⟩))
    (fun os started H enc _ => pillowPairs_lifted os started H enc)
theorem pillowPairs_card : Rows.PillowPairsCardSaid :=
  Claim7.holds_tied_plain_at .later [] [.data, .data, .data] true (true, "a0002efd006c31436651839d86a6c7dddfc6e496a9d3301b07fd3f220070f58a") false
    pillowPairs_holds (fun _ h => by cases h) (by kernel_rfl) (fun _ h => by cases h) pillowPairs_row_tie rfl ⟨rfl, rfl⟩ (by kernel_rfl) rfl
    (fun f fn hf hfn => by
      obtain rfl : f = 7 := Option.some.inj ((show Tryd.prog.funcNamed "snowline/snowlinelaw03.PillowPairs" = some 7 by kernel_rfl).symm.trans hf) |>.symm
      obtain rfl : fn = Tryd.f7 := (Option.some.inj (Tryd.func7.symm.trans hfn)).symm
      exact ⟨by kernel_rfl, fun j t ht => by
        rw [Tryd.params7] at ht
        have hm : t ∈ [24, 25, 26, 49] := by simpa using Array.mem_of_getElem? ht
        have hall : ([24, 25, 26, 49].all fun u => !Tryd.prog.wantsStandIn u) = true := by kernel_rfl
        exact (show Tryd.prog.wantsStandIn t = false by simpa using List.all_eq_true.1 hall t hm)⟩)
    (by kernel_rfl)
end Go.Proofs.YtiidkekmklbobaaDoor
