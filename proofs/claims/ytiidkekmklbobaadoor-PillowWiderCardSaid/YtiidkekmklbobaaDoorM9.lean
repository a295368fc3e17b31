/- Contracts: the laws' comparisons, example, sane. -/
import Derived.Test.YtiidkekmklbobaaDoorM7
import Derived.Test.YtiidkekmklbobaaDoorWEqStruct
import Derived.Test.YtiidkekmklbobaaDoorM8
set_option linter.unusedVariables false
set_option linter.unusedSimpArgs false
namespace Go.Proofs.YtiidkekmklbobaaDoor
open Go.RowKit Go.Proofs.YtiidkekmklbobaaDoorW.PrintWords
attribute [local go_sem] mx_two mn_two blk_add
theorem eq_int (d : Nat) (a c : Int) (w : World) : (Op.equalIn (d + 1) 3 (.int .i64 a) (.int .i64 c)).run Tryd.prog w = .ok (a == c) w := by
  simp [Op.equalIn, run_underlying Tryd.underlying3]
theorem eq_span (a b c d : Int) (w : World) : (Op.equalIn 10000 42 (spv a b) (spv c d)).run Tryd.prog w = .ok (a == c && b == d) w := by
  refine eqA_of Tryd.underlying42 (by kernel_rfl) ?_
  refine eqf_cons (a := .int .i64 a) (b := .int .i64 c) rfl (by kernel_rfl) (by kernel_rfl) (eq_int 9998 a c w) ?_
  exact eqf_last (a := .int .i64 b) (b := .int .i64 d) rfl (by kernel_rfl) (by kernel_rfl) (eq_int 9998 b d w)
theorem neq_span (a b c d : Int) (w : World) : (binOp .neq 42 (spv a b) (spv c d)).run Tryd.prog w = .ok (.bool (!(a == c && b == d))) w := by
  rw [run_neq_struct, eq_span]; rfl
theorem list_eq_of {α : Type} (d : α) (a b : List α) (h : a.length = b.length) (he : ∀ i, i < a.length → a.getD i d = b.getD i d) : a = b := by
  apply List.ext_getElem h
  intro i h1 h2
  have := he i h1
  rw [List.getD_eq_getElem?_getD, List.getElem?_eq_getElem h1, List.getD_eq_getElem?_getD, List.getElem?_eq_getElem h2] at this
  exact this
theorem list_ne_of {α : Type} (d : α) (a b : List α) (i : Nat) (he : a.getD i d ≠ b.getD i d) : a ≠ b := fun h => he (by rw [h])
/-! ## The comparisons of the laws -/
set_option maxRecDepth 100000 in
set_option maxHeartbeats 1600000 in
theorem ints_any (A1 : Option Addr) (c1 : Nat) (a : List Int) (A2 : Option Addr) (c2 : Nat) (b : List Int) (w : World) (ha : Kd.C kInt w A1 a.length a) (hb : Kd.C kInt w A2 b.length b) :
    Calls Tryd.prog 37 #[.slice A1 a.length c1, .slice A2 b.length c2] w fun e w' => e = .returned (.bool (a == b)) ∧ Below w.heap.size w w' := by
  have hal := ha.2.1
  have HAA := Lib.hid ha
  have HBB := Lib.hid hb
  clear ha hb
  by_cases hl : a.length = b.length
  · have hd0 : ((a.length : Int) != (b.length : Int)) = false := by simp [hl]
    have HL := Lib.hid hl
    clear hl
    go_enter Tryd.func37, Tryd.ntmps37
    go_wp2
    go_loopw [5] (fun vk wr => ∃ k : Nat, k ≤ a.length ∧ vk = .int .i64 k ∧ Below w.heap.size w wr ∧ Hid (∀ j, j < k → a.getD j 0 = b.getD j 0))
      (fun vk _ => a.length - (intOf vk).toNat)
    case atStart => exact ⟨0, by omega, rfl, Below.refl _ _, fun j h => absurd h (by omega)⟩
    case round =>
      obtain ⟨k, hk, rfl, hb, hall⟩ := hrel
      by_cases hlt : k < a.length
      · have j1 : (k : Int) < (a.length : Int) := by omega
        have j2 : (k : Int) < (b.length : Int) := by have := HL.out; omega
        obtain ⟨a1, rfl, q1⟩ := at_i (Kd.C_below HAA.out hb) k hlt
        obtain ⟨a2, rfl, q2⟩ := at_i (Kd.C_below HBB.out hb) k (by have := HL.out; omega)
        have HKN := Lib.hid (show a.getD k 0 = b.getD k 0 → ∀ j, j < k + 1 → a.getD j 0 = b.getD j 0 from fun he j hj => by
          rcases Nat.lt_or_ge j k with h3 | h3
          · exact hall.out j h3
          · obtain rfl : j = k := by omega
            exact he)
        have HNE := Lib.hid (show a.getD k 0 ≠ b.getD k 0 → (a == b) = false from fun he => by simpa using list_ne_of 0 a b k he)
        generalize a.getD k 0 = X at *
        generalize b.getD k 0 = Y at *
        by_cases hxy : X = Y
        · have HKN2 := Lib.hid (HKN.out hxy)
          clear HNE HKN
          have hd : (X != Y) = false := by simp [hxy]
          clear hxy
          go_wp2
          go_quiet (fail)
          go_wp2
          go_roundw
          case rel => exact ⟨k + 1, by omega, by go_num, pw_below_drewN hb _, HKN2.out⟩
          case measure => simp [intOf]; omega
        · have HNE2 := Lib.hid (HNE.out hxy)
          clear HNE HKN
          have hd : (X != Y) = true := by simpa using hxy
          clear hxy
          go_wp2
          go_quiet (fail)
          go_wp2
          go_ret
          exact ⟨ret_bool HNE2.out.symm, pw_below_drewN hb _⟩
      · obtain rfl : k = a.length := by omega
        have HEQ := Lib.hid (show (a == b) = true from by simpa using list_eq_of 0 a b HL.out hall.out)
        go_wp2
        go_ret
        exact ⟨ret_bool HEQ.out.symm, hb⟩
  · have HNE := Lib.hid (show (a == b) = false from by simpa using fun h : a = b => hl (by rw [h]))
    have hd0 : ((a.length : Int) != (b.length : Int)) = true := by simp; omega
    have hd1 : (a.length != b.length) = true := by simpa using hl
    clear hl
    go_enter Tryd.func37, Tryd.ntmps37
    go_wp2
    go_ret
    exact ⟨ret_bool HNE.out.symm, Below.refl _ _⟩
set_option maxRecDepth 100000 in
set_option maxHeartbeats 1600000 in
theorem spans_any (A1 : Option Addr) (c1 : Nat) (a : List (Int × Int)) (A2 : Option Addr) (c2 : Nat) (b : List (Int × Int)) (w : World) (ha : Kd.C kSpan w A1 a.length a) (hb : Kd.C kSpan w A2 b.length b) :
    Calls Tryd.prog 25 #[.slice A1 a.length c1, .slice A2 b.length c2] w fun e w' => e = .returned (.bool (a == b)) ∧ Below w.heap.size w w' := by
  have hal := ha.2.1
  have HAA := Lib.hid ha
  have HBB := Lib.hid hb
  clear ha hb
  by_cases hl : a.length = b.length
  · have hd0 : ((a.length : Int) != (b.length : Int)) = false := by simp [hl]
    have HL := Lib.hid hl
    clear hl
    go_enter Tryd.func25, Tryd.ntmps25
    go_wp2
    go_loopw [5] (fun vk wr => ∃ k : Nat, k ≤ a.length ∧ vk = .int .i64 k ∧ Below w.heap.size w wr ∧ Hid (∀ j, j < k → a.getD j (0, 0) = b.getD j (0, 0)))
      (fun vk _ => a.length - (intOf vk).toNat)
    case atStart => exact ⟨0, by omega, rfl, Below.refl _ _, fun j h => absurd h (by omega)⟩
    case round =>
      obtain ⟨k, hk, rfl, hb, hall⟩ := hrel
      by_cases hlt : k < a.length
      · have j1 : (k : Int) < (a.length : Int) := by omega
        have j2 : (k : Int) < (b.length : Int) := by have := HL.out; omega
        obtain ⟨a1, rfl, q1, r1⟩ := at_span (Kd.C_below HAA.out hb) k hlt
        obtain ⟨a2, rfl, q2, r2⟩ := at_span (Kd.C_below HBB.out hb) k (by have := HL.out; omega)
        have HKN := Lib.hid (show a.getD k (0, 0) = b.getD k (0, 0) → ∀ j, j < k + 1 → a.getD j (0, 0) = b.getD j (0, 0) from fun he j hj => by
          rcases Nat.lt_or_ge j k with h3 | h3
          · exact hall.out j h3
          · obtain rfl : j = k := by omega
            exact he)
        have HNE := Lib.hid (show a.getD k (0, 0) ≠ b.getD k (0, 0) → (a == b) = false from fun he => by simpa using list_ne_of (0, 0) a b k he)
        generalize a.getD k (0, 0) = X at *
        generalize b.getD k (0, 0) = Y at *
        by_cases hxy : X = Y
        · have HKN2 := Lib.hid (HKN.out hxy)
          clear HNE HKN
          obtain ⟨X1, X2⟩ := X
          obtain ⟨Y1, Y2⟩ := Y
          have hq : ∀ W, (binOp .neq 42 (spv X1 X2) (spv Y1 Y2)).run Tryd.prog W = .ok (.bool false) W := fun W => by
            rw [neq_span]; injection hxy with h1 h2; subst h1; subst h2; simp
          clear hxy
          dsimp only at *
          go_wp2
          go_quiet (fail)
          go_wp2
          go_roundw
          case rel => exact ⟨k + 1, by omega, by go_num, pw_below_drewN hb _, HKN2.out⟩
          case measure => simp [intOf]; omega
        · have HNE2 := Lib.hid (HNE.out hxy)
          clear HNE HKN
          obtain ⟨X1, X2⟩ := X
          obtain ⟨Y1, Y2⟩ := Y
          have hq : ∀ W, (binOp .neq 42 (spv X1 X2) (spv Y1 Y2)).run Tryd.prog W = .ok (.bool true) W := fun W => by
            have hbq : (X1 == Y1 && X2 == Y2) = false := by
              rw [Bool.and_eq_false_iff]
              by_cases h1 : X1 = Y1
              · right; simp; intro h2; exact hxy (by rw [h1, h2])
              · left; simpa using h1
            rw [neq_span, hbq]; rfl
          clear hxy
          dsimp only at *
          go_wp2
          go_quiet (fail)
          go_wp2
          go_ret
          exact ⟨ret_bool HNE2.out.symm, pw_below_drewN hb _⟩
      · obtain rfl : k = a.length := by omega
        have HEQ := Lib.hid (show (a == b) = true from by simpa using list_eq_of (0, 0) a b HL.out hall.out)
        go_wp2
        go_ret
        exact ⟨ret_bool HEQ.out.symm, hb⟩
  · have HNE := Lib.hid (show (a == b) = false from by simpa using fun h : a = b => hl (by rw [h]))
    have hd0 : ((a.length : Int) != (b.length : Int)) = true := by simp; omega
    have hd1 : (a.length != b.length) = true := by simpa using hl
    clear hl
    go_enter Tryd.func25, Tryd.ntmps25
    go_wp2
    go_ret
    exact ⟨ret_bool HNE.out.symm, Below.refl _ _⟩
set_option maxRecDepth 100000 in
set_option maxHeartbeats 1600000 in
theorem lists_any (A1 : Option Addr) (c1 : Nat) (a : List (List Int)) (A2 : Option Addr) (c2 : Nat) (b : List (List Int)) (w : World) (ha : Kd.C kCase w A1 a.length a) (hb : Kd.C kCase w A2 b.length b) :
    Calls Tryd.prog 24 #[.slice A1 a.length c1, .slice A2 b.length c2] w fun e w' => e = .returned (.bool (a == b)) ∧ Below w.heap.size w w' := by
  have hal := ha.2.1
  have HAA := Lib.hid ha
  have HBB := Lib.hid hb
  clear ha hb
  by_cases hl : a.length = b.length
  · have hd0 : ((a.length : Int) != (b.length : Int)) = false := by simp [hl]
    have HL := Lib.hid hl
    clear hl
    go_enter Tryd.func24, Tryd.ntmps24
    go_wp2
    go_loopw [5] (fun vk wr => ∃ k : Nat, k ≤ a.length ∧ vk = .int .i64 k ∧ Below w.heap.size w wr ∧ Hid (∀ j, j < k → a.getD j [] = b.getD j []))
      (fun vk _ => a.length - (intOf vk).toNat)
    case atStart => exact ⟨0, by omega, rfl, Below.refl _ _, fun j h => absurd h (by omega)⟩
    case round =>
      obtain ⟨k, hk, rfl, hb, hall⟩ := hrel
      by_cases hlt : k < a.length
      · have j1 : (k : Int) < (a.length : Int) := by omega
        have j2 : (k : Int) < (b.length : Int) := by have := HL.out; omega
        obtain ⟨a1, B1, d1, rfl, q1, hq1, hC1⟩ := at_case (Kd.C_below HAA.out hb) k hlt
        obtain ⟨a2, B2, d2, rfl, q2, hq2, hC2⟩ := at_case (Kd.C_below HBB.out hb) k (by have := HL.out; omega)
        have HC1 := Lib.hid hC1
        have HC2 := Lib.hid hC2
        clear hC1 hC2
        have HKN := Lib.hid (show a.getD k [] = b.getD k [] → ∀ j, j < k + 1 → a.getD j [] = b.getD j [] from fun he j hj => by
          rcases Nat.lt_or_ge j k with h3 | h3
          · exact hall.out j h3
          · obtain rfl : j = k := by omega
            exact he)
        have HNE := Lib.hid (show a.getD k [] ≠ b.getD k [] → (a == b) = false from fun he => by simpa using list_ne_of [] a b k he)
        generalize a.getD k [] = X at *
        generalize b.getD k [] = Y at *
        by_cases hxy : X = Y
        · have HKN2 := Lib.hid (HKN.out hxy)
          clear HNE HKN
          have HI : Hid (∀ w3, Below wr.heap.size wr w3 → Calls Tryd.prog 37 #[.slice B1 X.length d1, .slice B2 Y.length d2] w3 fun e w' => e = .returned (.bool true) ∧ Below w3.heap.size w3 w') := fun w3 h3 => by
            have := ints_any B1 d1 X B2 d2 Y w3 (Kd.C_below HC1.out h3) (Kd.C_below HC2.out h3)
            have e : (X == Y) = true := by simpa using hxy
            rw [e] at this; exact this
          have HT : Hid (∀ w3, Below wr.heap.size wr w3 → w3.cell? (a1.add k) = some (.slice B1 X.length d1) ∧ w3.cell? (a2.add k) = some (.slice B2 Y.length d2)) := fun w3 h3 => ⟨pw_cell_below h3 q1, pw_cell_below h3 q2⟩
          clear hxy q1 q2 HC1 HC2
          go_wp2
          refine wp_region_quiet (C := fun w3 => Below wr.heap.size wr w3) (by kernel_rfl) (by kernel_rfl) (below_drew (Below.refl _ _)) ?_
          simp only [List.toList_toArray]
          repeat (refine wpQuiet_step (fun K hK => ?_); go_simp; (first | (refine hK _ ?_) | (refine ⟨_, fun _ _ => rfl, hK _ ?_⟩) | (refine ⟨_, fun w3 hw3 => less_exact trivial (HI.out w3 hw3) hw3 hw3.size, hK _ ?_⟩) | (apply Exists.intro; refine ⟨fun w3 hw3 => ?_, hK _ ?_⟩; focus (have t1 := (HT.out w3 hw3).1; have t2 := (HT.out w3 hw3).2; first | (go_simp; done) | (go_simp; rfl)))); clear hK K)
          refine wpQuiet_nil ?_
          intro w3 hw3
          go_wp2
          go_roundw
          case rel => exact ⟨k + 1, by omega, by go_num, hb.trans (hw3.mono hb.size), HKN2.out⟩
          case measure => simp [intOf]; omega
        · have HNE2 := Lib.hid (HNE.out hxy)
          clear HNE HKN
          have HI : Hid (∀ w3, Below wr.heap.size wr w3 → Calls Tryd.prog 37 #[.slice B1 X.length d1, .slice B2 Y.length d2] w3 fun e w' => e = .returned (.bool false) ∧ Below w3.heap.size w3 w') := fun w3 h3 => by
            have := ints_any B1 d1 X B2 d2 Y w3 (Kd.C_below HC1.out h3) (Kd.C_below HC2.out h3)
            have e : (X == Y) = false := by simpa using hxy
            rw [e] at this; exact this
          have HT : Hid (∀ w3, Below wr.heap.size wr w3 → w3.cell? (a1.add k) = some (.slice B1 X.length d1) ∧ w3.cell? (a2.add k) = some (.slice B2 Y.length d2)) := fun w3 h3 => ⟨pw_cell_below h3 q1, pw_cell_below h3 q2⟩
          clear hxy q1 q2 HC1 HC2
          go_wp2
          refine wp_region_quiet (C := fun w3 => Below wr.heap.size wr w3) (by kernel_rfl) (by kernel_rfl) (below_drew (Below.refl _ _)) ?_
          simp only [List.toList_toArray]
          repeat (refine wpQuiet_step (fun K hK => ?_); go_simp; (first | (refine hK _ ?_) | (refine ⟨_, fun _ _ => rfl, hK _ ?_⟩) | (refine ⟨_, fun w3 hw3 => less_exact trivial (HI.out w3 hw3) hw3 hw3.size, hK _ ?_⟩) | (apply Exists.intro; refine ⟨fun w3 hw3 => ?_, hK _ ?_⟩; focus (have t1 := (HT.out w3 hw3).1; have t2 := (HT.out w3 hw3).2; first | (go_simp; done) | (go_simp; rfl)))); clear hK K)
          refine wpQuiet_nil ?_
          intro w3 hw3
          go_wp2
          go_ret
          exact ⟨ret_bool HNE2.out.symm, hb.trans (hw3.mono hb.size)⟩
      · obtain rfl : k = a.length := by omega
        have HEQ := Lib.hid (show (a == b) = true from by simpa using list_eq_of [] a b HL.out hall.out)
        go_wp2
        go_ret
        exact ⟨ret_bool HEQ.out.symm, hb⟩
  · have HNE := Lib.hid (show (a == b) = false from by simpa using fun h : a = b => hl (by rw [h]))
    have hd0 : ((a.length : Int) != (b.length : Int)) = true := by simp; omega
    have hd1 : (a.length != b.length) = true := by simpa using hl
    clear hl
    go_enter Tryd.func24, Tryd.ntmps24
    go_wp2
    go_ret
    exact ⟨ret_bool HNE.out.symm, Below.refl _ _⟩
end Go.Proofs.YtiidkekmklbobaaDoor
set_option linter.unusedVariables false
set_option linter.unusedSimpArgs false
namespace Go.Proofs.YtiidkekmklbobaaDoor
open Go.RowKit Go.Proofs.YtiidkekmklbobaaDoorW.PrintWords
attribute [local go_sem] mx_two mn_two blk_add
/-! ## The chapter's example, in numbers -/
def exP : Pil := { no := 0, cell := 0, noise := 5, slab := 30, jump := 20, faults := 1, log := [(10, 100), (11, 180), (12, 110)] }
def exW : List (Int × Int) := [(0, 30), (-10, 30)]
def exP0 : Pil := { no := 0, cell := 0, noise := 5, slab := 30, jump := 20, faults := 0, log := [(10, 100), (11, 180), (12, 110)] }
theorem ex_loads : loadsR exP exW [0, 2, 0] = ([(95, 105), (95, 125), (105, 115)], 0) := by decide +kernel
theorem ex_alive : aliveR exP exW [0, 0, 0] = (false, 0) := by decide +kernel
theorem ex_refute : refuteR exP exW [0, 0, 0] = ((0, 1), true, 0) := by decide +kernel
theorem ex_cases : casesR exP exW = ([[0, 2, 0], [0, 2, 1], [1, 2, 0], [1, 2, 1]], 0) := by decide +kernel
theorem ex_sure : sureR exP exW 1 = (2, true, 0) := by decide +kernel
theorem ex_check0 : checkB exP0 = true := by decide +kernel
theorem ex_none : remR exP0 exW = [] := by decide +kernel
theorem ex_tell0 : tellF exP0 exW = 0 := by decide +kernel
theorem ex_hull : hullR exP0 exW 1 = ((0, 0), 33) := by
  have h1 : entryR exP0 exW 1 = ([], 0) := by decide +kernel
  have h2 : possR exP0 exW 1 = ([], 0) := by
    unfold possR
    rw [h1, if_pos rfl]
    simp [possL, uniF, joinL]
  unfold hullR
  rw [h2]
  rfl
theorem dec1 (n : Nat) (h : n < 10) : Lib.decDigits n = [UInt8.ofNat (48 + n)] := by
  unfold Lib.decDigits; rw [dif_pos h]
theorem dec2 (n : Nat) (h : 10 ≤ n) : Lib.decDigits n = Lib.decDigits (n / 10) ++ [UInt8.ofNat (48 + n % 10)] := by
  rw [Lib.decDigits, dif_neg (by omega)]
theorem itoa_nat (n : Nat) : Lib.itoa (n : Int) = Lib.decDigits n := by
  unfold Lib.itoa; rw [if_neg (by omega)]; simp
def exT : List UInt8 := [112, 105, 108, 108, 111, 119, 32, 48, 32, 48, 32, 53, 32, 51, 48, 32, 50, 48, 32, 48, 32, 49, 48, 61, 49, 48, 48, 32, 49, 49, 61, 49, 56, 48, 32, 49, 50, 61, 49, 49, 48]
theorem ex_text : pilT exP0 = exT := by
  have i0 : Lib.itoa 0 = [48] := (itoa_nat 0).trans (dec1 0 (by omega))
  have i5 : Lib.itoa 5 = [53] := (itoa_nat 5).trans (dec1 5 (by omega))
  have i30 : Lib.itoa 30 = [51, 48] := (itoa_nat 30).trans (by rw [dec2 30 (by omega), dec1 _ (by omega)]; rfl)
  have i20 : Lib.itoa 20 = [50, 48] := (itoa_nat 20).trans (by rw [dec2 20 (by omega), dec1 _ (by omega)]; rfl)
  have i10 : Lib.itoa 10 = [49, 48] := (itoa_nat 10).trans (by rw [dec2 10 (by omega), dec1 _ (by omega)]; rfl)
  have i11 : Lib.itoa 11 = [49, 49] := (itoa_nat 11).trans (by rw [dec2 11 (by omega), dec1 _ (by omega)]; rfl)
  have i12 : Lib.itoa 12 = [49, 50] := (itoa_nat 12).trans (by rw [dec2 12 (by omega), dec1 _ (by omega)]; rfl)
  have i100 : Lib.itoa 100 = [49, 48, 48] := (itoa_nat 100).trans (by rw [dec2 100 (by omega), dec2 _ (by omega), dec1 _ (by omega)]; rfl)
  have i180 : Lib.itoa 180 = [49, 56, 48] := (itoa_nat 180).trans (by rw [dec2 180 (by omega), dec2 _ (by omega), dec1 _ (by omega)]; rfl)
  have i110 : Lib.itoa 110 = [49, 49, 48] := (itoa_nat 110).trans (by rw [dec2 110 (by omega), dec2 _ (by omega), dec1 _ (by omega)]; rfl)
  simp [pilT, headN, exP0, numT, entT, i0, i5, i30, i20, i10, i11, i12, i100, i180, i110, exT]
end Go.Proofs.YtiidkekmklbobaaDoor
set_option linter.unusedVariables false
set_option linter.unusedSimpArgs false
namespace Go.Proofs.YtiidkekmklbobaaDoor
open Go.RowKit Go.Proofs.YtiidkekmklbobaaDoorW.PrintWords
attribute [local go_sem] mx_two mn_two blk_add
/-! ## Rows that a store does not reach, told by what lies in their cells -/
theorem keep_val {w : World} {p a : Addr} {u x v : Value} (hp : w.cell? p = some u) (ha : w.cell? a = some x) (hne : x ≠ u) : (w.setCell p v).cell? a = some x :=
  (World.cell?_setCell_other w p a v (fun e => hne (by rw [← e, hp] at ha; injection ha with ha; exact ha.symm))).trans ha
theorem span_row {w w' : World} {A : Option Addr} {n : Nat} {xs : List (Int × Int)} (h : Kd.C kSpan w A n xs) (hk : ∀ a x, w.cell? a = some x → (∃ y ∈ xs, x = .int .i64 y.1 ∨ x = .int .i64 y.2) → w'.cell? a = some x) : Kd.C kSpan w' A n xs := by
  refine ⟨h.1, h.2.1, fun h0 => ?_⟩
  obtain ⟨ad, e, hc⟩ := h.2.2 h0
  refine ⟨ad, e, fun j p hj => ?_⟩
  obtain ⟨c, h1, h2, h3⟩ := hc j p hj
  obtain rfl := kSpan_open h2
  refine ⟨_, h1, ⟨[_], [_], rfl, rfl, rfl⟩, fun i u hu => hk _ _ (h3 i u hu) ⟨p, List.mem_of_getElem? hj, ?_⟩⟩
  match i, hu with
  | 0, hu => simp at hu; exact .inl hu.symm
  | 1, hu => simp at hu; exact .inr hu.symm
  | i + 2, hu => simp at hu
theorem int_row {w w' : World} {A : Option Addr} {xs : List Int} (h : Kd.C kInt w A xs.length xs) (hk : ∀ ad j, A = some ad → j < xs.length → w'.cell? (ad.add j) = w.cell? (ad.add j)) : Kd.C kInt w' A xs.length xs := by
  refine ⟨h.1, h.2.1, fun h0 => ?_⟩
  obtain ⟨ad, e, hc⟩ := h.2.2 h0
  refine ⟨ad, e, fun j p hj => ?_⟩
  obtain ⟨c, h1, h2, h3⟩ := hc j p hj
  obtain rfl : c = [.int .i64 p] := h2
  refine ⟨_, h1, rfl, fun i u hu => ?_⟩
  have e2 : kInt.sz = 1 := rfl
  have hi : i = 0 := by
    match i, hu with
    | 0, _ => rfl
    | i + 1, hu => simp at hu
  subst hi
  have := h3 0 u hu
  rw [e2, Nat.mul_one, Nat.add_zero] at this ⊢
  rw [hk ad j e (List.getElem?_eq_some_iff.1 hj).1]
  exact this
theorem case_row {w w' : World} {A : Option Addr} {n : Nat} {xs : List (List Int)} (h : Kd.C kCase w A n xs) (hk : ∀ a A' m c, w.cell? a = some (.slice A' m c) → w'.cell? a = some (.slice A' m c)) (hi : ∀ A' x, x ∈ xs → Kd.C kInt w A' x.length x → Kd.C kInt w' A' x.length x) : Kd.C kCase w' A n xs := by
  refine ⟨h.1, h.2.1, fun h0 => ?_⟩
  obtain ⟨ad, e, hc⟩ := h.2.2 h0
  refine ⟨ad, e, fun j p hj => ?_⟩
  obtain ⟨c, h1, h2, h3⟩ := hc j p hj
  obtain ⟨A0, c0, rfl, l0, g0⟩ := h2
  refine ⟨_, h1, ⟨A0, c0, rfl, l0, hi _ _ (List.mem_of_getElem? hj) g0⟩, fun i u hu => ?_⟩
  have := h3 i u hu
  match i, hu with
  | 0, hu => simp at hu; subst hu; exact hk _ _ _ _ this
  | i + 1, hu => simp at hu
theorem add_pos {ad : Addr} {j b o : Nat} (hj : 0 < j) (h : ad.add j = ⟨b, o, none⟩) : ad.block = b ∧ ad.off + j = o := by
  unfold Addr.add at h
  rw [if_neg (by omega)] at h
  injection h with h1 h2 h3
  exact ⟨h1, h2⟩
/-- A case of three states, 2 in the middle, beside the example's pillow. -/
theorem row3_keep {w : World} {A : Option Addr} {a c : Int} {B : Nat} {S : Value} (h : Kd.C kInt w A 3 [a, 2, c]) (v : Value) (h4 : w.cell? ⟨B, 4, none⟩ = some (.int .i64 20)) (h5 : w.cell? ⟨B, 5, none⟩ = some (.int .i64 1)) (h6 : w.cell? ⟨B, 6, none⟩ = some S) (hS : S ≠ .int .i64 2) : Kd.C kInt (w.setCell ⟨B, 5, none⟩ v) A 3 [a, 2, c] := by
  refine int_row (xs := [a, 2, c]) h fun ad j e hj => ?_
  subst e
  obtain ⟨ad1, e1, q1⟩ := at_i h 1 (by omega)
  obtain rfl := Option.some.inj e1
  have q1' : w.cell? (ad.add 1) = some (.int .i64 2) := q1
  refine World.cell?_setCell_other _ _ _ _ (fun he => ?_)
  match j, hj with
  | 0, _ =>
    have : ad = ⟨B, 5, none⟩ := by rw [he]; simp [Addr.add]
    subst this
    have e6 : (⟨B, 5, none⟩ : Addr).add 1 = ⟨B, 6, none⟩ := rfl
    rw [e6, h6] at q1'
    injection q1' with q; exact hS q
  | 1, _ =>
    rw [← he, h5] at q1'
    simp at q1'
  | 2, _ =>
    obtain ⟨b1, b2⟩ := add_pos (by omega) he.symm
    have e4 : ad.add 1 = ⟨B, 4, none⟩ := by
      unfold Addr.add
      rw [if_neg (by omega)]
      rw [b1, show ad.off + 1 = 4 by omega]
    rw [e4, h4] at q1'
    simp at q1'
theorem lit3 (W : World) (a b c : Int) (g : Nat) (hg : W.heap.size = g) : Kd.C kInt (W.alloc (.cells #[.int .i64 a, .int .i64 b, .int .i64 c] 3)) (some ⟨g, 0, none⟩) 3 [a, b, c] := by
  subst hg
  have h := Blk.new W 3 [.int .i64 a, .int .i64 b, .int .i64 c]
  refine ⟨rfl, by omega, fun _ => ⟨_, rfl, fun j p hj => ?_⟩⟩
  obtain ⟨hlt, rfl⟩ := List.getElem?_eq_some_iff.1 hj
  refine ⟨[.int .i64 [a, b, c][j]], rfl, rfl, fun i u hu => ?_⟩
  have e2 : kInt.sz = 1 := rfl
  match i, hu with
  | 0, hu =>
    simp at hu; subst hu
    rw [e2, add_plain]
    have := h.cell j
    match j, hlt with
    | 0, _ => exact h.cell 0
    | 1, _ => exact h.cell 1
    | 2, _ => exact h.cell 2
/-- The literal list of the four cases, as the statement builds it. -/
theorem lit4 (W : World) : Kd.C kCase (((((W.alloc (.cells #[.int .i64 0, .int .i64 2, .int .i64 0] 3)).alloc (.cells #[.int .i64 0, .int .i64 2, .int .i64 1] 3)).alloc (.cells #[.int .i64 1, .int .i64 2, .int .i64 0] 3)).alloc (.cells #[.int .i64 1, .int .i64 2, .int .i64 1] 3)).alloc (.cells #[.slice (some ⟨W.heap.size, 0, none⟩) 3 3, .slice (some ⟨W.heap.size + 1, 0, none⟩) 3 3, .slice (some ⟨W.heap.size + 1 + 1, 0, none⟩) 3 3, .slice (some ⟨W.heap.size + 1 + 1 + 1, 0, none⟩) 3 3] 26)) (some ⟨W.heap.size + 1 + 1 + 1 + 1, 0, none⟩) 4 [[0, 2, 0], [0, 2, 1], [1, 2, 0], [1, 2, 1]] := by
  have h0 := Kd.C_alloc (Kd.C_alloc (Kd.C_alloc (Kd.C_alloc (lit3 W 0 2 0 (W.heap.size) (by simp)) (.cells #[.int .i64 0, .int .i64 2, .int .i64 1] 3)) (.cells #[.int .i64 1, .int .i64 2, .int .i64 0] 3)) (.cells #[.int .i64 1, .int .i64 2, .int .i64 1] 3)) (.cells #[.slice (some ⟨W.heap.size, 0, none⟩) 3 3, .slice (some ⟨W.heap.size + 1, 0, none⟩) 3 3, .slice (some ⟨W.heap.size + 1 + 1, 0, none⟩) 3 3, .slice (some ⟨W.heap.size + 1 + 1 + 1, 0, none⟩) 3 3] 26)
  have h1 := Kd.C_alloc (Kd.C_alloc (Kd.C_alloc (lit3 (W.alloc (.cells #[.int .i64 0, .int .i64 2, .int .i64 0] 3)) 0 2 1 (W.heap.size + 1) (by simp)) (.cells #[.int .i64 1, .int .i64 2, .int .i64 0] 3)) (.cells #[.int .i64 1, .int .i64 2, .int .i64 1] 3)) (.cells #[.slice (some ⟨W.heap.size, 0, none⟩) 3 3, .slice (some ⟨W.heap.size + 1, 0, none⟩) 3 3, .slice (some ⟨W.heap.size + 1 + 1, 0, none⟩) 3 3, .slice (some ⟨W.heap.size + 1 + 1 + 1, 0, none⟩) 3 3] 26)
  have h2 := Kd.C_alloc (Kd.C_alloc (lit3 ((W.alloc (.cells #[.int .i64 0, .int .i64 2, .int .i64 0] 3)).alloc (.cells #[.int .i64 0, .int .i64 2, .int .i64 1] 3)) 1 2 0 (W.heap.size + 1 + 1) (by simp)) (.cells #[.int .i64 1, .int .i64 2, .int .i64 1] 3)) (.cells #[.slice (some ⟨W.heap.size, 0, none⟩) 3 3, .slice (some ⟨W.heap.size + 1, 0, none⟩) 3 3, .slice (some ⟨W.heap.size + 1 + 1, 0, none⟩) 3 3, .slice (some ⟨W.heap.size + 1 + 1 + 1, 0, none⟩) 3 3] 26)
  have h3 := Kd.C_alloc (lit3 (((W.alloc (.cells #[.int .i64 0, .int .i64 2, .int .i64 0] 3)).alloc (.cells #[.int .i64 0, .int .i64 2, .int .i64 1] 3)).alloc (.cells #[.int .i64 1, .int .i64 2, .int .i64 0] 3)) 1 2 1 (W.heap.size + 1 + 1 + 1) (by simp)) (.cells #[.slice (some ⟨W.heap.size, 0, none⟩) 3 3, .slice (some ⟨W.heap.size + 1, 0, none⟩) 3 3, .slice (some ⟨W.heap.size + 1 + 1, 0, none⟩) 3 3, .slice (some ⟨W.heap.size + 1 + 1 + 1, 0, none⟩) 3 3] 26)
  have hb := Blk.new ((((W.alloc (.cells #[.int .i64 0, .int .i64 2, .int .i64 0] 3)).alloc (.cells #[.int .i64 0, .int .i64 2, .int .i64 1] 3)).alloc (.cells #[.int .i64 1, .int .i64 2, .int .i64 0] 3)).alloc (.cells #[.int .i64 1, .int .i64 2, .int .i64 1] 3)) 26 [.slice (some ⟨W.heap.size, 0, none⟩) 3 3, .slice (some ⟨W.heap.size + 1, 0, none⟩) 3 3, .slice (some ⟨W.heap.size + 1 + 1, 0, none⟩) 3 3, .slice (some ⟨W.heap.size + 1 + 1 + 1, 0, none⟩) 3 3]
  rw [show ((((W.alloc (.cells #[.int .i64 0, .int .i64 2, .int .i64 0] 3)).alloc (.cells #[.int .i64 0, .int .i64 2, .int .i64 1] 3)).alloc (.cells #[.int .i64 1, .int .i64 2, .int .i64 0] 3)).alloc (.cells #[.int .i64 1, .int .i64 2, .int .i64 1] 3)).heap.size = W.heap.size + 1 + 1 + 1 + 1 by simp] at hb
  refine ⟨rfl, by omega, fun _ => ⟨_, rfl, fun j p hj => ?_⟩⟩
  match j, hj with
  | 0, hj =>
    simp at hj; subst hj
    refine ⟨[.slice (some ⟨W.heap.size, 0, none⟩) 3 3], rfl, ⟨_, 3, rfl, by decide, h0⟩, fun i u hu => ?_⟩
    match i, hu with
    | 0, hu => simp at hu; subst hu; exact hb.cell 0
    | i + 1, hu => simp at hu
  | 1, hj =>
    simp at hj; subst hj
    refine ⟨[.slice (some ⟨W.heap.size + 1, 0, none⟩) 3 3], rfl, ⟨_, 3, rfl, by decide, h1⟩, fun i u hu => ?_⟩
    match i, hu with
    | 0, hu => simp at hu; subst hu; exact hb.cell 1
    | i + 1, hu => simp at hu
  | 2, hj =>
    simp at hj; subst hj
    refine ⟨[.slice (some ⟨W.heap.size + 1 + 1, 0, none⟩) 3 3], rfl, ⟨_, 3, rfl, by decide, h2⟩, fun i u hu => ?_⟩
    match i, hu with
    | 0, hu => simp at hu; subst hu; exact hb.cell 2
    | i + 1, hu => simp at hu
  | 3, hj =>
    simp at hj; subst hj
    refine ⟨[.slice (some ⟨W.heap.size + 1 + 1 + 1, 0, none⟩) 3 3], rfl, ⟨_, 3, rfl, by decide, h3⟩, fun i u hu => ?_⟩
    match i, hu with
    | 0, hu => simp at hu; subst hu; exact hb.cell 3
    | i + 1, hu => simp at hu
  | j + 4, hj => simp at hj
end Go.Proofs.YtiidkekmklbobaaDoor
set_option linter.unusedVariables false
set_option linter.unusedSimpArgs false
namespace Go.Proofs.YtiidkekmklbobaaDoor
open Go.RowKit Go.Proofs.YtiidkekmklbobaaDoorW.PrintWords
attribute [local go_sem] mx_two mn_two blk_add
theorem example_any (w : World) : Calls Tryd.prog 56 #[] w fun e w' => ∃ gl gw, e = .returned (.tuple #[exP.val (some ⟨gl, 0, none⟩) 3, .slice (some ⟨gw, 0, none⟩) 2 2]) ∧ Kd.C kSpan w' (some ⟨gl, 0, none⟩) 3 exP.log ∧ Kd.C kSpan w' (some ⟨gw, 0, none⟩) 2 exW ∧ Below w.heap.size w w' := by
  go_enter Tryd.func56, Tryd.ntmps56
  go_wp2
  refine bodyPost_ret (v := .tuple #[.agg #[.int .i64 0, .int .i64 0, .int .i64 5, .int .i64 30, .int .i64 20, .int .i64 1, .slice (some ⟨w.heap.size + 1, 0, none⟩) 3 3], .slice (some ⟨w.heap.size + 1 + 1 + 1, 0, none⟩) 2 2]) (by simp [results, Tryd.results56, go_sem]) rfl ⟨w.heap.size + 1, w.heap.size + 1 + 1 + 1, rfl, ?_, ?_, ?_⟩
  · have h := ((Blk.new (w.alloc (.cells #[.int .i64 0, .int .i64 0, .int .i64 5, .int .i64 30, .int .i64 20, .int .i64 1, .slice (some ⟨w.heap.size + 1, 0, none⟩) 3 3] 24)) 57 (sc exP.log)).alloc (.cells #[.int .i64 0, .int .i64 0, .int .i64 5, .int .i64 30, .int .i64 20, .int .i64 1, .slice (some ⟨w.heap.size + 1, 0, none⟩) 3 3] 24)).alloc (.cells (sc exW).toArray 42)
    rw [show (w.alloc (.cells #[.int .i64 0, .int .i64 0, .int .i64 5, .int .i64 30, .int .i64 20, .int .i64 1, .slice (some ⟨w.heap.size + 1, 0, none⟩) 3 3] 24)).heap.size = w.heap.size + 1 by simp] at h
    exact h.reads (by decide)
  · have h := Blk.new (((w.alloc (.cells #[.int .i64 0, .int .i64 0, .int .i64 5, .int .i64 30, .int .i64 20, .int .i64 1, .slice (some ⟨w.heap.size + 1, 0, none⟩) 3 3] 24)).alloc (.cells (sc exP.log).toArray 57)).alloc (.cells #[.int .i64 0, .int .i64 0, .int .i64 5, .int .i64 30, .int .i64 20, .int .i64 1, .slice (some ⟨w.heap.size + 1, 0, none⟩) 3 3] 24)) 42 (sc exW)
    rw [show (((w.alloc (.cells #[.int .i64 0, .int .i64 0, .int .i64 5, .int .i64 30, .int .i64 20, .int .i64 1, .slice (some ⟨w.heap.size + 1, 0, none⟩) 3 3] 24)).alloc (.cells (sc exP.log).toArray 57)).alloc (.cells #[.int .i64 0, .int .i64 0, .int .i64 5, .int .i64 30, .int .i64 20, .int .i64 1, .slice (some ⟨w.heap.size + 1, 0, none⟩) 3 3] 24)).heap.size = w.heap.size + 1 + 1 + 1 by simp] at h
    exact h.reads (by decide)
  · exact ((((Below.refl _ _).alloc (Nat.le_refl _) _).alloc (by simp) _).alloc (by simp; omega) _).alloc (by simp; omega) _
def exS : ByteArray := ⟨exT.toArray⟩
theorem ex_str : (exS.toList == [112, 105, 108, 108, 111, 119, 32, 48, 32, 48, 32, 53, 32, 51, 48, 32, 50, 48, 32, 48, 32, 49, 48, 61, 49, 48, 48, 32, 49, 49, 61, 49, 56, 48, 32, 49, 50, 61, 49, 49, 48]) = true := by decide +kernel
set_option maxRecDepth 100000 in
set_option maxHeartbeats 3200000 in
theorem sane_any (w : World) (ht : Tab w) : Calls Tryd.prog 16 #[] w fun e w' => e = .returned (.bool true) ∧ Below w.heap.size w w' := by
  have HTB := Lib.hid ht
  clear ht
  go_enter Tryd.func16, Tryd.ntmps16
  go_upto_region 2 with (go_at_call 56; refine (example_any _).mono ?_; rintro e w1 ⟨gl, gw, rfl, hl, hw, hb⟩)
  have HB1 := Lib.hid hb
  have HALL : Hid (∀ w3, Below w1.heap.size w1 w3 → Kd.C kSpan w3 (some ⟨gl, 0, none⟩) 3 exP.log ∧ Kd.C kSpan w3 (some ⟨gw, 0, none⟩) 2 exW ∧ Tab w3 ∧ w1.heap.size ≤ w3.heap.size) := fun w3 h3 =>
    ⟨Kd.C_below hl h3, Kd.C_below hw h3, (HTB.out.below HB1.out).below h3, h3.size⟩
  clear hl hw hb
  have HK0 : Hid (Below w1.heap.size w1 (w1.alloc (boxP exP (some ⟨gl, 0, none⟩) 3 24))) := (Below.refl _ _).alloc (Nat.le_refl _) _
  have HX0 : Hid (Blk (w1.alloc (boxP exP (some ⟨gl, 0, none⟩) 3 24)) w1.heap.size 24 [.int .i64 exP.no, .int .i64 exP.cell, .int .i64 exP.noise, .int .i64 exP.slab, .int .i64 exP.jump, .int .i64 exP.faults, .slice (some ⟨gl, 0, none⟩) exP.log.length 3]) := Blk.new w1 24 _
  generalize w1.alloc (.cells #[.int .i64 exP.no, .int .i64 exP.cell, .int .i64 exP.noise, .int .i64 exP.slab, .int .i64 exP.jump, .int .i64 exP.faults, .slice (some ⟨gl, 0, none⟩) exP.log.length 3] 24) = W0 at HK0 HX0 ⊢
  have c0 := HX0.out.cell 0
  have c1 := HX0.out.cell 1
  have c2 := HX0.out.cell 2
  have c3 := HX0.out.cell 3
  have c4 := HX0.out.cell 4
  have c5 := HX0.out.cell 5
  have c6 := HX0.out.cell 6
  simp at c0 c1 c2 c3 c4 c5 c6
  have hz := HX0.out.lt
  have HC0 : Hid (Calls Tryd.prog 22 #[.agg #[.int .i64 exP.no, .int .i64 exP.cell, .int .i64 exP.noise, .int .i64 exP.slab, .int .i64 exP.jump, .int .i64 exP.faults, .slice (some ⟨gl, 0, none⟩) exP.log.length 3], .slice (some ⟨gw, 0, none⟩) 2 2, .slice (some ⟨W0.heap.size, 0, none⟩) 3 3] (W0.alloc (.cells #[.int .i64 0, .int .i64 2, .int .i64 0] 3)) fun e w' => ∃ A' c', e = .returned (.tuple #[.slice A' 3 c', .int .i64 0]) ∧ Kd.C kSpan w' A' 3 [(95, 105), (95, 125), (105, 115)] ∧ Below W0.heap.size W0 w') := by
    have hal : Below W0.heap.size W0 (W0.alloc (.cells #[.int .i64 0, .int .i64 2, .int .i64 0] 3)) := (Below.refl _ _).alloc (Nat.le_refl _) _
    have hw3 : Below w1.heap.size w1 (W0.alloc (.cells #[.int .i64 0, .int .i64 2, .int .i64 0] 3)) := HK0.out.trans (hal.mono HK0.out.size)
    obtain ⟨f1, f2, f3, f4⟩ := HALL.out _ hw3
    refine (loadsC_any exP (some ⟨gl, 0, none⟩) 3 (some ⟨gw, 0, none⟩) 2 exW (some ⟨W0.heap.size, 0, none⟩) 3 [0, 2, 0] _ f1 f2 (lit3 W0 0 2 0 _ rfl)).mono ?_
    rintro e w' ⟨A', c', he, hC, _, hB⟩
    rw [ex_loads] at he hC
    exact ⟨A', c', he, hC, hal.trans (hB.mono (by simp))⟩
  go_upto_region 3 with (go_at_call 22; refine HC0.out.mono ?_; rintro e W1 ⟨A3, k3, rfl, hS, hb⟩)
  have HS1 := Lib.hid hS
  clear hS
  have HK1 : Hid (Below w1.heap.size w1 W1) := HK0.out.trans (hb.mono HK0.out.size)
  have HX1 : Hid (Blk W1 w1.heap.size 24 [.int .i64 exP.no, .int .i64 exP.cell, .int .i64 exP.noise, .int .i64 exP.slab, .int .i64 exP.jump, .int .i64 exP.faults, .slice (some ⟨gl, 0, none⟩) exP.log.length 3]) := HX0.out.below hb
  clear hb c0 c1 c2 c3 c4 c5 c6 hz HC0 HX0
  have c0 := HX1.out.cell 0
  have c1 := HX1.out.cell 1
  have c2 := HX1.out.cell 2
  have c3 := HX1.out.cell 3
  have c4 := HX1.out.cell 4
  have c5 := HX1.out.cell 5
  have c6 := HX1.out.cell 6
  simp at c0 c1 c2 c3 c4 c5 c6
  have hz := HX1.out.lt
  have HC1 : Hid (Calls Tryd.prog 20 #[.agg #[.int .i64 exP.no, .int .i64 exP.cell, .int .i64 exP.noise, .int .i64 exP.slab, .int .i64 exP.jump, .int .i64 exP.faults, .slice (some ⟨gl, 0, none⟩) exP.log.length 3], .slice (some ⟨gw, 0, none⟩) 2 2, .slice (some ⟨W1.heap.size, 0, none⟩) 3 3] (W1.alloc (.cells #[.int .i64 0, .int .i64 0, .int .i64 0] 3)) fun e w' => e = .returned (.tuple #[.bool false, .int .i64 0]) ∧ Below W1.heap.size W1 w') := by
    have hal : Below W1.heap.size W1 (W1.alloc (.cells #[.int .i64 0, .int .i64 0, .int .i64 0] 3)) := (Below.refl _ _).alloc (Nat.le_refl _) _
    have hw3 : Below w1.heap.size w1 (W1.alloc (.cells #[.int .i64 0, .int .i64 0, .int .i64 0] 3)) := HK1.out.trans (hal.mono HK1.out.size)
    obtain ⟨f1, f2, f3, f4⟩ := HALL.out _ hw3
    refine (alive_any exP (some ⟨gl, 0, none⟩) 3 (some ⟨gw, 0, none⟩) 2 exW (some ⟨W1.heap.size, 0, none⟩) 3 [0, 0, 0] _ f1 f2 (lit3 W1 0 0 0 _ rfl)).mono ?_
    rintro e w' ⟨he, hB⟩
    rw [ex_alive] at he
    exact ⟨he, hal.trans (hB.mono (by simp))⟩
  go_upto_region 4 with (go_at_call 20; refine HC1.out.mono ?_; rintro e W2 ⟨rfl, hb⟩)
  have HK2 : Hid (Below w1.heap.size w1 W2) := HK1.out.trans (hb.mono HK1.out.size)
  have HX2 : Hid (Blk W2 w1.heap.size 24 [.int .i64 exP.no, .int .i64 exP.cell, .int .i64 exP.noise, .int .i64 exP.slab, .int .i64 exP.jump, .int .i64 exP.faults, .slice (some ⟨gl, 0, none⟩) exP.log.length 3]) := HX1.out.below hb
  have HS2 := Lib.hid (Kd.C_below HS1.out hb)
  clear HS1
  clear hb c0 c1 c2 c3 c4 c5 c6 hz HC1 HX1
  have c0 := HX2.out.cell 0
  have c1 := HX2.out.cell 1
  have c2 := HX2.out.cell 2
  have c3 := HX2.out.cell 3
  have c4 := HX2.out.cell 4
  have c5 := HX2.out.cell 5
  have c6 := HX2.out.cell 6
  simp at c0 c1 c2 c3 c4 c5 c6
  have hz := HX2.out.lt
  have HC2 : Hid (Calls Tryd.prog 32 #[.agg #[.int .i64 exP.no, .int .i64 exP.cell, .int .i64 exP.noise, .int .i64 exP.slab, .int .i64 exP.jump, .int .i64 exP.faults, .slice (some ⟨gl, 0, none⟩) exP.log.length 3], .slice (some ⟨gw, 0, none⟩) 2 2, .slice (some ⟨W2.heap.size, 0, none⟩) 3 3] (W2.alloc (.cells #[.int .i64 0, .int .i64 0, .int .i64 0] 3)) fun e w' => e = .returned (.tuple #[.agg #[.int .i64 0, .int .i64 1], .bool true, .int .i64 0]) ∧ Below W2.heap.size W2 w') := by
    have hal : Below W2.heap.size W2 (W2.alloc (.cells #[.int .i64 0, .int .i64 0, .int .i64 0] 3)) := (Below.refl _ _).alloc (Nat.le_refl _) _
    have hw3 : Below w1.heap.size w1 (W2.alloc (.cells #[.int .i64 0, .int .i64 0, .int .i64 0] 3)) := HK2.out.trans (hal.mono HK2.out.size)
    obtain ⟨f1, f2, f3, f4⟩ := HALL.out _ hw3
    refine (refute_any exP (some ⟨gl, 0, none⟩) 3 (some ⟨gw, 0, none⟩) 2 exW (some ⟨W2.heap.size, 0, none⟩) 3 [0, 0, 0] _ f1 f2 (lit3 W2 0 0 0 _ rfl)).mono ?_
    rintro e w' ⟨he, hB⟩
    rw [ex_refute] at he
    exact ⟨he, hal.trans (hB.mono (by simp))⟩
  go_upto_region 5 with (go_at_call 32; refine HC2.out.mono ?_; rintro e w2 ⟨rfl, hb0⟩)
  have hb : Below W2.heap.size W2 (w2.alloc (.cells #[.int .i64 0, .int .i64 1] 49)) := hb0.alloc hb0.size _
  have HY3 : Hid (Blk (w2.alloc (.cells #[.int .i64 0, .int .i64 1] 49)) w2.heap.size 49 [.int .i64 0, .int .i64 1]) := Blk.new w2 49 _
  have hyl : W2.heap.size ≤ w2.heap.size := hb0.size
  have HYN : Hid (w1.heap.size < w2.heap.size) := by show _ < _; omega
  clear hb0 hyl
  generalize w2.alloc (.cells #[.int .i64 0, .int .i64 1] 49) = W3 at hb HY3 ⊢
  generalize w2.heap.size = b49 at HY3 HYN ⊢
  have HK3 : Hid (Below w1.heap.size w1 W3) := HK2.out.trans (hb.mono HK2.out.size)
  have HX3 : Hid (Blk W3 w1.heap.size 24 [.int .i64 exP.no, .int .i64 exP.cell, .int .i64 exP.noise, .int .i64 exP.slab, .int .i64 exP.jump, .int .i64 exP.faults, .slice (some ⟨gl, 0, none⟩) exP.log.length 3]) := HX2.out.below hb
  have HS3 := Lib.hid (Kd.C_below HS2.out hb)
  clear HS2
  clear hb c0 c1 c2 c3 c4 c5 c6 hz HC2 HX2
  have c0 := HX3.out.cell 0
  have c1 := HX3.out.cell 1
  have c2 := HX3.out.cell 2
  have c3 := HX3.out.cell 3
  have c4 := HX3.out.cell 4
  have c5 := HX3.out.cell 5
  have c6 := HX3.out.cell 6
  simp at c0 c1 c2 c3 c4 c5 c6
  have hz := HX3.out.lt
  have HC3 : Hid (Calls Tryd.prog 18 #[.agg #[.int .i64 exP.no, .int .i64 exP.cell, .int .i64 exP.noise, .int .i64 exP.slab, .int .i64 exP.jump, .int .i64 exP.faults, .slice (some ⟨gl, 0, none⟩) exP.log.length 3], .slice (some ⟨gw, 0, none⟩) 2 2] W3 fun e w' => ∃ A' c', e = .returned (.tuple #[.slice A' 4 c', .int .i64 0]) ∧ Kd.C kCase w' A' 4 [[0, 2, 0], [0, 2, 1], [1, 2, 0], [1, 2, 1]] ∧ Below W3.heap.size W3 w') := by
    obtain ⟨f1, f2, f3, f4⟩ := HALL.out _ HK3.out
    refine (casesC_any exP (some ⟨gl, 0, none⟩) 3 (some ⟨gw, 0, none⟩) 2 exW _ f1 f2).mono ?_
    rintro e w' ⟨A', c', he, hC, _, hB⟩
    rw [ex_cases] at he hC
    exact ⟨A', c', he, hC, hB⟩
  go_upto_region 6 with (go_at_call 18; refine HC3.out.mono ?_; rintro e W4 ⟨A10, k10, rfl, hQ, hb⟩)
  have HQ4 := Lib.hid hQ
  clear hQ
  have HK4 : Hid (Below w1.heap.size w1 W4) := HK3.out.trans (hb.mono HK3.out.size)
  have HX4 : Hid (Blk W4 w1.heap.size 24 [.int .i64 exP.no, .int .i64 exP.cell, .int .i64 exP.noise, .int .i64 exP.slab, .int .i64 exP.jump, .int .i64 exP.faults, .slice (some ⟨gl, 0, none⟩) exP.log.length 3]) := HX3.out.below hb
  have HS4 := Lib.hid (Kd.C_below HS3.out hb)
  have HY4 := Lib.hid (HY3.out.below hb)
  clear HS3 HY3
  clear hb c0 c1 c2 c3 c4 c5 c6 hz HC3 HX3
  have c0 := HX4.out.cell 0
  have c1 := HX4.out.cell 1
  have c2 := HX4.out.cell 2
  have c3 := HX4.out.cell 3
  have c4 := HX4.out.cell 4
  have c5 := HX4.out.cell 5
  have c6 := HX4.out.cell 6
  simp at c0 c1 c2 c3 c4 c5 c6
  have hz := HX4.out.lt
  have HC4 : Hid (Calls Tryd.prog 30 #[.agg #[.int .i64 exP.no, .int .i64 exP.cell, .int .i64 exP.noise, .int .i64 exP.slab, .int .i64 exP.jump, .int .i64 exP.faults, .slice (some ⟨gl, 0, none⟩) exP.log.length 3], .slice (some ⟨gw, 0, none⟩) 2 2, .int .i64 1] W4 fun e w' => e = .returned (.tuple #[.int .i64 2, .bool true, .int .i64 0]) ∧ Below W4.heap.size W4 w') := by
    obtain ⟨f1, f2, f3, f4⟩ := HALL.out _ HK4.out
    refine (sure_any exP (some ⟨gl, 0, none⟩) 3 (some ⟨gw, 0, none⟩) 2 exW 1 _ f1 f2).mono ?_
    rintro e w' ⟨he, hB⟩
    rw [ex_sure] at he
    exact ⟨he, hB⟩
  go_upto_region 7 with (go_at_call 30; refine HC4.out.mono ?_; rintro e w5 ⟨rfl, hb⟩)
  have HX5 := Lib.hid (HX4.out.below hb)
  have HS5 := Lib.hid (Kd.C_below HS4.out hb)
  have HQ5 := Lib.hid (Kd.C_below HQ4.out hb)
  have HY5 := Lib.hid (HY4.out.below hb)
  have HK5 : Hid (Below w1.heap.size w1 w5) := HK4.out.trans (hb.mono HK4.out.size)
  clear hb c0 c1 c2 c3 c4 c5 c6 hz HC4 HX4 HS4 HQ4 HY4
  have fz := HX5.out.frozen
  have c5 := HX5.out.cell 5
  simp at c5
  go_upto_region 8 with fail
  have HX6 : Hid (Blk (w5.setCell ⟨w1.heap.size, 5, none⟩ (.int .i64 0)) w1.heap.size 24 [.int .i64 exP.no, .int .i64 exP.cell, .int .i64 exP.noise, .int .i64 exP.slab, .int .i64 exP.jump, .int .i64 0, .slice (some ⟨gl, 0, none⟩) exP.log.length 3]) := HX5.out.set_ 5 (.int .i64 0)
  have HK6 : Hid (Below w1.heap.size w1 (w5.setCell ⟨w1.heap.size, 5, none⟩ (.int .i64 0))) := HK5.out.setCell (Nat.le_refl _) _
  have HS6 : Hid (Kd.C kSpan (w5.setCell ⟨w1.heap.size, 5, none⟩ (.int .i64 0)) A3 3 [(95, 105), (95, 125), (105, 115)]) :=
    span_row HS5.out fun a x ha hx => keep_val (HX5.out.cell 5) ha (by
      obtain ⟨y, hy, h⟩ := hx
      simp at hy
      rcases hy with rfl | rfl | rfl <;> rcases h with rfl | rfl <;> (intro h; injection h with _ h; exact absurd h (by decide)))
  have HQ6 : Hid (Kd.C kCase (w5.setCell ⟨w1.heap.size, 5, none⟩ (.int .i64 0)) A10 4 [[0, 2, 0], [0, 2, 1], [1, 2, 0], [1, 2, 1]]) :=
    case_row HQ5.out (fun a A' m c ha => keep_val (HX5.out.cell 5) ha (by intro h; cases h)) fun A' x hx hC => by
      simp at hx
      rcases hx with rfl | rfl | rfl | rfl <;> exact row3_keep hC _ (HX5.out.cell 4) (HX5.out.cell 5) (HX5.out.cell 6) (by intro h; cases h)
  have HY6 : Hid (Blk (w5.setCell ⟨w1.heap.size, 5, none⟩ (.int .i64 0)) b49 49 [.int .i64 0, .int .i64 1]) := (Below.heap_setCell _ _ _ _ (by have := HYN.out; simp; omega)).trans HY5.out
  clear HX5 HS5 HQ5 HY5 HK5 fz c5
  generalize w5.setCell ⟨w1.heap.size, 5, none⟩ (.int .i64 0) = W6 at HX6 HK6 HS6 HQ6 HY6 ⊢
  have c0 := HX6.out.cell 0
  have c1 := HX6.out.cell 1
  have c2 := HX6.out.cell 2
  have c3 := HX6.out.cell 3
  have c4 := HX6.out.cell 4
  have c5 := HX6.out.cell 5
  have c6 := HX6.out.cell 6
  simp at c0 c1 c2 c3 c4 c5 c6
  have hz := HX6.out.lt
  have HC6 : Hid (Calls Tryd.prog 28 #[.agg #[.int .i64 exP.no, .int .i64 exP.cell, .int .i64 exP.noise, .int .i64 exP.slab, .int .i64 exP.jump, .int .i64 0, .slice (some ⟨gl, 0, none⟩) exP.log.length 3], .slice (some ⟨gw, 0, none⟩) 2 2, .int .i64 1] W6 fun e w' => e = .returned (.tuple #[.agg #[.int .i64 0, .int .i64 0], .int .i64 33]) ∧ Below W6.heap.size W6 w') := by
    obtain ⟨f1, f2, f3, f4⟩ := HALL.out _ HK6.out
    refine (hull_any exP0 (some ⟨gl, 0, none⟩) 3 (some ⟨gw, 0, none⟩) 2 exW 1 _ f1 f2).mono ?_
    rintro e w' ⟨he, hB⟩
    rw [ex_hull] at he
    exact ⟨he, hB⟩
  go_upto_region 9 with (go_at_call 28; refine HC6.out.mono ?_; rintro e w7 ⟨rfl, hb0⟩)
  have hb : Below W6.heap.size W6 (w7.alloc (.cells #[.int .i64 0, .int .i64 0] 42)) := hb0.alloc hb0.size _
  clear hb0
  generalize w7.alloc (.cells #[.int .i64 0, .int .i64 0] 42) = W7 at hb ⊢
  have HK7 : Hid (Below w1.heap.size w1 W7) := HK6.out.trans (hb.mono HK6.out.size)
  have HX7 : Hid (Blk W7 w1.heap.size 24 [.int .i64 exP.no, .int .i64 exP.cell, .int .i64 exP.noise, .int .i64 exP.slab, .int .i64 exP.jump, .int .i64 0, .slice (some ⟨gl, 0, none⟩) exP.log.length 3]) := HX6.out.below hb
  have HS7 := Lib.hid (Kd.C_below HS6.out hb)
  have HQ7 := Lib.hid (Kd.C_below HQ6.out hb)
  have HY7 := Lib.hid (HY6.out.below hb)
  clear HS6 HQ6 HY6
  clear hb c0 c1 c2 c3 c4 c5 c6 hz HC6 HX6
  have c0 := HX7.out.cell 0
  have c1 := HX7.out.cell 1
  have c2 := HX7.out.cell 2
  have c3 := HX7.out.cell 3
  have c4 := HX7.out.cell 4
  have c5 := HX7.out.cell 5
  have c6 := HX7.out.cell 6
  simp at c0 c1 c2 c3 c4 c5 c6
  have hz := HX7.out.lt
  have HC7 : Hid (Calls Tryd.prog 57 #[.agg #[.int .i64 exP.no, .int .i64 exP.cell, .int .i64 exP.noise, .int .i64 exP.slab, .int .i64 exP.jump, .int .i64 0, .slice (some ⟨gl, 0, none⟩) exP.log.length 3]] W7 fun e w' => e = .returned (.tuple #[.string exS, .int .i64 0]) ∧ Below W7.heap.size W7 w') := by
    obtain ⟨f1, f2, f3, f4⟩ := HALL.out _ HK7.out
    refine (print_ok exP0 (some ⟨gl, 0, none⟩) 3 _ f1 ex_check0 f3).mono ?_
    rintro e w' ⟨he, hB⟩
    rw [ex_text] at he
    exact ⟨he, hB⟩
  go_upto_region 10 with (go_at_call 57; refine HC7.out.mono ?_; rintro e W8 ⟨rfl, hb⟩)
  have HK8 : Hid (Below w1.heap.size w1 W8) := HK7.out.trans (hb.mono HK7.out.size)
  have HX8 : Hid (Blk W8 w1.heap.size 24 [.int .i64 exP.no, .int .i64 exP.cell, .int .i64 exP.noise, .int .i64 exP.slab, .int .i64 exP.jump, .int .i64 0, .slice (some ⟨gl, 0, none⟩) exP.log.length 3]) := HX7.out.below hb
  have HS8 := Lib.hid (Kd.C_below HS7.out hb)
  have HQ8 := Lib.hid (Kd.C_below HQ7.out hb)
  have HY8 := Lib.hid (HY7.out.below hb)
  clear HS7 HQ7 HY7
  clear hb c0 c1 c2 c3 c4 c5 c6 hz HC7 HX7
  have hal : Below W8.heap.size W8 (W8.alloc (.cells #[.int .i64 95, .int .i64 105, .int .i64 95, .int .i64 125, .int .i64 105, .int .i64 115] 42)) := (Below.refl _ _).alloc (Nat.le_refl _) _
  have HC8 : Hid (Calls Tryd.prog 25 #[.slice A3 3 k3, .slice (some ⟨W8.heap.size, 0, none⟩) 3 3] (W8.alloc (.cells #[.int .i64 95, .int .i64 105, .int .i64 95, .int .i64 125, .int .i64 105, .int .i64 115] 42)) fun e w' => e = .returned (.bool true) ∧ Below W8.heap.size W8 w') := by
    have hlit : Kd.C kSpan (W8.alloc (.cells #[.int .i64 95, .int .i64 105, .int .i64 95, .int .i64 125, .int .i64 105, .int .i64 115] 42)) (some ⟨W8.heap.size, 0, none⟩) 3 [(95, 105), (95, 125), (105, 115)] :=
      Blk.reads (xs := [(95, 105), (95, 125), (105, 115)]) (Blk.new W8 42 (sc [(95, 105), (95, 125), (105, 115)])) (by decide)
    refine (spans_any A3 k3 [(95, 105), (95, 125), (105, 115)] (some ⟨W8.heap.size, 0, none⟩) 3 [(95, 105), (95, 125), (105, 115)] _ (Kd.C_below HS8.out hal) hlit).mono ?_
    rintro e w' ⟨he, hB⟩
    exact ⟨he, hal.trans (hB.mono (by simp))⟩
  clear hal
  have heq : ∀ W, (binOp .eql 49 (.agg #[.int .i64 0, .int .i64 1]) (.agg #[.int .i64 0, .int .i64 1])).run Tryd.prog W = .ok (.bool true) W := fun _ => by kernel_rfl
  have hse : ∀ W, (binOp .eql 9 (.string exS) (.string ⟨#[112, 105, 108, 108, 111, 119, 32, 48, 32, 48, 32, 53, 32, 51, 48, 32, 50, 48, 32, 48, 32, 49, 48, 61, 49, 48, 48, 32, 49, 49, 61, 49, 56, 48, 32, 49, 50, 61, 49, 49, 48]⟩)).run Tryd.prog W = .ok (.bool true) W := fun _ => by kernel_rfl
  have HC9 : Hid (∀ W, Below W8.heap.size W8 W → Calls Tryd.prog 24 #[.slice A10 4 k10, .slice (some ⟨W.heap.size + 1 + 1 + 1 + 1, 0, none⟩) 4 4] (((((W.alloc (.cells #[.int .i64 0, .int .i64 2, .int .i64 0] 3)).alloc (.cells #[.int .i64 0, .int .i64 2, .int .i64 1] 3)).alloc (.cells #[.int .i64 1, .int .i64 2, .int .i64 0] 3)).alloc (.cells #[.int .i64 1, .int .i64 2, .int .i64 1] 3)).alloc (.cells #[.slice (some ⟨W.heap.size, 0, none⟩) 3 3, .slice (some ⟨W.heap.size + 1, 0, none⟩) 3 3, .slice (some ⟨W.heap.size + 1 + 1, 0, none⟩) 3 3, .slice (some ⟨W.heap.size + 1 + 1 + 1, 0, none⟩) 3 3] 26)) fun e w' => e = .returned (.bool true) ∧ Below W.heap.size W w') := fun W hW => by
    have hal : Below W.heap.size W (((((W.alloc (.cells #[.int .i64 0, .int .i64 2, .int .i64 0] 3)).alloc (.cells #[.int .i64 0, .int .i64 2, .int .i64 1] 3)).alloc (.cells #[.int .i64 1, .int .i64 2, .int .i64 0] 3)).alloc (.cells #[.int .i64 1, .int .i64 2, .int .i64 1] 3)).alloc (.cells #[.slice (some ⟨W.heap.size, 0, none⟩) 3 3, .slice (some ⟨W.heap.size + 1, 0, none⟩) 3 3, .slice (some ⟨W.heap.size + 1 + 1, 0, none⟩) 3 3, .slice (some ⟨W.heap.size + 1 + 1 + 1, 0, none⟩) 3 3] 26)) := ((((Below.alloc (Below.refl _ _) (Nat.le_refl _) _).alloc (by simp) _).alloc (by simp; omega) _).alloc (by simp; omega) _).alloc (by simp; omega) _
    refine (lists_any A10 k10 _ _ 4 _ _ (Kd.C_below (Kd.C_below HQ8.out hW) hal) (lit4 W)).mono ?_
    rintro e w' ⟨he, hB⟩
    exact ⟨he, hal.trans (hB.mono (by simp; omega))⟩
  go_wp2_with (first | (go_at_call 25; refine HC8.out.mono ?_; rintro e w9 ⟨rfl, hb9⟩; have hy9 := HY8.out.below hb9; have y0 := hy9.cell 0; have y1 := hy9.cell 1; simp at y0 y1; clear hy9) | (go_at_call 24; refine (HC9.out _ hb9).mono ?_; rintro e w10 ⟨rfl, hb10⟩))
  go_ret
  exact ⟨ret_bool ex_str, HB1.out.trans (((HK8.out.trans ((hb9.trans (hb10.mono hb9.size)).mono HK8.out.size))).mono HB1.out.size)⟩
end Go.Proofs.YtiidkekmklbobaaDoor
set_option linter.unusedVariables false
set_option linter.unusedSimpArgs false
namespace Go.Proofs.YtiidkekmklbobaaDoor
open Go.RowKit Go.Proofs.YtiidkekmklbobaaDoorW.PrintWords
attribute [local go_sem] mx_two mn_two blk_add
theorem Blk.p7 {w : World} {g : Nat} {t : TypeId} {a0 a1 a2 a3 a4 a5 a6 : Value} (h : Blk w g t [a0, a1, a2, a3, a4, a5, a6]) :
    w.cell? ⟨g, 0, none⟩ = some a0 ∧ w.cell? ⟨g, 1, none⟩ = some a1 ∧ w.cell? ⟨g, 2, none⟩ = some a2 ∧ w.cell? ⟨g, 3, none⟩ = some a3 ∧ w.cell? ⟨g, 4, none⟩ = some a4 ∧ w.cell? ⟨g, 5, none⟩ = some a5 ∧ w.cell? ⟨g, 6, none⟩ = some a6 :=
  ⟨h.cell 0, h.cell 1, h.cell 2, h.cell 3, h.cell 4, h.cell 5, h.cell 6⟩
theorem Blk.p2 {w : World} {g : Nat} {t : TypeId} {a0 a1 : Value} (h : Blk w g t [a0, a1]) : w.cell? ⟨g, 0, none⟩ = some a0 ∧ w.cell? ⟨g, 1, none⟩ = some a1 := ⟨h.cell 0, h.cell 1⟩
theorem eq_pair (a b c d : Int) (w : World) : (Op.equalIn 10000 49 (.agg #[.int .i64 a, .int .i64 b]) (.agg #[.int .i64 c, .int .i64 d])).run Tryd.prog w = .ok (a == c && b == d) w := by
  have p0 : ∀ x y : Int, (part 3 #[.int .i64 x, .int .i64 y] 0).run Tryd.prog w = .ok (.int .i64 x) w := fun x y => by kernel_rfl
  have p1 : ∀ x y : Int, (part 3 #[.int .i64 x, .int .i64 y] 1).run Tryd.prog w = .ok (.int .i64 y) w := fun x y => by kernel_rfl
  have hs : (sizeOf 3).run Tryd.prog w = .ok 1 w := by kernel_rfl
  rw [Op.equalIn.eq_2]
  simp only [Sem.run_bind, run_underlying Tryd.underlying49, Result.andThen_ok, hs, Std.Legacy.Range.forIn_eq_forIn_range', Std.Legacy.Range.size, List.range', List.forIn_cons, List.forIn_nil, Nat.sub_zero, Nat.add_sub_cancel, Nat.div_one, Nat.zero_mul, Nat.zero_add, Nat.one_mul, p0, p1, eq_int 9998]
  cases h1 : a == c <;> cases h2 : b == d <;> simp_all [p1, eq_int 9998]
theorem eql_pair (a b : Int) (w : World) : (binOp .eql 49 (.agg #[.int .i64 a, .int .i64 b]) (.agg #[.int .i64 a, .int .i64 b])).run Tryd.prog w = .ok (.bool true) w := by
  rw [run_eql_struct, eq_pair]; simp
end Go.Proofs.YtiidkekmklbobaaDoor
