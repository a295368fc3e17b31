/- Contracts of small functions: bounds, Loads, Shift, Check, the case test, told. -/
import Derived.Test.YtiidkekmklbobaaDoorProg
import Derived.Test.YtiidkekmklbobaaDoorWWords
import Derived.Deep.Draws
import Derived.Deep.AppendLies
import Derived.OwnWalk
import Derived.Laws.MakeOwn
import Derived.Laws.OwnMore
import Derived.Tactics
import Derived.WalkKit
import Derived.KernelRfl
import Derived.Deep.QuietTactic
import Derived.BigQuiet
import Derived.Deep.DeepCutAuto
import Derived.Deep.RegionHeld3
import Derived.Laws.Rows
import Derived.Lib.Hide
import Derived.Outline
import Derived.LoopTactic
import Derived.StillTailTactics
set_option linter.unusedVariables false
set_option linter.unusedSimpArgs false
namespace Go.Proofs.YtiidkekmklbobaaDoor
open Go.RowKit Go.Proofs.YtiidkekmklbobaaDoorW.PrintWords

theorem ret_int {k : IntKind} {a b : Int} (h : a = b) : Ending.returned (.int k a) = .returned (.int k b) := by rw [h]
theorem ret_bool {a b : Bool} (h : a = b) : Ending.returned (.bool a) = .returned (.bool b) := by rw [h]
abbrev iv (n : Int) : Value := .int .i64 n
abbrev spv (a b : Int) : Value := .agg #[.int .i64 a, .int .i64 b]
theorem mx_two (ats : Array TypeId) (ty : TypeId) (k k' : IntKind) (x y : Int) : Builtin.max_ ats ty #[.int k x, .int k' y] = pure (.int k (max x y)) := by
  simp only [Builtin.max_, List.foldlM_cons, List.foldlM_nil, Builtin.max2, gt_iff_lt]
  simp [Int.max_def]
  split <;> split <;> first | rfl | (congr; omega) | omega
theorem mn_two (ats : Array TypeId) (ty : TypeId) (k k' : IntKind) (x y : Int) : Builtin.min_ ats ty #[.int k x, .int k' y] = pure (.int k (min x y)) := by
  simp only [Builtin.min_, List.foldlM_cons, List.foldlM_nil, Builtin.min2]
  simp [Int.min_def]
  split <;> split <;> first | rfl | (congr; omega) | omega
attribute [local go_sem] mx_two mn_two

def within (n a b : Int) : Bool := decide (a ≤ n) && decide (n ≤ b)
theorem within_t {n a b : Int} : within n a b = true ↔ a ≤ n ∧ n ≤ b := by simp [within]
theorem water_any (n : Int) (w : World) : Calls Tryd.prog 77 #[.int .i64 n] w fun e w' => e = .returned (.bool (within n 0 65536)) ∧ w = w' := by
  unfold within
  by_cases h : 0 ≤ n
  · have hd : decide (0 ≤ n) = true := by simpa using h
    go_enter Tryd.func77, Tryd.ntmps77
    go_wp2
    go_ret
    simp [hd]
  · have hd : decide (0 ≤ n) = false := by simpa using h
    go_enter Tryd.func77, Tryd.ntmps77
    go_wp2
    go_ret
    simp

theorem meet_any (a b c d : Int) (w : World) : Calls Tryd.prog 81 #[spv a b, spv c d] w fun e w' => e = .returned (spv (max a c) (min b d)) ∧ Below w.heap.size w w' := by
  go_enter Tryd.func81, Tryd.ntmps81
  go_wp2
  refine bodyPost_ret (v := spv (max a c) (min b d)) (by simp [results, Tryd.results81, go_sem]) rfl ⟨rfl, ?_⟩
  exact (((Below.refl _ _).alloc (Nat.le_refl _) _).alloc (by simp) _).alloc (by simp; omega) _
theorem number_any (n : Int) (w : World) : Calls Tryd.prog 76 #[.int .i64 n] w fun e w' => e = .returned (.bool (within n 0 4095)) ∧ w = w' := by
  unfold within
  by_cases h : 0 ≤ n
  · have hd : decide (0 ≤ n) = true := by simpa using h
    go_enter Tryd.func76, Tryd.ntmps76
    go_wp2
    go_ret
    simp [hd]
  · have hd : decide (0 ≤ n) = false := by simpa using h
    go_enter Tryd.func76, Tryd.ntmps76
    go_wp2
    go_ret
    simp

theorem within_any (n a b : Int) (w : World) : Calls Tryd.prog 74 #[.int .i64 n, .int .i64 a, .int .i64 b] w fun e w' => e = .returned (.bool (within n a b)) ∧ w = w' := by
  unfold within
  by_cases h : a ≤ n
  · have hd : decide (a ≤ n) = true := by simpa using h
    go_enter Tryd.func74, Tryd.ntmps74
    go_wp2
    go_ret
    simp [hd]
  · have hd : decide (a ≤ n) = false := by simpa using h
    go_enter Tryd.func74, Tryd.ntmps74
    go_wp2
    go_ret
    simp

theorem rmeet_any (a b c d : Int) (w : World) : Calls Tryd.prog 96 #[spv a b, spv c d] w fun e w' => e = .returned (spv (max a c) (min b d)) ∧ Below w.heap.size w w' := by
  go_enter Tryd.func96, Tryd.ntmps96
  go_wp2
  refine bodyPost_ret (v := spv (max a c) (min b d)) (by simp [results, Tryd.results96, go_sem]) rfl ⟨rfl, ?_⟩
  exact (((Below.refl _ _).alloc (Nat.le_refl _) _).alloc (by simp) _).alloc (by simp; omega) _

def small (n : Int) : Prop := -1000000000 ≤ n ∧ n ≤ 1000000000

theorem add_any (a b c d : Int) (w : World) (ha : small a) (hb : small b) (hc : small c) (hd : small d) :
    Calls Tryd.prog 82 #[spv a b, spv c d] w fun e w' => e = .returned (spv (a + c) (b + d)) ∧ Below w.heap.size w w' := by
  obtain ⟨a1, a2⟩ := ha
  obtain ⟨b1, b2⟩ := hb
  obtain ⟨c1, c2⟩ := hc
  obtain ⟨d1, d2⟩ := hd
  go_enter Tryd.func82, Tryd.ntmps82
  go_wp2
  refine bodyPost_ret (v := spv (a + c) (b + d)) (by simp [results, Tryd.results82, go_sem]) rfl ⟨rfl, ?_⟩
  exact (((Below.refl _ _).alloc (Nat.le_refl _) _).alloc (by simp) _).alloc (by simp; omega) _

theorem less_any (a b c d : Int) (w : World) (ha : small a) (hb : small b) (hc : small c) (hd : small d) :
    Calls Tryd.prog 83 #[spv a b, spv c d] w fun e w' => e = .returned (spv (a - d) (b - c)) ∧ Below w.heap.size w w' := by
  obtain ⟨a1, a2⟩ := ha
  obtain ⟨b1, b2⟩ := hb
  obtain ⟨c1, c2⟩ := hc
  obtain ⟨d1, d2⟩ := hd
  go_enter Tryd.func83, Tryd.ntmps83
  go_wp2
  refine bodyPost_ret (v := spv (a - d) (b - c)) (by simp [results, Tryd.results83, go_sem]) rfl ⟨rfl, ?_⟩
  exact (((Below.refl _ _).alloc (Nat.le_refl _) _).alloc (by simp) _).alloc (by simp; omega) _

theorem none_any (a b : Int) (w : World) : Calls Tryd.prog 91 #[spv a b] w fun e w' => e = .returned (.bool (decide (b < a))) ∧ Below w.heap.size w w' := by
  go_enter Tryd.func91, Tryd.ntmps91
  go_wp2
  repeat (go_quiet (fail); try go_wp2)
  go_ret
  exact ⟨rfl, by first | exact (Below.refl _ _).alloc (Nat.le_refl _) _ | exact pw_below_drewN ((Below.refl _ _).alloc (Nat.le_refl _) _) _⟩

theorem cut_any (a b : Int) (w : World) : Calls Tryd.prog 99 #[spv a b] w fun e w' => e = .returned (spv (max a 0) (min b 65536)) ∧ Below w.heap.size w w' := by
  go_enter Tryd.func99, Tryd.ntmps99
  go_wp2
  refine bodyPost_ret (v := spv (max a 0) (min b 65536)) (by simp [results, Tryd.results99, go_sem]) rfl ⟨rfl, ?_⟩
  exact (((Below.refl _ _).alloc (Nat.le_refl _) _).alloc (by simp) _)

/-! ## The pillow as data -/
theorem blk_add (a : Addr) (n : Nat) : (a.add n).block = a.block := by unfold Addr.add; split <;> rfl
attribute [local go_sem] blk_add
def kSpan : Kd (Int × Int) := Kd.pair (Kd.int .i64) (Kd.int .i64)
theorem kSpan_open {w : World} {x : Int × Int} {cs : List Value} (h : kSpan.K w x cs) : cs = [.int .i64 x.1, .int .i64 x.2] := by
  obtain ⟨_, _, rfl, rfl, rfl⟩ := h
  exact rfl
theorem at_span {w : World} {A : Option Addr} {n : Nat} {xs : List (Int × Int)} (h : Kd.C kSpan w A n xs) (i : Nat) (h1 : i < n) :
    ∃ ad , A = some ad ∧ w.cell? (ad.add (i * 2)) = some (.int .i64 (xs.getD i (0, 0)).1) ∧ w.cell? ⟨ad.block, (ad.add (i * 2)).off + 1, none⟩ = some (.int .i64 (xs.getD i (0, 0)).2) := by
  obtain ⟨ad, c, e, _, hK, hc0⟩ := Kd.C_get h (0, 0) (i : Int) (by omega) (by omega)
  have hc : ∀ j u, c[j]? = some u → w.cell? (ad.add (i * 2 + j)) = some u := hc0
  obtain rfl := kSpan_open hK
  exact ⟨ad, e, hc 0 _ rfl, by rw [← blk_add ad (i * 2), ← add_field _ _ 1 (by omega)]; exact hc 1 _ rfl⟩

structure Pil where
  no : Int
  cell : Int
  noise : Int
  slab : Int
  jump : Int
  faults : Int
  log : List (Int × Int)
abbrev Pil.val (p : Pil) (A : Option Addr) (c : Nat) : Value := .agg #[.int .i64 p.no, .int .i64 p.cell, .int .i64 p.noise, .int .i64 p.slab, .int .i64 p.jump, .int .i64 p.faults, .slice A p.log.length c]
abbrev storyv (p : Pil) (A : Option Addr) (c : Nat) (A' : Option Addr) (n' c' : Nat) : Value := .agg #[.int .i64 p.no, .int .i64 p.cell, .int .i64 p.noise, .int .i64 p.slab, .int .i64 p.jump, .int .i64 p.faults, .slice A p.log.length c, .slice A' n' c']
/-- What a valid pillow's numbers are bounded by. -/
structure Ok (p : Pil) : Prop where
  n0 : 0 ≤ p.noise
  n1 : p.noise ≤ 65536
  s0 : 0 ≤ p.slab
  s1 : p.slab ≤ 65536
  j0 : 0 ≤ p.jump
  j1 : p.jump ≤ 65536
  f0 : 0 ≤ p.faults
  f1 : p.faults ≤ 32
  l : p.log.length ≤ 32
  w : ∀ i, 0 ≤ (p.log.getD i (0, 0)).2 ∧ (p.log.getD i (0, 0)).2 ≤ 65536
def Pil.wt (p : Pil) (i : Nat) : Int := (p.log.getD i (0, 0)).2
def loadsF (p : Pil) (i : Nat) (st : Int) : Int × Int :=
  if st = 0 then (max (p.wt i - p.noise) 0, min (p.wt i + p.noise) 65536)
  else if st = 1 then (max (p.wt i - p.noise) 0, min (p.wt i + p.noise + p.slab) 65536)
  else (0, 65536)
theorem at_lt {w : World} {a : Addr} {n : Nat} {v : Value} (h : w.cell? (a.add n) = some v) : a.block < w.heap.size ∧ a.block < w.heap.size + 1 ∧ a.block < w.heap.size + 1 + 1 := by
  have := World.block_lt_of_cell? w _ h
  rw [blk_add] at this
  omega
theorem bcell {W w1 : World} (hb : Below W.heap.size W w1) : (∀ b o, b < W.heap.size → w1.cell? ⟨b, o, none⟩ = W.cell? ⟨b, o, none⟩) ∧ (∀ b o, b < W.heap.size → w1.frozen? ⟨b, o, none⟩ = W.frozen? ⟨b, o, none⟩) :=
  ⟨fun b o h => hb.cell (p := ⟨b, o, none⟩) h, fun b o h => hb.frozen (p := ⟨b, o, none⟩) h⟩
set_option maxHeartbeats 400000 in
theorem loads_any (p : Pil) (A : Option Addr) (c i : Nat) (st : Int) (w : World) (hp : Ok p) (hA : Kd.C kSpan w A p.log.length p.log) (hi : i < p.log.length) :
    Calls Tryd.prog 72 #[p.val A c, .int .i64 i, .int .i64 st] w fun e w' => e = .returned (spv (loadsF p i st).1 (loadsF p i st).2) ∧ Below w.heap.size w w' := by
  obtain ⟨ad, rfl, h1, h2⟩ := at_span hA i hi
  obtain ⟨l0, l1, l2⟩ := at_lt h1
  have b := hp.w i
  obtain ⟨n0, n1, s0, s1, -, -, -, -, hl, -⟩ := hp
  change 0 ≤ p.wt i ∧ p.wt i ≤ 65536 at b
  change _ = some (Value.int .i64 (p.wt i)) at h2
  clear h1 hA
  unfold loadsF
  generalize p.wt i = W at *
  obtain ⟨b0, b1⟩ := b
  by_cases h0 : st = 0
  · subst h0
    rw [if_pos rfl]
    go_enter Tryd.func72, Tryd.ntmps72
    go_wp2_with (go_at_call 99; refine (cut_any _ _ _).mono ?_; rintro e w1 ⟨rfl, hb⟩; obtain ⟨hc, hf⟩ := bcell hb)
    refine bodyPost_ret (v := spv (max (W - p.noise) 0) (min (W + p.noise) 65536)) (by simp [results, Tryd.results72, go_sem, hc, hf]) rfl ⟨rfl, ?_⟩
    exact (((((Below.refl _ _).alloc (Nat.le_refl _) _).alloc (by simp) _).trans (hb.mono (by simp; omega))).setCell (by simp) _).setCell (by simp) _
  · by_cases h1 : st = 1
    · subst h1
      go_enter Tryd.func72, Tryd.ntmps72
      go_wp2_with (go_at_call 99; refine (cut_any _ _ _).mono ?_; rintro e w1 ⟨rfl, hb⟩; obtain ⟨hc, hf⟩ := bcell hb)
      refine bodyPost_ret (v := spv (max (W - p.noise) 0) (min (W + p.noise + p.slab) 65536)) (by simp [results, Tryd.results72, go_sem, hc, hf]) rfl ⟨rfl, ?_⟩
      exact (((((Below.refl _ _).alloc (Nat.le_refl _) _).alloc (by simp) _).trans (hb.mono (by simp; omega))).setCell (by simp) _).setCell (by simp) _
    · have e0 : (st == 0) = false := by simpa using h0
      have e1 : (st == 1) = false := by simpa using h1
      rw [if_neg h0, if_neg h1]
      go_enter Tryd.func72, Tryd.ntmps72
      go_wp2
      refine bodyPost_ret (v := spv 0 65536) (by simp [results, Tryd.results72, go_sem]) rfl ⟨rfl, ?_⟩
      exact (((Below.refl _ _).alloc (Nat.le_refl _) _).alloc (by simp) _)
end Go.Proofs.YtiidkekmklbobaaDoor
set_option linter.unusedVariables false
set_option linter.unusedSimpArgs false
namespace Go.Proofs.YtiidkekmklbobaaDoor
open Go.RowKit Go.Proofs.YtiidkekmklbobaaDoorW.PrintWords
attribute [local go_sem] mx_two mn_two blk_add
def headB (p : Pil) : Bool := within p.no 0 4095 && (within p.cell 0 4095 && (within p.noise 0 65536 && (within p.slab 0 65536 && (within p.jump 0 65536 && (within p.faults 0 32 && decide (p.log.length ≤ 32))))))
def Pil.day (p : Pil) (i : Nat) : Int := (p.log.getD i (0, 0)).1
def entryB (p : Pil) (i : Nat) : Bool := within (p.day i) 0 1048576 && (within (p.wt i) 0 65536 && (i == 0 || decide (p.day (i - 1) < p.day i)))
def checkB (p : Pil) : Bool := headB p && (List.range p.log.length).all (entryB p)
def checkF (p : Pil) : Int := if checkB p then 0 else 30
theorem check_head {p : Pil} (h : headB p = false) : checkF p = 30 := by simp [checkF, checkB, h]
theorem check_entry {p : Pil} {i : Nat} (hi : i < p.log.length) (h : entryB p i = false) : checkF p = 30 := by
  unfold checkF checkB
  rw [if_neg]
  simp only [Bool.and_eq_true, not_and, Bool.not_eq_true]
  intro _
  rw [List.all_eq_false]
  exact ⟨i, by simpa using hi, by simp [h]⟩
theorem check_all {p : Pil} (h : headB p = true) (ha : ∀ i, i < p.log.length → entryB p i = true) : checkF p = 0 := by
  unfold checkF checkB
  rw [if_pos]
  simp only [h, Bool.true_and, List.all_eq_true, List.mem_range]
  exact ha
set_option maxHeartbeats 1600000 in
theorem check_bad (p : Pil) (A : Option Addr) (c : Nat) (w : World) (hh : headB p = false) :
    Calls Tryd.prog 45 #[p.val A c] w fun e w' => e = .returned (.int .i64 (checkF p)) ∧ Below w.heap.size w w' := by
  have hF := Lib.hid (check_head hh)
  unfold headB at hh
  cases h0 : within p.no 0 4095
  · clear hh
    go_enter Tryd.func45, Tryd.ntmps45
    go_wp2_with (first | (go_at_call 76; refine (number_any _ _).mono ?_; rintro e w1 ⟨rfl, rfl⟩) | (go_at_call 77; refine (water_any _ _).mono ?_; rintro e w1 ⟨rfl, rfl⟩))
    go_ret
    exact ⟨ret_int hF.out.symm, (Below.refl _ _).alloc (Nat.le_refl _) _⟩
  · rw [h0, Bool.true_and] at hh
    cases h1 : within p.cell 0 4095
    · clear hh
      go_enter Tryd.func45, Tryd.ntmps45
      go_wp2_with (first | (go_at_call 76; refine (number_any _ _).mono ?_; rintro e w1 ⟨rfl, rfl⟩) | (go_at_call 77; refine (water_any _ _).mono ?_; rintro e w1 ⟨rfl, rfl⟩))
      go_ret
      exact ⟨ret_int hF.out.symm, (Below.refl _ _).alloc (Nat.le_refl _) _⟩
    · rw [h1, Bool.true_and] at hh
      cases h2 : within p.noise 0 65536
      · clear hh
        go_enter Tryd.func45, Tryd.ntmps45
        go_wp2_with (first | (go_at_call 76; refine (number_any _ _).mono ?_; rintro e w1 ⟨rfl, rfl⟩) | (go_at_call 77; refine (water_any _ _).mono ?_; rintro e w1 ⟨rfl, rfl⟩))
        go_ret
        exact ⟨ret_int hF.out.symm, (Below.refl _ _).alloc (Nat.le_refl _) _⟩
      · rw [h2, Bool.true_and] at hh
        cases h3 : within p.slab 0 65536
        · clear hh
          go_enter Tryd.func45, Tryd.ntmps45
          go_wp2_with (first | (go_at_call 76; refine (number_any _ _).mono ?_; rintro e w1 ⟨rfl, rfl⟩) | (go_at_call 77; refine (water_any _ _).mono ?_; rintro e w1 ⟨rfl, rfl⟩))
          go_ret
          exact ⟨ret_int hF.out.symm, (Below.refl _ _).alloc (Nat.le_refl _) _⟩
        · rw [h3, Bool.true_and] at hh
          cases h4 : within p.jump 0 65536
          · clear hh
            go_enter Tryd.func45, Tryd.ntmps45
            go_wp2_with (first | (go_at_call 76; refine (number_any _ _).mono ?_; rintro e w1 ⟨rfl, rfl⟩) | (go_at_call 77; refine (water_any _ _).mono ?_; rintro e w1 ⟨rfl, rfl⟩))
            go_ret
            exact ⟨ret_int hF.out.symm, (Below.refl _ _).alloc (Nat.le_refl _) _⟩
          · rw [h4, Bool.true_and] at hh
            by_cases f0 : p.faults < 0
            · clear hh
              have g0 : decide (p.faults < 0) = true := by simpa using f0
              go_enter Tryd.func45, Tryd.ntmps45
              go_wp2_with (first | (go_at_call 76; refine (number_any _ _).mono ?_; rintro e w1 ⟨rfl, rfl⟩) | (go_at_call 77; refine (water_any _ _).mono ?_; rintro e w1 ⟨rfl, rfl⟩))
              go_ret
              exact ⟨ret_int hF.out.symm, (Below.refl _ _).alloc (Nat.le_refl _) _⟩
            · have g0 : decide (p.faults < 0) = false := by simpa using f0
              by_cases f1 : 32 < p.faults
              · clear hh
                have g1 : decide (32 < p.faults) = true := by simpa using f1
                go_enter Tryd.func45, Tryd.ntmps45
                go_wp2_with (first | (go_at_call 76; refine (number_any _ _).mono ?_; rintro e w1 ⟨rfl, rfl⟩) | (go_at_call 77; refine (water_any _ _).mono ?_; rintro e w1 ⟨rfl, rfl⟩))
                go_ret
                exact ⟨ret_int hF.out.symm, (Below.refl _ _).alloc (Nat.le_refl _) _⟩
              · have g1 : decide (32 < p.faults) = false := by simpa using f1
                have hw : within p.faults 0 32 = true := within_t.2 (by omega)
                rw [hw, Bool.true_and] at hh
                have f2 : 32 < p.log.length := by simpa using hh
                have g2 : decide ((32 : Int) < p.log.length) = true := by simp; omega
                clear hh hw
                go_enter Tryd.func45, Tryd.ntmps45
                go_wp2_with (first | (go_at_call 76; refine (number_any _ _).mono ?_; rintro e w1 ⟨rfl, rfl⟩) | (go_at_call 77; refine (water_any _ _).mono ?_; rintro e w1 ⟨rfl, rfl⟩))
                go_ret
                exact ⟨ret_int hF.out.symm, (Below.refl _ _).alloc (Nat.le_refl _) _⟩

theorem bcell1 {W w1 : World} {o : Obj} (hb : Below (W.heap.size + 1) (W.alloc o) w1) : (∀ b q, b < W.heap.size + 1 → w1.cell? ⟨b, q, none⟩ = (W.alloc o).cell? ⟨b, q, none⟩) ∧ (∀ b q, b < W.heap.size + 1 → w1.frozen? ⟨b, q, none⟩ = (W.alloc o).frozen? ⟨b, q, none⟩) :=
  ⟨fun b o h => hb.cell (p := ⟨b, o, none⟩) h, fun b o h => hb.frozen (p := ⟨b, o, none⟩) h⟩
set_option maxHeartbeats 1600000 in
theorem check_good (p : Pil) (A : Option Addr) (c : Nat) (w : World) (hA : Kd.C kSpan w A p.log.length p.log) (hh : headB p = true) :
    Calls Tryd.prog 45 #[p.val A c] w fun e w' => e = .returned (.int .i64 (checkF p)) ∧ Below w.heap.size w w' := by
  have HH := Lib.hid hh
  simp only [headB, Bool.and_eq_true, decide_eq_true_eq] at hh
  obtain ⟨h0, h1, h2, h3, h4, h5, h6⟩ := hh
  have f0 : decide (p.faults < 0) = false := by have := within_t.1 h5; simp; omega
  have f1 : decide (32 < p.faults) = false := by have := within_t.1 h5; simp; omega
  have f2 : decide ((32 : Int) < p.log.length) = false := by simp; omega
  have HA := Lib.hid hA
  clear hA
  go_enter Tryd.func45, Tryd.ntmps45
  go_wp2_with (first | (go_at_call 76; refine (number_any _ _).mono ?_; rintro e w1 ⟨rfl, rfl⟩) | (go_at_call 77; refine (water_any _ _).mono ?_; rintro e w1 ⟨rfl, rfl⟩))
  clear h0 h1 h2 h3 h4 h5 f0 f1 f2
  go_loopw [52] (fun v52 wr => ∃ k : Nat, k ≤ p.log.length ∧ v52 = .int .i64 k ∧ Below (w.heap.size + 1) (w.alloc (Obj.cells #[.int .i64 p.no, .int .i64 p.cell, .int .i64 p.noise, .int .i64 p.slab, .int .i64 p.jump, .int .i64 p.faults, .slice A p.log.length c] 24)) wr ∧ Hid (∀ i, i < k → entryB p i = true))
    (fun v52 _ => p.log.length - (intOf v52).toNat)
  case atStart => exact ⟨0, Nat.zero_le _, rfl, Below.refl _ _, fun i h => absurd h (by omega)⟩
  case round =>
    obtain ⟨k, hk, rfl, hb, hall⟩ := hrel
    by_cases hlt : k < p.log.length
    · have hwr : Below w.heap.size w wr := ((Below.refl _ _).alloc (Nat.le_refl _) _).trans (hb.mono (by omega))
      have hz : w.heap.size + 1 ≤ wr.heap.size := by have := hb.size; simpa using this
      have hz0 : w.heap.size < wr.heap.size := hz
      have hz1 : w.heap.size < wr.heap.size + 1 := by omega
      obtain ⟨hc, hf⟩ := bcell1 hb
      obtain ⟨ad, rfl, a1, a2⟩ := at_span (Kd.C_below HA.out hwr) k hlt
      obtain ⟨l0, l1, l2⟩ := at_lt a1
      change _ = some (Value.int .i64 (p.day k)) at a1
      change _ = some (Value.int .i64 (p.wt k)) at a2
      by_cases d0 : p.day k < 0
      · have hF := Lib.hid (check_entry hlt (by simp [entryB, within]; omega))
        have g0 : decide (p.day k < 0) = true := by simpa using d0
        generalize p.day k = D at *
        generalize p.wt k = W at *
        go_wp2
        go_quiet ((go_at_call 77; exact Calls.quiet_of_same ((water_any _ _).mono fun _ _ h => ⟨h.1, h.2.symm⟩)))
        go_wp2
        go_ret
        exact ⟨ret_int hF.out.symm, pw_below_drewN (hwr.trans ((Below.refl _ _).alloc (by omega) _)) _⟩
      · have g0 : decide (p.day k < 0) = false := by simpa using d0
        by_cases d1 : 1048576 < p.day k
        · have hF := Lib.hid (check_entry hlt (by simp [entryB, within]; omega))
          have g1 : decide (1048576 < p.day k) = true := by simpa using d1
          generalize p.day k = D at *
          generalize p.wt k = W at *
          go_wp2
          go_quiet ((go_at_call 77; exact Calls.quiet_of_same ((water_any _ _).mono fun _ _ h => ⟨h.1, h.2.symm⟩)))
          go_wp2
          go_ret
          exact ⟨ret_int hF.out.symm, pw_below_drewN (hwr.trans ((Below.refl _ _).alloc (by omega) _)) _⟩
        · have g1 : decide (1048576 < p.day k) = false := by simpa using d1
          have g2 : within (p.day k) 0 1048576 = true := within_t.2 (by omega)
          cases hw : within (p.wt k) 0 65536
          · have hF := Lib.hid (check_entry hlt (by simp [entryB, hw]))
            clear d0 d1 g2
            generalize p.day k = D at *
            generalize p.wt k = W at *
            go_wp2
            go_quiet ((go_at_call 77; exact Calls.quiet_of_same ((water_any _ _).mono fun _ _ h => ⟨h.1, h.2.symm⟩)))
            go_wp2
            go_ret
            exact ⟨ret_int hF.out.symm, pw_below_drewN (hwr.trans ((Below.refl _ _).alloc (by omega) _)) _⟩
          · by_cases hk0 : k = 0
            · have hG : Hid (entryB p k = true) := by show entryB p k = true; unfold entryB; rw [g2, hw]; simp [hk0]
              have e0 : decide (0 < k) = false := by simp; omega
              clear d0 d1 g2 hk0
              generalize p.day k = D at *
              generalize p.wt k = W at *
              go_wp2
              go_quiet ((go_at_call 77; exact Calls.quiet_of_same ((water_any _ _).mono fun _ _ h => ⟨h.1, h.2.symm⟩)))
              go_wp2
              go_roundw
              case rel => exact ⟨k + 1, by omega, by go_num, pw_below_drewN (hb.alloc (by omega) _) _, fun i hi => by
                rcases Nat.lt_or_ge i k with h | h
                · exact hall.out i h
                · obtain rfl : i = k := by omega
                  exact hG.out⟩
              case measure => simp [intOf]; omega
            · obtain ⟨ad', e', p1, p2⟩ := at_span (Kd.C_below HA.out hwr) (k - 1) (by omega)
              obtain rfl := Option.some.inj e'
              change _ = some (Value.int .i64 (p.day (k - 1))) at p1
              have e0 : decide (0 < k) = true := by simp; omega
              have e1 : IntKind.i64.wrap ((k : Int) - 1) = (k : Int) - 1 := IntWalk.i64_in _ (by omega)
              have e2 : ((k : Int) - 1).toNat = k - 1 := by omega
              have e3 : 0 ≤ (k : Int) - 1 := by omega
              have e4 : (k : Int) - 1 < (p.log.length : Int) := by omega
              clear e' p2
              by_cases hd : p.day (k - 1) < p.day k
              · have hG : Hid (entryB p k = true) := by show entryB p k = true; simp [entryB, hw, g2, hd]
                have e5 : decide (p.day k ≤ p.day (k - 1)) = false := by simp; omega
                clear d0 d1 g2 hd
                generalize p.day k = D at *
                generalize p.day (k - 1) = D' at *
                generalize p.wt k = W at *
                go_wp2
                go_quiet ((go_at_call 77; exact Calls.quiet_of_same ((water_any _ _).mono fun _ _ h => ⟨h.1, h.2.symm⟩)))
                go_wp2
                go_roundw
                case rel => exact ⟨k + 1, by omega, by go_num, pw_below_drewN (hb.alloc (by omega) _) _, fun i hi => by
                  rcases Nat.lt_or_ge i k with h | h
                  · exact hall.out i h
                  · obtain rfl : i = k := by omega
                    exact hG.out⟩
                case measure => simp [intOf]; omega
              · have hF := Lib.hid (check_entry hlt (by simp [entryB, hd, hk0]))
                have e5 : decide (p.day k ≤ p.day (k - 1)) = true := by simp; omega
                clear d0 d1 g2 hd
                generalize p.day k = D at *
                generalize p.day (k - 1) = D' at *
                generalize p.wt k = W at *
                go_wp2
                go_quiet ((go_at_call 77; exact Calls.quiet_of_same ((water_any _ _).mono fun _ _ h => ⟨h.1, h.2.symm⟩)))
                go_wp2
                go_ret
                exact ⟨ret_int hF.out.symm, pw_below_drewN (hwr.trans ((Below.refl _ _).alloc (by omega) _)) _⟩
    · obtain rfl : k = p.log.length := by omega
      go_wp2
      go_ret
      exact ⟨ret_int (check_all HH.out hall.out).symm, ((Below.refl _ _).alloc (Nat.le_refl _) _).trans (hb.mono (by omega))⟩
theorem check_any (p : Pil) (A : Option Addr) (c : Nat) (w : World) (hA : Kd.C kSpan w A p.log.length p.log) :
    Calls Tryd.prog 45 #[p.val A c] w fun e w' => e = .returned (.int .i64 (checkF p)) ∧ Below w.heap.size w w' := by
  cases h : headB p
  · exact check_bad p A c w h
  · exact check_good p A c w hA h
end Go.Proofs.YtiidkekmklbobaaDoor
set_option linter.unusedVariables false
set_option linter.unusedSimpArgs false
namespace Go.Proofs.YtiidkekmklbobaaDoor
open Go.RowKit Go.Proofs.YtiidkekmklbobaaDoorW.PrintWords
attribute [local go_sem] mx_two mn_two blk_add
set_option maxHeartbeats 1600000 in
theorem rcheck_bad (p : Pil) (A : Option Addr) (c : Nat) (w : World) (hh : headB p = false) :
    Calls Tryd.prog 46 #[p.val A c] w fun e w' => e = .returned (.int .i64 (checkF p)) ∧ Below w.heap.size w w' := by
  have hF := Lib.hid (check_head hh)
  unfold headB at hh
  cases h0 : within p.no 0 4095
  · clear hh
    go_enter Tryd.func46, Tryd.ntmps46
    go_wp2_with (go_at_call 74; refine (within_any _ _ _ _).mono ?_; rintro e w1 ⟨rfl, rfl⟩)
    go_ret
    exact ⟨ret_int hF.out.symm, (Below.refl _ _).alloc (Nat.le_refl _) _⟩
  · rw [h0, Bool.true_and] at hh
    cases h1 : within p.cell 0 4095
    · clear hh
      go_enter Tryd.func46, Tryd.ntmps46
      go_wp2_with (go_at_call 74; refine (within_any _ _ _ _).mono ?_; rintro e w1 ⟨rfl, rfl⟩)
      go_ret
      exact ⟨ret_int hF.out.symm, (Below.refl _ _).alloc (Nat.le_refl _) _⟩
    · rw [h1, Bool.true_and] at hh
      cases h2 : within p.noise 0 65536
      · clear hh
        go_enter Tryd.func46, Tryd.ntmps46
        go_wp2_with (go_at_call 74; refine (within_any _ _ _ _).mono ?_; rintro e w1 ⟨rfl, rfl⟩)
        go_ret
        exact ⟨ret_int hF.out.symm, (Below.refl _ _).alloc (Nat.le_refl _) _⟩
      · rw [h2, Bool.true_and] at hh
        cases h3 : within p.slab 0 65536
        · clear hh
          go_enter Tryd.func46, Tryd.ntmps46
          go_wp2_with (go_at_call 74; refine (within_any _ _ _ _).mono ?_; rintro e w1 ⟨rfl, rfl⟩)
          go_ret
          exact ⟨ret_int hF.out.symm, (Below.refl _ _).alloc (Nat.le_refl _) _⟩
        · rw [h3, Bool.true_and] at hh
          cases h4 : within p.jump 0 65536
          · clear hh
            go_enter Tryd.func46, Tryd.ntmps46
            go_wp2_with (go_at_call 74; refine (within_any _ _ _ _).mono ?_; rintro e w1 ⟨rfl, rfl⟩)
            go_ret
            exact ⟨ret_int hF.out.symm, (Below.refl _ _).alloc (Nat.le_refl _) _⟩
          · rw [h4, Bool.true_and] at hh
            cases h5 : within p.faults 0 32
            · clear hh
              go_enter Tryd.func46, Tryd.ntmps46
              go_wp2_with (go_at_call 74; refine (within_any _ _ _ _).mono ?_; rintro e w1 ⟨rfl, rfl⟩)
              go_ret
              exact ⟨ret_int hF.out.symm, (Below.refl _ _).alloc (Nat.le_refl _) _⟩
            · rw [h5, Bool.true_and] at hh
              have f2 : 32 < p.log.length := by simpa using hh
              have g2 : decide ((32 : Int) < p.log.length) = true := by simp; omega
              clear hh
              go_enter Tryd.func46, Tryd.ntmps46
              go_wp2_with (go_at_call 74; refine (within_any _ _ _ _).mono ?_; rintro e w1 ⟨rfl, rfl⟩)
              go_ret
              exact ⟨ret_int hF.out.symm, (Below.refl _ _).alloc (Nat.le_refl _) _⟩

set_option maxHeartbeats 1600000 in
theorem rcheck_good (p : Pil) (A : Option Addr) (c : Nat) (w : World) (hA : Kd.C kSpan w A p.log.length p.log) (hh : headB p = true) :
    Calls Tryd.prog 46 #[p.val A c] w fun e w' => e = .returned (.int .i64 (checkF p)) ∧ Below w.heap.size w w' := by
  have HH := Lib.hid hh
  simp only [headB, Bool.and_eq_true, decide_eq_true_eq] at hh
  obtain ⟨h0, h1, h2, h3, h4, h5, h6⟩ := hh
  have f2 : decide ((32 : Int) < p.log.length) = false := by simp; omega
  have HA := Lib.hid hA
  clear hA
  go_enter Tryd.func46, Tryd.ntmps46
  go_wp2_with (go_at_call 74; refine (within_any _ _ _ _).mono ?_; rintro e w1 ⟨rfl, rfl⟩)
  clear h0 h1 h2 h3 h4 h5 f2
  go_loopw [3] (fun v52 wr => ∃ k : Nat, k ≤ p.log.length ∧ v52 = .int .i64 k ∧ Below (w.heap.size + 1) (w.alloc (Obj.cells #[.int .i64 p.no, .int .i64 p.cell, .int .i64 p.noise, .int .i64 p.slab, .int .i64 p.jump, .int .i64 p.faults, .slice A p.log.length c] 24)) wr ∧ Hid (∀ i, i < k → entryB p i = true))
    (fun v52 _ => p.log.length - (intOf v52).toNat)
  case atStart => exact ⟨0, Nat.zero_le _, rfl, Below.refl _ _, fun i h => absurd h (by omega)⟩
  case round =>
    obtain ⟨k, hk, rfl, hb, hall⟩ := hrel
    by_cases hlt : k < p.log.length
    · have hwr : Below w.heap.size w wr := ((Below.refl _ _).alloc (Nat.le_refl _) _).trans (hb.mono (by omega))
      have hz : w.heap.size + 1 ≤ wr.heap.size := by have := hb.size; simpa using this
      have hz0 : w.heap.size < wr.heap.size := hz
      have hz1 : w.heap.size < wr.heap.size + 1 := by omega
      obtain ⟨hc, hf⟩ := bcell1 hb
      obtain ⟨ad, rfl, a1, a2⟩ := at_span (Kd.C_below HA.out hwr) k hlt
      obtain ⟨l0, l1, l2⟩ := at_lt a1
      change _ = some (Value.int .i64 (p.day k)) at a1
      change _ = some (Value.int .i64 (p.wt k)) at a2
      cases g2 : within (p.day k) 0 1048576
      · have hF := Lib.hid (check_entry hlt (by simp [entryB, g2]))
        generalize p.day k = D at *
        generalize p.wt k = W at *
        go_wp2
        go_quiet ((go_at_call 74; exact Calls.quiet_of_same ((within_any _ _ _ _).mono fun _ _ h => ⟨h.1, h.2.symm⟩)))
        go_wp2
        go_ret
        exact ⟨ret_int hF.out.symm, pw_below_drewN (hwr.trans ((Below.refl _ _).alloc (by omega) _)) _⟩
      · cases hw : within (p.wt k) 0 65536
        · have hF := Lib.hid (check_entry hlt (by simp [entryB, hw]))
          skip
          generalize p.day k = D at *
          generalize p.wt k = W at *
          go_wp2
          go_quiet ((go_at_call 74; exact Calls.quiet_of_same ((within_any _ _ _ _).mono fun _ _ h => ⟨h.1, h.2.symm⟩)))
          go_wp2
          go_ret
          exact ⟨ret_int hF.out.symm, pw_below_drewN (hwr.trans ((Below.refl _ _).alloc (by omega) _)) _⟩
        · by_cases hk0 : k = 0
          · have hG : Hid (entryB p k = true) := by show entryB p k = true; unfold entryB; rw [g2, hw]; simp [hk0]
            have e0 : decide (0 < k) = false := by simp; omega
            clear hk0
            generalize p.day k = D at *
            generalize p.wt k = W at *
            go_wp2
            go_quiet ((go_at_call 74; exact Calls.quiet_of_same ((within_any _ _ _ _).mono fun _ _ h => ⟨h.1, h.2.symm⟩)))
            go_wp2
            go_roundw
            case rel => exact ⟨k + 1, by omega, by go_num, pw_below_drewN (hb.alloc (by omega) _) _, fun i hi => by
              rcases Nat.lt_or_ge i k with h | h
              · exact hall.out i h
              · obtain rfl : i = k := by omega
                exact hG.out⟩
            case measure => simp [intOf]; omega
          · obtain ⟨ad', e', p1, p2⟩ := at_span (Kd.C_below HA.out hwr) (k - 1) (by omega)
            obtain rfl := Option.some.inj e'
            change _ = some (Value.int .i64 (p.day (k - 1))) at p1
            have e0 : decide (0 < k) = true := by simp; omega
            have e1 : IntKind.i64.wrap ((k : Int) - 1) = (k : Int) - 1 := IntWalk.i64_in _ (by omega)
            have e2 : ((k : Int) - 1).toNat = k - 1 := by omega
            have e3 : 0 ≤ (k : Int) - 1 := by omega
            have e4 : (k : Int) - 1 < (p.log.length : Int) := by omega
            clear e' p2
            by_cases hd : p.day (k - 1) < p.day k
            · have hG : Hid (entryB p k = true) := by show entryB p k = true; simp [entryB, hw, g2, hd]
              have e5 : decide (p.day k ≤ p.day (k - 1)) = false := by simp; omega
              clear hd
              generalize p.day k = D at *
              generalize p.day (k - 1) = D' at *
              generalize p.wt k = W at *
              go_wp2
              go_quiet ((go_at_call 74; exact Calls.quiet_of_same ((within_any _ _ _ _).mono fun _ _ h => ⟨h.1, h.2.symm⟩)))
              go_wp2
              go_roundw
              case rel => exact ⟨k + 1, by omega, by go_num, pw_below_drewN (hb.alloc (by omega) _) _, fun i hi => by
                rcases Nat.lt_or_ge i k with h | h
                · exact hall.out i h
                · obtain rfl : i = k := by omega
                  exact hG.out⟩
              case measure => simp [intOf]; omega
            · have hF := Lib.hid (check_entry hlt (by simp [entryB, hd, hk0]))
              have e5 : decide (p.day k ≤ p.day (k - 1)) = true := by simp; omega
              clear hd
              generalize p.day k = D at *
              generalize p.day (k - 1) = D' at *
              generalize p.wt k = W at *
              go_wp2
              go_quiet ((go_at_call 74; exact Calls.quiet_of_same ((within_any _ _ _ _).mono fun _ _ h => ⟨h.1, h.2.symm⟩)))
              go_wp2
              go_ret
              exact ⟨ret_int hF.out.symm, pw_below_drewN (hwr.trans ((Below.refl _ _).alloc (by omega) _)) _⟩
    · obtain rfl : k = p.log.length := by omega
      obtain ⟨hc, hf⟩ := bcell1 hb
      go_wp2
      go_ret
      exact ⟨ret_int (check_all HH.out hall.out).symm, ((Below.refl _ _).alloc (Nat.le_refl _) _).trans (hb.mono (by omega))⟩
theorem rcheck_any (p : Pil) (A : Option Addr) (c : Nat) (w : World) (hA : Kd.C kSpan w A p.log.length p.log) :
    Calls Tryd.prog 46 #[p.val A c] w fun e w' => e = .returned (.int .i64 (checkF p)) ∧ Below w.heap.size w w' := by
  cases h : headB p
  · exact rcheck_bad p A c w h
  · exact rcheck_good p A c w hA h
end Go.Proofs.YtiidkekmklbobaaDoor
set_option linter.unusedVariables false
set_option linter.unusedSimpArgs false
namespace Go.Proofs.YtiidkekmklbobaaDoor
open Go.RowKit Go.Proofs.YtiidkekmklbobaaDoorW.PrintWords
attribute [local go_sem] mx_two mn_two blk_add
def shiftF (p : Pil) (i : Nat) : Bool := (p.wt (i + 1) - p.wt i == 0) || decide (p.jump < max (p.wt (i + 1) - p.wt i) (-(p.wt (i + 1) - p.wt i)))
set_option maxHeartbeats 800000 in
theorem shift_any (p : Pil) (A : Option Addr) (c i : Nat) (w : World) (hp : Ok p) (hA : Kd.C kSpan w A p.log.length p.log) (hi : i + 1 < p.log.length) :
    Calls Tryd.prog 73 #[p.val A c, .int .i64 i] w fun e w' => e = .returned (.bool (shiftF p i)) ∧ Below w.heap.size w w' := by
  obtain ⟨ad, rfl, h1, h2⟩ := at_span hA i (by omega)
  obtain ⟨ad', e', h1', h2'⟩ := at_span hA (i + 1) (by omega)
  obtain rfl := Option.some.inj e'
  obtain ⟨l0, l1, l2⟩ := at_lt h1
  have b := hp.w i
  have b' := hp.w (i + 1)
  obtain ⟨n0, n1, s0, s1, j0, j1, -, -, hl, -⟩ := hp
  change 0 ≤ p.wt i ∧ p.wt i ≤ 65536 at b
  change 0 ≤ p.wt (i + 1) ∧ p.wt (i + 1) ≤ 65536 at b'
  change _ = some (Value.int .i64 (p.wt i)) at h2
  change _ = some (Value.int .i64 (p.wt (i + 1))) at h2'
  clear h1 hA h1' e'
  unfold shiftF
  generalize p.wt i = W at *
  generalize p.wt (i + 1) = W' at *
  obtain ⟨b0, b1⟩ := b
  obtain ⟨b0', b1'⟩ := b'
  have ei : IntKind.i64.wrap ((i : Int) + 1) = (i : Int) + 1 := IntWalk.i64_in _ (by omega)
  have ej : ((i : Int) + 1).toNat = i + 1 := by omega
  have ek : IntKind.i64.wrap (W' - W) = W' - W := IntWalk.i64_in _ (by omega)
  by_cases h0 : W' - W = 0
  · have e0 : (W' - W == 0) = true := by simpa using h0
    go_enter Tryd.func73, Tryd.ntmps73
    go_wp2
    go_quiet (fail)
    go_wp2
    go_ret
    exact ⟨by simp [e0], pw_below_drewN ((Below.refl _ _).alloc (Nat.le_refl _) _) _⟩
  · have e0 : (W' - W == 0) = false := by simpa using h0
    have en : IntKind.i64.wrap (-(W' - W)) = -(W' - W) := IntWalk.i64_in _ (by omega)
    go_enter Tryd.func73, Tryd.ntmps73
    go_wp2
    go_quiet (fail)
    go_wp2
    go_ret
    exact ⟨by simp [e0], pw_below_drewN ((Below.refl _ _).alloc (Nat.le_refl _) _) _⟩

end Go.Proofs.YtiidkekmklbobaaDoor
set_option linter.unusedVariables false
set_option linter.unusedSimpArgs false
namespace Go.Proofs.YtiidkekmklbobaaDoor
open Go.RowKit Go.Proofs.YtiidkekmklbobaaDoorW.PrintWords
attribute [local go_sem] mx_two mn_two blk_add
set_option maxHeartbeats 800000 in
theorem rshift_any (p : Pil) (A : Option Addr) (c i : Nat) (w : World) (hp : Ok p) (hA : Kd.C kSpan w A p.log.length p.log) (hi : i + 1 < p.log.length) :
    Calls Tryd.prog 75 #[p.val A c, .int .i64 i] w fun e w' => e = .returned (.bool (shiftF p i)) ∧ Below w.heap.size w w' := by
  obtain ⟨ad, rfl, h1, h2⟩ := at_span hA i (by omega)
  obtain ⟨ad', e', h1', h2'⟩ := at_span hA (i + 1) (by omega)
  obtain rfl := Option.some.inj e'
  obtain ⟨l0, l1, l2⟩ := at_lt h1
  have b := hp.w i
  have b' := hp.w (i + 1)
  obtain ⟨n0, n1, s0, s1, j0, j1, -, -, hl, -⟩ := hp
  change 0 ≤ p.wt i ∧ p.wt i ≤ 65536 at b
  change 0 ≤ p.wt (i + 1) ∧ p.wt (i + 1) ≤ 65536 at b'
  change _ = some (Value.int .i64 (p.wt i)) at h2
  change _ = some (Value.int .i64 (p.wt (i + 1))) at h2'
  clear h1 hA h1' e'
  unfold shiftF
  generalize p.wt i = W at *
  generalize p.wt (i + 1) = W' at *
  obtain ⟨b0, b1⟩ := b
  obtain ⟨b0', b1'⟩ := b'
  have ei : IntKind.i64.wrap ((i : Int) + 1) = (i : Int) + 1 := IntWalk.i64_in _ (by omega)
  have ej : ((i : Int) + 1).toNat = i + 1 := by omega
  have ek : IntKind.i64.wrap (W' - W) = W' - W := IntWalk.i64_in _ (by omega)
  have en : IntKind.i64.wrap (-(W' - W)) = -(W' - W) := IntWalk.i64_in _ (by omega)
  by_cases h0 : W' - W = 0
  · have e0 : (W' - W == 0) = true := by simpa using h0
    go_enter Tryd.func75, Tryd.ntmps75
    go_wp2
    go_quiet (fail)
    go_wp2
    go_ret
    exact ⟨by simp [e0], pw_below_drewN ((Below.refl _ _).alloc (Nat.le_refl _) _) _⟩
  · have e0 : (W' - W == 0) = false := by simpa using h0
    by_cases h2 : p.jump < W' - W
    · have e1 : decide (p.jump < W' - W) = true := by simpa using h2
      go_enter Tryd.func75, Tryd.ntmps75
      go_wp2
      go_quiet (fail)
      go_wp2
      go_ret
      exact ⟨ret_bool (by simp [e0]; omega), pw_below_drewN ((Below.refl _ _).alloc (Nat.le_refl _) _) _⟩
    · have e1 : decide (p.jump < W' - W) = false := by simpa using h2
      have e2 : decide (p.jump < max (W' - W) (-(W' - W))) = decide (p.jump < -(W' - W)) := by
        rw [decide_eq_decide]; omega
      go_enter Tryd.func75, Tryd.ntmps75
      go_wp2
      go_quiet (fail)
      go_wp2
      go_ret
      exact ⟨ret_bool (by rw [e0, e2]; rfl), pw_below_drewN ((Below.refl _ _).alloc (Nat.le_refl _) _) _⟩

set_option maxHeartbeats 800000 in
theorem allowed_any (p : Pil) (A : Option Addr) (c i : Nat) (st : Int) (w : World) (hp : Ok p) (hA : Kd.C kSpan w A p.log.length p.log) (hi : i < p.log.length) (hs0 : 0 ≤ st) (hs1 : st ≤ 2) :
    Calls Tryd.prog 79 #[p.val A c, .int .i64 st, .int .i64 i] w fun e w' => e = .returned (spv (loadsF p i st).1 (loadsF p i st).2) ∧ Below w.heap.size w w' := by
  obtain ⟨ad, rfl, h1, h2⟩ := at_span hA i hi
  obtain ⟨l0, l1, l2⟩ := at_lt h1
  have b := hp.w i
  obtain ⟨n0, n1, s0, s1, -, -, -, -, hl, -⟩ := hp
  change 0 ≤ p.wt i ∧ p.wt i ≤ 65536 at b
  change _ = some (Value.int .i64 (p.wt i)) at h2
  clear h1 hA
  unfold loadsF
  generalize p.wt i = W at *
  obtain ⟨b0, b1⟩ := b
  have m1 : ∀ x : Int, max 0 x = max x 0 := fun x => by omega
  have m2 : ∀ x : Int, min 65536 x = min x 65536 := fun x => by omega
  have M1 := Lib.hid m1
  have M2 := Lib.hid m2
  clear m1 m2
  obtain rfl | rfl | rfl : st = 0 ∨ st = 1 ∨ st = 2 := by omega
  · rw [if_pos rfl]
    go_enter Tryd.func79, Tryd.ntmps79
    go_wp2
    refine bodyPost_ret (v := spv (max (W - p.noise) 0) (min (W + p.noise) 65536)) (by simp [results, Tryd.results79, go_sem, M1.out, M2.out]) rfl ⟨rfl, ?_⟩
    exact (((Below.refl _ _).alloc (Nat.le_refl _) _).alloc (by simp) _)
  · rw [if_neg (by decide), if_pos rfl]
    go_enter Tryd.func79, Tryd.ntmps79
    go_wp2
    refine bodyPost_ret (v := spv (max (W - p.noise) 0) (min (W + p.noise + p.slab) 65536)) (by simp [results, Tryd.results79, go_sem, M1.out, M2.out]) rfl ⟨rfl, ?_⟩
    exact (((Below.refl _ _).alloc (Nat.le_refl _) _).alloc (by simp) _)
  · rw [if_neg (by decide), if_neg (by decide)]
    go_enter Tryd.func79, Tryd.ntmps79
    go_wp2
    refine bodyPost_ret (v := spv 0 65536) (by simp [results, Tryd.results79, go_sem]) rfl ⟨rfl, ?_⟩
    exact (((Below.refl _ _).alloc (Nat.le_refl _) _).alloc (by simp) _)
end Go.Proofs.YtiidkekmklbobaaDoor
set_option linter.unusedVariables false
set_option linter.unusedSimpArgs false
namespace Go.Proofs.YtiidkekmklbobaaDoor
open Go.RowKit Go.Proofs.YtiidkekmklbobaaDoorW.PrintWords
attribute [local go_sem] mx_two mn_two blk_add

theorem at_i {w : World} {A : Option Addr} {n : Nat} {xs : List Int} (h : Kd.C (Kd.int .i64) w A n xs) (i : Nat) (h1 : i < n) :
    ∃ ad, A = some ad ∧ w.cell? (ad.add i) = some (.int .i64 (xs.getD i 0)) := by
  obtain ⟨ad, c, e, _, hK, hc0⟩ := Kd.C_get h 0 (i : Int) (by omega) (by omega)
  obtain rfl : c = [.int .i64 (xs.getD (i : Int).toNat 0)] := hK
  have hq := hc0 0 _ rfl
  have e2 : (Kd.int .i64).sz = 1 := rfl
  rw [e2, Nat.mul_one, Nat.add_zero] at hq
  exact ⟨ad, e, hq⟩
def at0 (l : List Int) (i : Nat) : Int := l.getD i 0
def stepB (p : Pil) (l : List Int) (i : Nat) : Bool := within (at0 l i) 0 2 && ((i != 0 || at0 l i != 2) && (i == 0 || (at0 l (i - 1) == at0 l i || shiftF p (i - 1))))
def cnt (l : List Int) (k : Nat) : Nat := ((l.take k).filter fun x => x == 2).length
theorem cnt_succ (l : List Int) (k : Nat) (h : k < l.length) : cnt l (k + 1) = cnt l k + if at0 l k = 2 then 1 else 0 := by
  unfold cnt at0
  rw [List.take_succ_eq_append_getElem h, List.filter_append, List.length_append]
  by_cases e : l[k] = 2 <;> simp [e, h]
theorem cnt_le (l : List Int) (k : Nat) : cnt l k ≤ k := by
  unfold cnt
  exact Nat.le_trans (List.length_filter_le _ _) (List.length_take_le _ _)
def caseB (p : Pil) (l : List Int) : Bool := (l.length == p.log.length) && ((List.range l.length).all (stepB p l) && decide ((cnt l l.length : Int) ≤ p.faults))
theorem case_len {p : Pil} {l : List Int} (h : l.length ≠ p.log.length) : caseB p l = false := by simp [caseB, h]
theorem case_step {p : Pil} {l : List Int} {i : Nat} (hi : i < l.length) (h : stepB p l i = false) : caseB p l = false := by
  unfold caseB
  have : (List.range l.length).all (stepB p l) = false := by
    rw [List.all_eq_false]
    exact ⟨i, by simpa using hi, by simp [h]⟩
  simp [this]
theorem case_all {p : Pil} {l : List Int} (h : l.length = p.log.length) (ha : ∀ i, i < l.length → stepB p l i = true) : caseB p l = decide ((cnt l l.length : Int) ≤ p.faults) := by
  have : (List.range l.length).all (stepB p l) = true := by
    simp only [List.all_eq_true, List.mem_range]
    exact ha
  have e : (l.length == p.log.length) = true := by simpa using h
  unfold caseB
  rw [this, e]
  simp
theorem ok_of_check {p : Pil} (h : checkB p = true) : Ok p := by
  simp only [checkB, headB, Bool.and_eq_true, decide_eq_true_eq, List.all_eq_true, List.mem_range] at h
  obtain ⟨⟨h0, h1, h2, h3, h4, h5, h6⟩, ha⟩ := h
  rw [within_t] at h2 h3 h4 h5
  refine ⟨h2.1, h2.2, h3.1, h3.2, h4.1, h4.2, h5.1, h5.2, h6, fun i => ?_⟩
  rcases Nat.lt_or_ge i p.log.length with hi | hi
  · have := ha i hi
    simp only [entryB, Bool.and_eq_true] at this
    exact within_t.1 this.2.1
  · rw [List.getD_eq_getElem?_getD, List.getElem?_eq_none hi]
    exact ⟨by decide, by decide⟩
theorem shift_at (p : Pil) (A : Option Addr) (c i : Nat) (j : Int) (hj : j = i) (w : World) (hp : Ok p) (hA : Kd.C kSpan w A p.log.length p.log) (hi : i + 1 < p.log.length) :
    Calls Tryd.prog 73 #[p.val A c, .int .i64 j] w fun e w' => e = .returned (.bool (shiftF p i)) ∧ Below w.heap.size w w' := by
  subst hj; exact shift_any p A c i w hp hA hi
theorem rshift_at (p : Pil) (A : Option Addr) (c i : Nat) (j : Int) (hj : j = i) (w : World) (hp : Ok p) (hA : Kd.C kSpan w A p.log.length p.log) (hi : i + 1 < p.log.length) :
    Calls Tryd.prog 75 #[p.val A c, .int .i64 j] w fun e w' => e = .returned (.bool (shiftF p i)) ∧ Below w.heap.size w w' := by
  subst hj; exact rshift_any p A c i w hp hA hi
abbrev boxP (p : Pil) (A : Option Addr) (c : Nat) (t : TypeId) : Obj := .cells #[.int .i64 p.no, .int .i64 p.cell, .int .i64 p.noise, .int .i64 p.slab, .int .i64 p.jump, .int .i64 p.faults, .slice A p.log.length c] t

set_option maxHeartbeats 3200000 in
theorem isCase_any (p : Pil) (A : Option Addr) (c : Nat) (A1 : Option Addr) (c1 : Nat) (l : List Int) (w : World) (hp : Ok p) (hA : Kd.C kSpan w A p.log.length p.log) (hl : Kd.C (Kd.int .i64) w A1 l.length l) :
    Calls Tryd.prog 70 #[p.val A c, .slice A1 l.length c1] w fun e w' => e = .returned (.bool (caseB p l)) ∧ Below w.heap.size w w' := by
  have HA := Lib.hid hA
  have HL := Lib.hid hl
  have HP := Lib.hid hp
  have hL := hp.l
  clear hA hl
  by_cases hn : l.length = p.log.length
  case neg =>
    have hF := Lib.hid (case_len hn)
    have hne : (l.length == p.log.length) = false := by simpa using hn
    have hne2 : ((l.length : Int) != (p.log.length : Int)) = true := by simp; omega
    clear hn hp
    go_enter Tryd.func70, Tryd.ntmps70
    go_wp2
    go_ret
    exact ⟨ret_bool hF.out.symm, (Below.refl _ _).alloc (Nat.le_refl _) _⟩
  case pos =>
  have hle : l.length ≤ 32 := by omega
  have HN := Lib.hid hn
  have hne : (l.length == p.log.length) = true := by simpa using hn
  have hne2 : ((l.length : Int) != (p.log.length : Int)) = false := by simp; omega
  clear hn hp
  go_enter Tryd.func70, Tryd.ntmps70
  go_wp2
  clear hne hne2
  go_loopw [5, 17] (fun vc vi wr => ∃ k : Nat, k ≤ l.length ∧ vi = .int .i64 k ∧ vc = .int .i64 (cnt l k) ∧ Below (w.heap.size + 1) (w.alloc (boxP p A c 85)) wr ∧ Hid (∀ i, i < k → stepB p l i = true))
    (fun _ vi _ => l.length - (intOf vi).toNat)
  case atStart => exact ⟨0, Nat.zero_le _, rfl, rfl, Below.refl _ _, fun i h => absurd h (by omega)⟩
  case round =>
    obtain ⟨k, hk, rfl, rfl, hb, hall⟩ := hrel
    have hwr : Below w.heap.size w wr := ((Below.refl _ _).alloc (Nat.le_refl _) _).trans (hb.mono (by omega))
    have hz : w.heap.size + 1 ≤ wr.heap.size := by have := hb.size; simpa using this
    have hz0 : w.heap.size < wr.heap.size := hz
    obtain ⟨hc, hf⟩ := bcell1 hb
    have hcl := cnt_le l k
    by_cases hlt : k < l.length
    · obtain ⟨ad, rfl, a1⟩ := at_i (Kd.C_below HL.out hwr) k hlt
      have l0 := World.block_lt_of_cell? wr _ a1
      rw [blk_add] at l0
      change _ = some (Value.int .i64 (at0 l k)) at a1
      have hcs := Lib.hid (cnt_succ l k hlt)
      by_cases s0 : at0 l k < 0
      · have hF := Lib.hid (case_step hlt (p := p) (by simp [stepB, within]; omega))
        have g0 : decide (at0 l k < 0) = true := by simpa using s0
        have gw : within (at0 l k) 0 2 = false := by simp [within]; omega
        generalize at0 l k = S at *
        go_wp2_with (go_at_call 73; refine (shift_at p _ c (k - 1) _ HK.out _ HP.out (Kd.C_below HA.out hwr) hkp).mono ?_; rintro e w1 ⟨rfl, hb1⟩)
        go_ret
        exact ⟨ret_bool hF.out.symm, hwr⟩
      by_cases s1 : 2 < at0 l k
      · have hF := Lib.hid (case_step hlt (p := p) (by simp [stepB, within]; omega))
        have g0 : decide (at0 l k < 0) = false := by simpa using s0
        have g1 : decide (2 < at0 l k) = true := by simpa using s1
        have gw : within (at0 l k) 0 2 = false := by simp [within]; omega
        generalize at0 l k = S at *
        go_wp2_with (go_at_call 73; refine (shift_at p _ c (k - 1) _ HK.out _ HP.out (Kd.C_below HA.out hwr) hkp).mono ?_; rintro e w1 ⟨rfl, hb1⟩)
        go_ret
        exact ⟨ret_bool hF.out.symm, hwr⟩
      have g0 : decide (at0 l k < 0) = false := by simpa using s0
      have g1 : decide (2 < at0 l k) = false := by simpa using s1
      have gw : within (at0 l k) 0 2 = true := within_t.2 (by omega)
      by_cases hk0 : k = 0
      · have e0 : decide (0 < k) = false := by simp; omega
        have e1 : ((k : Int) == 0) = true := by simpa using hk0
        by_cases s2 : at0 l k = 2
        · have hF := Lib.hid (case_step hlt (p := p) (by unfold stepB; rw [gw, hk0]; rw [hk0] at s2; simp [s2]))
          have g2 : (at0 l k == 2) = true := by simpa using s2
          have a0 : wr.cell? ad = some (Value.int .i64 (at0 l k)) := by have q := a1; rw [hk0] at q ⊢; exact q
          clear s2 hk0 s0 s1
          generalize at0 l k = S at *
          go_wp2_with (go_at_call 73; refine (shift_at p _ c (k - 1) _ HK.out _ HP.out (Kd.C_below HA.out hwr) hkp).mono ?_; rintro e w1 ⟨rfl, hb1⟩)
          go_ret
          exact ⟨ret_bool hF.out.symm, hwr⟩
        · have hG : Hid (stepB p l k = true) := by show stepB p l k = true; unfold stepB; rw [gw, hk0]; rw [hk0] at s2; simp [s2]
          have g2 : (at0 l k == 2) = false := by simpa using s2
          have g3 : cnt l (k + 1) = cnt l k := by rw [hcs.out, if_neg s2]; rfl
          have G3 := Lib.hid g3
          have a0 : wr.cell? ad = some (Value.int .i64 (at0 l k)) := by have q := a1; rw [hk0] at q ⊢; exact q
          clear s2 hk0 s0 s1 g3
          generalize at0 l k = S at *
          go_wp2_with (go_at_call 73; refine (shift_at p _ c (k - 1) _ HK.out _ HP.out (Kd.C_below HA.out hwr) hkp).mono ?_; rintro e w1 ⟨rfl, hb1⟩)
          go_roundw
          case rel => exact ⟨k + 1, by omega, by go_num, by rw [G3.out], hb, fun i hi => by
            rcases Nat.lt_or_ge i k with h | h
            · exact hall.out i h
            · obtain rfl : i = k := by omega
              exact hG.out⟩
          case measure => simp [intOf]; omega
      · have e0 : decide (0 < k) = true := by simp; omega
        have e1 : ((k : Int) == 0) = false := by simpa using hk0
        obtain ⟨ad', e', p1⟩ := at_i (Kd.C_below HL.out hwr) (k - 1) (by omega)
        obtain rfl := Option.some.inj e'
        change _ = some (Value.int .i64 (at0 l (k - 1))) at p1
        have i1 : IntKind.i64.wrap ((k : Int) - 1) = (k : Int) - 1 := IntWalk.i64_in _ (by omega)
        have i2 : ((k : Int) - 1).toNat = k - 1 := by omega
        have i3 : 0 ≤ (k : Int) - 1 := by omega
        have i4 : (k : Int) - 1 < (l.length : Int) := by omega
        have hkk : (k : Int) - 1 = ((k - 1 : Nat) : Int) := by omega
        have HK := Lib.hid hkk
        have hkp : k - 1 + 1 < p.log.length := by have := HN.out; omega
        clear e' hkk
        by_cases se : at0 l (k - 1) = at0 l k
        · have g4 : (at0 l (k - 1) == at0 l k) = true := by simpa using se
          have g5 : (at0 l (k - 1) != at0 l k) = false := by simpa using se
          have g6 : (at0 l k != at0 l (k - 1)) = false := by simpa using se.symm
          have hG : Hid (stepB p l k = true) := by show stepB p l k = true; unfold stepB; rw [gw, g4]; simp [hk0]
          by_cases s2 : at0 l k = 2
          · have g2 : (at0 l k == 2) = true := by simpa using s2
            have g3 : cnt l (k + 1) = cnt l k + 1 := by rw [hcs.out, if_pos s2]
            have G3 := Lib.hid g3
            clear s2 hk0 s0 s1 se g3
            generalize at0 l k = S at *
            generalize at0 l (k - 1) = S' at *
            go_wp2_with (go_at_call 73; refine (shift_at p _ c (k - 1) _ HK.out _ HP.out (Kd.C_below HA.out hwr) hkp).mono ?_; rintro e w1 ⟨rfl, hb1⟩)
            go_roundw
            case rel => exact ⟨k + 1, by omega, by go_num, by rw [G3.out]; go_num, hb, fun i hi => by
              rcases Nat.lt_or_ge i k with h | h
              · exact hall.out i h
              · obtain rfl : i = k := by omega
                exact hG.out⟩
            case measure => simp [intOf]; omega
          · have g2 : (at0 l k == 2) = false := by simpa using s2
            have g3 : cnt l (k + 1) = cnt l k := by rw [hcs.out, if_neg s2]; rfl
            have G3 := Lib.hid g3
            clear s2 hk0 s0 s1 se g3
            generalize at0 l k = S at *
            generalize at0 l (k - 1) = S' at *
            go_wp2_with (go_at_call 73; refine (shift_at p _ c (k - 1) _ HK.out _ HP.out (Kd.C_below HA.out hwr) hkp).mono ?_; rintro e w1 ⟨rfl, hb1⟩)
            go_roundw
            case rel => exact ⟨k + 1, by omega, by go_num, by rw [G3.out], hb, fun i hi => by
              rcases Nat.lt_or_ge i k with h | h
              · exact hall.out i h
              · obtain rfl : i = k := by omega
                exact hG.out⟩
            case measure => simp [intOf]; omega
        · have g4 : (at0 l (k - 1) == at0 l k) = false := by simpa using se
          have g5 : (at0 l (k - 1) != at0 l k) = true := by simpa using se
          have g6 : (at0 l k != at0 l (k - 1)) = true := by simpa using Ne.symm se
          cases hsh : shiftF p (k - 1)
          · have hF := Lib.hid (case_step hlt (p := p) (by unfold stepB; rw [gw, g4, hsh]; simp [hk0]))
            clear hk0 s0 s1 se
            generalize at0 l k = S at *
            generalize at0 l (k - 1) = S' at *
            go_wp2_with (go_at_call 73; refine (shift_at p _ c (k - 1) _ HK.out _ HP.out (Kd.C_below HA.out hwr) hkp).mono ?_; rintro e w1 ⟨rfl, hb1⟩)
            go_ret
            exact ⟨ret_bool hF.out.symm, hwr.trans (hb1.mono (by omega))⟩
          · have hG : Hid (stepB p l k = true) := by show stepB p l k = true; unfold stepB; rw [gw, hsh]; simp [hk0]
            by_cases s2 : at0 l k = 2
            · have g2 : (at0 l k == 2) = true := by simpa using s2
              have g3 : cnt l (k + 1) = cnt l k + 1 := by rw [hcs.out, if_pos s2]
              have G3 := Lib.hid g3
              clear s2 hk0 s0 s1 se g3
              generalize at0 l k = S at *
              generalize at0 l (k - 1) = S' at *
              go_wp2_with (go_at_call 73; refine (shift_at p _ c (k - 1) _ HK.out _ HP.out (Kd.C_below HA.out hwr) hkp).mono ?_; rintro e w1 ⟨rfl, hb1⟩)
              go_roundw
              case rel => exact ⟨k + 1, by omega, by go_num, by rw [G3.out]; go_num, hb.trans (hb1.mono (by omega)), fun i hi => by
                rcases Nat.lt_or_ge i k with h | h
                · exact hall.out i h
                · obtain rfl : i = k := by omega
                  exact hG.out⟩
              case measure => simp [intOf]; omega
            · have g2 : (at0 l k == 2) = false := by simpa using s2
              have g3 : cnt l (k + 1) = cnt l k := by rw [hcs.out, if_neg s2]; rfl
              have G3 := Lib.hid g3
              clear s2 hk0 s0 s1 se g3
              generalize at0 l k = S at *
              generalize at0 l (k - 1) = S' at *
              go_wp2_with (go_at_call 73; refine (shift_at p _ c (k - 1) _ HK.out _ HP.out (Kd.C_below HA.out hwr) hkp).mono ?_; rintro e w1 ⟨rfl, hb1⟩)
              go_roundw
              case rel => exact ⟨k + 1, by omega, by go_num, by rw [G3.out], hb.trans (hb1.mono (by omega)), fun i hi => by
                rcases Nat.lt_or_ge i k with h | h
                · exact hall.out i h
                · obtain rfl : i = k := by omega
                  exact hG.out⟩
              case measure => simp [intOf]; omega
    · obtain rfl : k = l.length := by omega
      have hF := Lib.hid (case_all HN.out hall.out)
      go_wp2
      go_ret
      exact ⟨ret_bool hF.out.symm, hwr⟩
end Go.Proofs.YtiidkekmklbobaaDoor
set_option linter.unusedVariables false
set_option linter.unusedSimpArgs false
namespace Go.Proofs.YtiidkekmklbobaaDoor
open Go.RowKit Go.Proofs.YtiidkekmklbobaaDoorW.PrintWords
attribute [local go_sem] mx_two mn_two blk_add

set_option maxRecDepth 100000 in
set_option maxHeartbeats 3200000 in
theorem right_any (p : Pil) (A : Option Addr) (c : Nat) (A1 : Option Addr) (c1 : Nat) (l : List Int) (w : World) (hp : Ok p) (hA : Kd.C kSpan w A p.log.length p.log) (hl : Kd.C (Kd.int .i64) w A1 l.length l) :
    Calls Tryd.prog 78 #[p.val A c, .slice A1 l.length c1] w fun e w' => e = .returned (.bool (caseB p l)) ∧ Below w.heap.size w w' := by
  have HA := Lib.hid hA
  have HL := Lib.hid hl
  have HP := Lib.hid hp
  have hL := hp.l
  clear hA hl
  by_cases hn : l.length = p.log.length
  case neg =>
    have hF := Lib.hid (case_len hn)
    have hne : (l.length == p.log.length) = false := by simpa using hn
    have hne2 : ((l.length : Int) != (p.log.length : Int)) = true := by simp; omega
    clear hn hp
    go_enter Tryd.func78, Tryd.ntmps78
    go_wp2
    go_ret
    exact ⟨ret_bool hF.out.symm, (Below.refl _ _).alloc (Nat.le_refl _) _⟩
  case pos =>
  have hle : l.length ≤ 32 := by omega
  have HN := Lib.hid hn
  have hne : (l.length == p.log.length) = true := by simpa using hn
  have hne2 : ((l.length : Int) != (p.log.length : Int)) = false := by simp; omega
  clear hn hp
  go_enter Tryd.func78, Tryd.ntmps78
  go_wp2
  clear hne hne2
  go_loopw [5, 6] (fun vc vi wr => ∃ k : Nat, k ≤ l.length ∧ vi = .int .i64 k ∧ vc = .int .i64 (cnt l k) ∧ Below (w.heap.size + 1) (w.alloc (boxP p A c 24)) wr ∧ Hid (∀ i, i < k → stepB p l i = true))
    (fun _ vi _ => l.length - (intOf vi).toNat)
  case atStart => exact ⟨0, Nat.zero_le _, rfl, rfl, Below.refl _ _, fun i h => absurd h (by omega)⟩
  case round =>
    obtain ⟨k, hk, rfl, rfl, hb, hall⟩ := hrel
    have hwr : Below w.heap.size w wr := ((Below.refl _ _).alloc (Nat.le_refl _) _).trans (hb.mono (by omega))
    have hz : w.heap.size + 1 ≤ wr.heap.size := by have := hb.size; simpa using this
    have hz0 : w.heap.size < wr.heap.size := hz
    obtain ⟨hc, hf⟩ := bcell1 hb
    have hcl := cnt_le l k
    by_cases hlt : k < l.length
    · obtain ⟨ad, rfl, a1⟩ := at_i (Kd.C_below HL.out hwr) k hlt
      have l0 := World.block_lt_of_cell? wr _ a1
      rw [blk_add] at l0
      change _ = some (Value.int .i64 (at0 l k)) at a1
      have hcs := Lib.hid (cnt_succ l k hlt)
      by_cases s0 : at0 l k < 0
      · have hF := Lib.hid (case_step hlt (p := p) (by simp [stepB, within]; omega))
        have g0 : decide (at0 l k < 0) = true := by simpa using s0
        have gw : within (at0 l k) 0 2 = false := by simp [within]; omega
        generalize at0 l k = S at *
        go_wp2_with (go_at_call 74; refine (within_any _ _ _ _).mono ?_; rintro e w1 ⟨rfl, rfl⟩)
        go_ret
        exact ⟨ret_bool hF.out.symm, hwr⟩
      by_cases s1 : 2 < at0 l k
      · have hF := Lib.hid (case_step hlt (p := p) (by simp [stepB, within]; omega))
        have g0 : decide (at0 l k < 0) = false := by simpa using s0
        have g1 : decide (2 < at0 l k) = true := by simpa using s1
        have gw : within (at0 l k) 0 2 = false := by simp [within]; omega
        generalize at0 l k = S at *
        go_wp2_with (go_at_call 74; refine (within_any _ _ _ _).mono ?_; rintro e w1 ⟨rfl, rfl⟩)
        go_ret
        exact ⟨ret_bool hF.out.symm, hwr⟩
      have g0 : decide (at0 l k < 0) = false := by simpa using s0
      have g1 : decide (2 < at0 l k) = false := by simpa using s1
      have gw : within (at0 l k) 0 2 = true := within_t.2 (by omega)
      by_cases hk0 : k = 0
      · have e0 : decide (0 < k) = false := by simp; omega
        have e1 : ((k : Int) == 0) = true := by simpa using hk0
        by_cases s2 : at0 l k = 2
        · have hF := Lib.hid (case_step hlt (p := p) (by unfold stepB; rw [gw, hk0]; rw [hk0] at s2; simp [s2]))
          have g2 : (at0 l k == 2) = true := by simpa using s2
          have a0 : wr.cell? ad = some (Value.int .i64 (at0 l k)) := by have q := a1; rw [hk0] at q ⊢; exact q
          clear s2 hk0 s0 s1
          generalize at0 l k = S at *
          go_wp2_with (go_at_call 74; refine (within_any _ _ _ _).mono ?_; rintro e w1 ⟨rfl, rfl⟩)
          go_ret
          exact ⟨ret_bool hF.out.symm, hwr⟩
        · have hG : Hid (stepB p l k = true) := by show stepB p l k = true; unfold stepB; rw [gw, hk0]; rw [hk0] at s2; simp [s2]
          have g2 : (at0 l k == 2) = false := by simpa using s2
          have g3 : cnt l (k + 1) = cnt l k := by rw [hcs.out, if_neg s2]; rfl
          have G3 := Lib.hid g3
          have a0 : wr.cell? ad = some (Value.int .i64 (at0 l k)) := by have q := a1; rw [hk0] at q ⊢; exact q
          clear s2 hk0 s0 s1 g3
          generalize at0 l k = S at *
          go_wp2_with (go_at_call 74; refine (within_any _ _ _ _).mono ?_; rintro e w1 ⟨rfl, rfl⟩)
          go_quiet (fail)
          go_wp2
          go_roundw
          case rel => exact ⟨k + 1, by omega, by go_num, by rw [G3.out], pw_below_drewN hb _, fun i hi => by
            rcases Nat.lt_or_ge i k with h | h
            · exact hall.out i h
            · obtain rfl : i = k := by omega
              exact hG.out⟩
          case measure => simp [intOf]; omega
      · have e0 : decide (0 < k) = true := by simp; omega
        have e1 : ((k : Int) == 0) = false := by simpa using hk0
        obtain ⟨ad', e', p1⟩ := at_i (Kd.C_below HL.out hwr) (k - 1) (by omega)
        obtain rfl := Option.some.inj e'
        change _ = some (Value.int .i64 (at0 l (k - 1))) at p1
        have i1 : IntKind.i64.wrap ((k : Int) - 1) = (k : Int) - 1 := IntWalk.i64_in _ (by omega)
        have i2 : ((k : Int) - 1).toNat = k - 1 := by omega
        have i3 : 0 ≤ (k : Int) - 1 := by omega
        have i4 : (k : Int) - 1 < (l.length : Int) := by omega
        have i5 : (1 : Int) ≤ (k : Int) := by omega
        have i6 : 1 ≤ k := by omega
        have i7 : (k : Int) ≤ (l.length : Int) := by omega
        have hkk : (k : Int) - 1 = ((k - 1 : Nat) : Int) := by omega
        have HK := Lib.hid hkk
        have hkp : k - 1 + 1 < p.log.length := by have := HN.out; omega
        clear e' hkk
        by_cases se : at0 l (k - 1) = at0 l k
        · have g4 : (at0 l (k - 1) == at0 l k) = true := by simpa using se
          have g5 : (at0 l (k - 1) != at0 l k) = false := by simpa using se
          have g6 : (at0 l k != at0 l (k - 1)) = false := by simpa using se.symm
          have hG : Hid (stepB p l k = true) := by show stepB p l k = true; unfold stepB; rw [gw, g4]; simp [hk0]
          by_cases s2 : at0 l k = 2
          · have g2 : (at0 l k == 2) = true := by simpa using s2
            have g3 : cnt l (k + 1) = cnt l k + 1 := by rw [hcs.out, if_pos s2]
            have G3 := Lib.hid g3
            clear s2 hk0 s0 s1 se g3
            generalize at0 l k = S at *
            generalize at0 l (k - 1) = S' at *
            go_wp2_with (go_at_call 74; refine (within_any _ _ _ _).mono ?_; rintro e w1 ⟨rfl, rfl⟩)
            go_quiet (fail)
            go_wp2
            go_roundw
            case rel => exact ⟨k + 1, by omega, by go_num, by rw [G3.out]; go_num, pw_below_drewN hb _, fun i hi => by
              rcases Nat.lt_or_ge i k with h | h
              · exact hall.out i h
              · obtain rfl : i = k := by omega
                exact hG.out⟩
            case measure => simp [intOf]; omega
          · have g2 : (at0 l k == 2) = false := by simpa using s2
            have g3 : cnt l (k + 1) = cnt l k := by rw [hcs.out, if_neg s2]; rfl
            have G3 := Lib.hid g3
            clear s2 hk0 s0 s1 se g3
            generalize at0 l k = S at *
            generalize at0 l (k - 1) = S' at *
            go_wp2_with (go_at_call 74; refine (within_any _ _ _ _).mono ?_; rintro e w1 ⟨rfl, rfl⟩)
            go_quiet (fail)
            go_wp2
            go_roundw
            case rel => exact ⟨k + 1, by omega, by go_num, by rw [G3.out], pw_below_drewN hb _, fun i hi => by
              rcases Nat.lt_or_ge i k with h | h
              · exact hall.out i h
              · obtain rfl : i = k := by omega
                exact hG.out⟩
            case measure => simp [intOf]; omega
        · have g4 : (at0 l (k - 1) == at0 l k) = false := by simpa using se
          have g5 : (at0 l (k - 1) != at0 l k) = true := by simpa using se
          have g6 : (at0 l k != at0 l (k - 1)) = true := by simpa using Ne.symm se
          cases hsh : shiftF p (k - 1)
          · have hF := Lib.hid (case_step hlt (p := p) (by unfold stepB; rw [gw, g4, hsh]; simp [hk0]))
            clear hk0 s0 s1 se
            generalize at0 l k = S at *
            generalize at0 l (k - 1) = S' at *
            have hT : ∀ w2, Below wr.heap.size wr w2 → w2.cell? (ad.add k) = some (Value.int .i64 S) ∧ w2.cell? (ad.add (k - 1)) = some (Value.int .i64 S') ∧ w2.cell? ⟨w.heap.size, 0, none⟩ = some (.int .i64 p.no) ∧ w2.cell? ⟨w.heap.size, 1, none⟩ = some (.int .i64 p.cell) ∧ w2.cell? ⟨w.heap.size, 2, none⟩ = some (.int .i64 p.noise) ∧ w2.cell? ⟨w.heap.size, 3, none⟩ = some (.int .i64 p.slab) ∧ w2.cell? ⟨w.heap.size, 4, none⟩ = some (.int .i64 p.jump) ∧ w2.cell? ⟨w.heap.size, 5, none⟩ = some (.int .i64 p.faults) ∧ w2.cell? ⟨w.heap.size, 6, none⟩ = some (.slice A p.log.length c) := fun w2 hb2 => by
              refine ⟨pw_cell_below hb2 a1, pw_cell_below hb2 p1, ?_, ?_, ?_, ?_, ?_, ?_, ?_⟩ <;> (refine pw_cell_below hb2 ?_; rw [hc _ _ (by omega)]; simp)
            go_wp2_with (go_at_call 74; refine (within_any _ _ _ _).mono ?_; rintro e w1 ⟨rfl, rfl⟩)
            go_region_held3 (fun w2 => w2.cell? (ad.add k) = some (Value.int .i64 S) ∧ w2.cell? (ad.add (k - 1)) = some (Value.int .i64 S') ∧ w2.cell? ⟨w.heap.size, 0, none⟩ = some (.int .i64 p.no) ∧ w2.cell? ⟨w.heap.size, 1, none⟩ = some (.int .i64 p.cell) ∧ w2.cell? ⟨w.heap.size, 2, none⟩ = some (.int .i64 p.noise) ∧ w2.cell? ⟨w.heap.size, 3, none⟩ = some (.int .i64 p.slab) ∧ w2.cell? ⟨w.heap.size, 4, none⟩ = some (.int .i64 p.jump) ∧ w2.cell? ⟨w.heap.size, 5, none⟩ = some (.int .i64 p.faults) ∧ w2.cell? ⟨w.heap.size, 6, none⟩ = some (.slice A p.log.length c)) (first | go_keep | exact hT _ hb1) (first | (go_at_call 75; refine (rshift_at p _ c (k - 1) _ HK.out _ HP.out (Kd.C_below HA.out hwr.drew) hkp).mono ?_; rintro e w1 ⟨rfl, hb1⟩; have hb1 : Below wr.heap.size wr w1 := ⟨hb1.os, hb1.tape, hb1.output, hb1.size, hb1.block⟩))
            go_wp2
            go_ret
            exact ⟨ret_bool hF.out.symm, hwr.trans (hb1.mono (by omega))⟩
          · have hG : Hid (stepB p l k = true) := by show stepB p l k = true; unfold stepB; rw [gw, hsh]; simp [hk0]
            by_cases s2 : at0 l k = 2
            · have g2 : (at0 l k == 2) = true := by simpa using s2
              have g3 : cnt l (k + 1) = cnt l k + 1 := by rw [hcs.out, if_pos s2]
              have G3 := Lib.hid g3
              clear s2 hk0 s0 s1 se g3
              generalize at0 l k = S at *
              generalize at0 l (k - 1) = S' at *
              have hT : ∀ w2, Below wr.heap.size wr w2 → w2.cell? (ad.add k) = some (Value.int .i64 S) ∧ w2.cell? (ad.add (k - 1)) = some (Value.int .i64 S') ∧ w2.cell? ⟨w.heap.size, 0, none⟩ = some (.int .i64 p.no) ∧ w2.cell? ⟨w.heap.size, 1, none⟩ = some (.int .i64 p.cell) ∧ w2.cell? ⟨w.heap.size, 2, none⟩ = some (.int .i64 p.noise) ∧ w2.cell? ⟨w.heap.size, 3, none⟩ = some (.int .i64 p.slab) ∧ w2.cell? ⟨w.heap.size, 4, none⟩ = some (.int .i64 p.jump) ∧ w2.cell? ⟨w.heap.size, 5, none⟩ = some (.int .i64 p.faults) ∧ w2.cell? ⟨w.heap.size, 6, none⟩ = some (.slice A p.log.length c) := fun w2 hb2 => by
                refine ⟨pw_cell_below hb2 a1, pw_cell_below hb2 p1, ?_, ?_, ?_, ?_, ?_, ?_, ?_⟩ <;> (refine pw_cell_below hb2 ?_; rw [hc _ _ (by omega)]; simp)
              go_wp2_with (go_at_call 74; refine (within_any _ _ _ _).mono ?_; rintro e w1 ⟨rfl, rfl⟩)
              go_region_held3 (fun w2 => w2.cell? (ad.add k) = some (Value.int .i64 S) ∧ w2.cell? (ad.add (k - 1)) = some (Value.int .i64 S') ∧ w2.cell? ⟨w.heap.size, 0, none⟩ = some (.int .i64 p.no) ∧ w2.cell? ⟨w.heap.size, 1, none⟩ = some (.int .i64 p.cell) ∧ w2.cell? ⟨w.heap.size, 2, none⟩ = some (.int .i64 p.noise) ∧ w2.cell? ⟨w.heap.size, 3, none⟩ = some (.int .i64 p.slab) ∧ w2.cell? ⟨w.heap.size, 4, none⟩ = some (.int .i64 p.jump) ∧ w2.cell? ⟨w.heap.size, 5, none⟩ = some (.int .i64 p.faults) ∧ w2.cell? ⟨w.heap.size, 6, none⟩ = some (.slice A p.log.length c)) (first | go_keep | exact hT _ hb1) (first | (go_at_call 75; refine (rshift_at p _ c (k - 1) _ HK.out _ HP.out (Kd.C_below HA.out hwr.drew) hkp).mono ?_; rintro e w1 ⟨rfl, hb1⟩; have hb1 : Below wr.heap.size wr w1 := ⟨hb1.os, hb1.tape, hb1.output, hb1.size, hb1.block⟩))
              go_wp2
              go_roundw
              case rel => exact ⟨k + 1, by omega, by go_num, by rw [G3.out]; go_num, hb.trans (hb1.mono (by omega)), fun i hi => by
                rcases Nat.lt_or_ge i k with h | h
                · exact hall.out i h
                · obtain rfl : i = k := by omega
                  exact hG.out⟩
              case measure => simp [intOf]; omega
            · have g2 : (at0 l k == 2) = false := by simpa using s2
              have g3 : cnt l (k + 1) = cnt l k := by rw [hcs.out, if_neg s2]; rfl
              have G3 := Lib.hid g3
              clear s2 hk0 s0 s1 se g3
              generalize at0 l k = S at *
              generalize at0 l (k - 1) = S' at *
              have hT : ∀ w2, Below wr.heap.size wr w2 → w2.cell? (ad.add k) = some (Value.int .i64 S) ∧ w2.cell? (ad.add (k - 1)) = some (Value.int .i64 S') ∧ w2.cell? ⟨w.heap.size, 0, none⟩ = some (.int .i64 p.no) ∧ w2.cell? ⟨w.heap.size, 1, none⟩ = some (.int .i64 p.cell) ∧ w2.cell? ⟨w.heap.size, 2, none⟩ = some (.int .i64 p.noise) ∧ w2.cell? ⟨w.heap.size, 3, none⟩ = some (.int .i64 p.slab) ∧ w2.cell? ⟨w.heap.size, 4, none⟩ = some (.int .i64 p.jump) ∧ w2.cell? ⟨w.heap.size, 5, none⟩ = some (.int .i64 p.faults) ∧ w2.cell? ⟨w.heap.size, 6, none⟩ = some (.slice A p.log.length c) := fun w2 hb2 => by
                refine ⟨pw_cell_below hb2 a1, pw_cell_below hb2 p1, ?_, ?_, ?_, ?_, ?_, ?_, ?_⟩ <;> (refine pw_cell_below hb2 ?_; rw [hc _ _ (by omega)]; simp)
              go_wp2_with (go_at_call 74; refine (within_any _ _ _ _).mono ?_; rintro e w1 ⟨rfl, rfl⟩)
              go_region_held3 (fun w2 => w2.cell? (ad.add k) = some (Value.int .i64 S) ∧ w2.cell? (ad.add (k - 1)) = some (Value.int .i64 S') ∧ w2.cell? ⟨w.heap.size, 0, none⟩ = some (.int .i64 p.no) ∧ w2.cell? ⟨w.heap.size, 1, none⟩ = some (.int .i64 p.cell) ∧ w2.cell? ⟨w.heap.size, 2, none⟩ = some (.int .i64 p.noise) ∧ w2.cell? ⟨w.heap.size, 3, none⟩ = some (.int .i64 p.slab) ∧ w2.cell? ⟨w.heap.size, 4, none⟩ = some (.int .i64 p.jump) ∧ w2.cell? ⟨w.heap.size, 5, none⟩ = some (.int .i64 p.faults) ∧ w2.cell? ⟨w.heap.size, 6, none⟩ = some (.slice A p.log.length c)) (first | go_keep | exact hT _ hb1) (first | (go_at_call 75; refine (rshift_at p _ c (k - 1) _ HK.out _ HP.out (Kd.C_below HA.out hwr.drew) hkp).mono ?_; rintro e w1 ⟨rfl, hb1⟩; have hb1 : Below wr.heap.size wr w1 := ⟨hb1.os, hb1.tape, hb1.output, hb1.size, hb1.block⟩))
              go_wp2
              go_roundw
              case rel => exact ⟨k + 1, by omega, by go_num, by rw [G3.out], hb.trans (hb1.mono (by omega)), fun i hi => by
                rcases Nat.lt_or_ge i k with h | h
                · exact hall.out i h
                · obtain rfl : i = k := by omega
                  exact hG.out⟩
              case measure => simp [intOf]; omega
    · obtain rfl : k = l.length := by omega
      have hF := Lib.hid (case_all HN.out hall.out)
      go_wp2
      go_ret
      exact ⟨ret_bool hF.out.symm, hwr⟩
end Go.Proofs.YtiidkekmklbobaaDoor
set_option linter.unusedVariables false
set_option linter.unusedSimpArgs false
namespace Go.Proofs.YtiidkekmklbobaaDoor
open Go.RowKit Go.Proofs.YtiidkekmklbobaaDoorW.PrintWords
attribute [local go_sem] mx_two mn_two blk_add
def spanB (x : Int × Int) : Bool := decide (x.1 ≤ x.2) && (decide (-65536 ≤ x.1) && decide (x.2 ≤ 65536))
def weatherB (p : Pil) (ws : List (Int × Int)) : Bool := (ws.length == p.log.length - 1) && ws.all spanB
def tellF (p : Pil) (ws : List (Int × Int)) : Int := if checkB p then (if weatherB p ws then 0 else 1) else 30
def sp (ws : List (Int × Int)) (i : Nat) : Int × Int := ws.getD i (0, 0)
theorem weather_len {p : Pil} {ws : List (Int × Int)} (h : ws.length ≠ p.log.length - 1) : weatherB p ws = false := by simp [weatherB, h]
theorem weather_bad {p : Pil} {ws : List (Int × Int)} {i : Nat} (hi : i < ws.length) (h : spanB (sp ws i) = false) : weatherB p ws = false := by
  have : ws.all spanB = false := by
    rw [List.all_eq_false]
    refine ⟨ws[i], List.getElem_mem hi, ?_⟩
    simpa [sp, hi] using h
  simp [weatherB, this]
theorem weather_all {p : Pil} {ws : List (Int × Int)} (h : ws.length = p.log.length - 1) (ha : ∀ i, i < ws.length → spanB (sp ws i) = true) : weatherB p ws = true := by
  have : ws.all spanB = true := by
    rw [List.all_eq_true]
    intro x hx
    obtain ⟨i, hi, rfl⟩ := List.mem_iff_getElem.1 hx
    simpa [sp, hi] using ha i hi
  simp [weatherB, this, h]
theorem weather_at {p : Pil} {ws : List (Int × Int)} (h : weatherB p ws = true) (i : Nat) : -65536 ≤ (sp ws i).1 ∧ (sp ws i).1 ≤ (sp ws i).2 ∧ (sp ws i).2 ≤ 65536 := by
  simp only [weatherB, Bool.and_eq_true, List.all_eq_true] at h
  rcases Nat.lt_or_ge i ws.length with hi | hi
  · have := h.2 ws[i] (List.getElem_mem hi)
    simp only [spanB, Bool.and_eq_true, decide_eq_true_eq] at this
    have e : sp ws i = ws[i] := by simp [sp, hi]
    rw [e]; omega
  · have e : sp ws i = (0, 0) := by simp [sp, hi]
    rw [e]; decide
theorem span_false {x : Int × Int} (h : ¬ (x.1 ≤ x.2 ∧ -65536 ≤ x.1 ∧ x.2 ≤ 65536)) : spanB x = false := by
  cases e : spanB x
  · rfl
  · simp only [spanB, Bool.and_eq_true, decide_eq_true_eq] at e; exact absurd e h

set_option maxHeartbeats 1600000 in
theorem tell_any (p : Pil) (A : Option Addr) (c : Nat) (A1 : Option Addr) (c1 : Nat) (ws : List (Int × Int)) (w : World) (hA : Kd.C kSpan w A p.log.length p.log) (hw : Kd.C kSpan w A1 ws.length ws) (hl : ws.length ≤ 9223372036854775807) :
    Calls Tryd.prog 58 #[p.val A c, .slice A1 ws.length c1] w fun e w' => e = .returned (.int .i64 (tellF p ws)) ∧ Below w.heap.size w w' := by
  have HA := Lib.hid hA
  have HW := Lib.hid hw
  clear hA hw
  have hbox : Below w.heap.size w (w.alloc (boxP p A c 24)) := (Below.refl _ _).alloc (Nat.le_refl _) _
  have HAb := Lib.hid (Kd.C_below HA.out hbox)
  cases hch : checkB p
  · have hF := Lib.hid (show tellF p ws = 30 by simp [tellF, hch])
    have hE := Lib.hid (show checkF p = 30 by simp [checkF, hch])
    go_enter Tryd.func58, Tryd.ntmps58
    go_wp2_with (go_at_call 45; refine (check_any p A c _ HAb.out).mono ?_; rw [hE.out]; rintro e w1 ⟨rfl, hb⟩)
    go_ret
    exact ⟨ret_int hF.out.symm, hbox.trans (hb.mono (by simp))⟩
  · have hE := Lib.hid (show checkF p = 0 by simp [checkF, hch])
    have hok := ok_of_check hch
    have hL := hok.l
    have CH := Lib.hid hch
    clear hch hok
    by_cases hn : ws.length = p.log.length - 1
    · have HN := Lib.hid hn
      have mx : max 0 ((p.log.length : Int) - 1) = (ws.length : Int) := by omega
      have iw : IntKind.i64.wrap ((p.log.length : Int) - 1) = (p.log.length : Int) - 1 := IntWalk.i64_in _ (by omega)
      have hle : ws.length ≤ 32 := by omega
      clear hn
      go_enter Tryd.func58, Tryd.ntmps58
      go_wp2_with (go_at_call 45; refine (check_any p A c _ HAb.out).mono ?_; rw [hE.out]; rintro e w1 ⟨rfl, hb⟩; obtain ⟨hc, hf⟩ := bcell hb)
      go_loopw [23] (fun vi wr => ∃ k : Nat, k ≤ ws.length ∧ vi = .int .i64 k ∧ Below w.heap.size w wr ∧ Hid (∀ i, i < k → spanB (sp ws i) = true))
        (fun vi _ => ws.length - (intOf vi).toNat)
      case atStart => exact ⟨0, Nat.zero_le _, rfl, hbox.trans (hb.mono (by simp)), fun i h => absurd h (by omega)⟩
      case round =>
        obtain ⟨k, hk, rfl, hwr, hall⟩ := hrel
        have hz : w.heap.size ≤ wr.heap.size := hwr.size
        by_cases hlt : k < ws.length
        · obtain ⟨ad, rfl, a1, a2⟩ := at_span (Kd.C_below HW.out hwr) k hlt
          obtain ⟨l0, l1, l2⟩ := at_lt a1
          change _ = some (Value.int .i64 (sp ws k).1) at a1
          change _ = some (Value.int .i64 (sp ws k).2) at a2
          by_cases t0 : (sp ws k).1 ≤ (sp ws k).2
          · have g0 : decide ((sp ws k).2 < (sp ws k).1) = false := by simpa using t0
            by_cases t1 : -65536 ≤ (sp ws k).1
            · have g1 : decide ((sp ws k).1 < -65536) = false := by simpa using t1
              by_cases t2 : (sp ws k).2 ≤ 65536
              · have g2 : decide (65536 < (sp ws k).2) = false := by simpa using t2
                have hG := Lib.hid (show spanB (sp ws k) = true by simp [spanB, t0, t1, t2])
                generalize (sp ws k).1 = D at *
                generalize (sp ws k).2 = W at *
                go_wp2
                go_roundw
                case rel => exact ⟨k + 1, by omega, by go_num, hwr.alloc hwr.size _, fun i hi => by
                  rcases Nat.lt_or_ge i k with h | h
                  · exact hall.out i h
                  · obtain rfl : i = k := by omega
                    exact hG.out⟩
                case measure => simp [intOf]; omega
              · have hF := Lib.hid (show tellF p ws = 1 by simp only [tellF, CH.out, weather_bad hlt (span_false (by omega))]; rfl)
                have g2 : decide (65536 < (sp ws k).2) = true := by simpa using t2
                generalize (sp ws k).1 = D at *
                generalize (sp ws k).2 = W at *
                go_wp2
                go_ret
                exact ⟨ret_int hF.out.symm, hwr.trans ((Below.refl _ _).alloc (by omega) _)⟩
            · have hF := Lib.hid (show tellF p ws = 1 by simp only [tellF, CH.out, weather_bad hlt (span_false (by omega))]; rfl)
              have g1 : decide ((sp ws k).1 < -65536) = true := by simpa using t1
              generalize (sp ws k).1 = D at *
              generalize (sp ws k).2 = W at *
              go_wp2
              go_ret
              exact ⟨ret_int hF.out.symm, hwr.trans ((Below.refl _ _).alloc (by omega) _)⟩
          · have hF := Lib.hid (show tellF p ws = 1 by simp only [tellF, CH.out, weather_bad hlt (span_false (by omega))]; rfl)
            have g0 : decide ((sp ws k).2 < (sp ws k).1) = true := by simpa using t0
            generalize (sp ws k).1 = D at *
            generalize (sp ws k).2 = W at *
            go_wp2
            go_ret
            exact ⟨ret_int hF.out.symm, hwr.trans ((Below.refl _ _).alloc (by omega) _)⟩
        · obtain rfl : k = ws.length := by omega
          have hF := Lib.hid (show tellF p ws = 0 by simp only [tellF, CH.out, weather_all HN.out hall.out]; rfl)
          go_wp2
          go_ret
          exact ⟨ret_int hF.out.symm, hwr⟩
    · have hF := Lib.hid (show tellF p ws = 1 by simp [tellF, CH.out, weather_len hn])
      have mx : ((ws.length : Int) != max 0 ((p.log.length : Int) - 1)) = true := by simp; omega
      have mx2 : ((ws.length : Int) == max 0 ((p.log.length : Int) - 1)) = false := by simp; omega
      have iw : IntKind.i64.wrap ((p.log.length : Int) - 1) = (p.log.length : Int) - 1 := IntWalk.i64_in _ (by omega)
      clear hn
      go_enter Tryd.func58, Tryd.ntmps58
      go_wp2_with (go_at_call 45; refine (check_any p A c _ HAb.out).mono ?_; rw [hE.out]; rintro e w1 ⟨rfl, hb⟩; obtain ⟨hc, hf⟩ := bcell hb)
      go_ret
      exact ⟨ret_int hF.out.symm, hbox.trans (hb.mono (by simp))⟩

set_option maxHeartbeats 1600000 in
theorem weather_any (p : Pil) (A : Option Addr) (c : Nat) (A1 : Option Addr) (c1 : Nat) (ws : List (Int × Int)) (w : World) (hL : p.log.length ≤ 32) (hw : Kd.C kSpan w A1 ws.length ws) (hl : ws.length ≤ 9223372036854775807) :
    Calls Tryd.prog 95 #[p.val A c, .slice A1 ws.length c1] w fun e w' => e = .returned (.bool (weatherB p ws)) ∧ Below w.heap.size w w' := by
  have HW := Lib.hid hw
  clear hw
  have iw : IntKind.i64.wrap ((p.log.length : Int) - 1) = (p.log.length : Int) - 1 := IntWalk.i64_in _ (by omega)
  by_cases hn : ws.length = p.log.length - 1
  · have HN := Lib.hid hn
    have mx : max 0 ((p.log.length : Int) - 1) = (ws.length : Int) := by omega
    have hle : ws.length ≤ 32 := by omega
    have hbox : Below w.heap.size w (w.alloc (boxP p A c 24)) := (Below.refl _ _).alloc (Nat.le_refl _) _
    clear hn
    go_enter Tryd.func95, Tryd.ntmps95
    go_wp2
    go_loopw [5] (fun vi wr => ∃ k : Nat, k ≤ ws.length ∧ vi = .int .i64 k ∧ Below w.heap.size w wr ∧ Hid (∀ i, i < k → spanB (sp ws i) = true))
      (fun vi _ => ws.length - (intOf vi).toNat)
    case atStart => exact ⟨0, Nat.zero_le _, rfl, hbox, fun i h => absurd h (by omega)⟩
    case round =>
      obtain ⟨k, hk, rfl, hwr, hall⟩ := hrel
      have hz : w.heap.size ≤ wr.heap.size := hwr.size
      by_cases hlt : k < ws.length
      · obtain ⟨ad, rfl, a1, a2⟩ := at_span (Kd.C_below HW.out hwr) k hlt
        obtain ⟨l0, l1, l2⟩ := at_lt a1
        change _ = some (Value.int .i64 (sp ws k).1) at a1
        change _ = some (Value.int .i64 (sp ws k).2) at a2
        by_cases t0 : (sp ws k).1 ≤ (sp ws k).2
        · have g0 : decide ((sp ws k).2 < (sp ws k).1) = false := by simpa using t0
          by_cases t1 : -65536 ≤ (sp ws k).1
          · have g1 : decide ((sp ws k).1 < -65536) = false := by simpa using t1
            by_cases t2 : (sp ws k).2 ≤ 65536
            · have g2 : decide (65536 < (sp ws k).2) = false := by simpa using t2
              have hG := Lib.hid (show spanB (sp ws k) = true by simp [spanB, t0, t1, t2])
              generalize (sp ws k).1 = D at *
              generalize (sp ws k).2 = W at *
              go_wp2
              go_quiet (fail)
              go_wp2
              go_roundw
              case rel => exact ⟨k + 1, by omega, by go_num, pw_below_drewN hwr _, fun i hi => by
                rcases Nat.lt_or_ge i k with h | h
                · exact hall.out i h
                · obtain rfl : i = k := by omega
                  exact hG.out⟩
              case measure => simp [intOf]; omega
            · have hF := Lib.hid (show weatherB p ws = false from weather_bad hlt (span_false (by omega)))
              have g2 : decide (65536 < (sp ws k).2) = true := by simpa using t2
              generalize (sp ws k).1 = D at *
              generalize (sp ws k).2 = W at *
              go_wp2
              go_quiet (fail)
              go_wp2
              go_ret
              exact ⟨ret_bool hF.out.symm, pw_below_drewN hwr _⟩
          · have hF := Lib.hid (show weatherB p ws = false from weather_bad hlt (span_false (by omega)))
            have g1 : decide ((sp ws k).1 < -65536) = true := by simpa using t1
            generalize (sp ws k).1 = D at *
            generalize (sp ws k).2 = W at *
            go_wp2
            go_quiet (fail)
            go_wp2
            go_ret
            exact ⟨ret_bool hF.out.symm, pw_below_drewN hwr _⟩
        · have hF := Lib.hid (show weatherB p ws = false from weather_bad hlt (span_false (by omega)))
          have g0 : decide ((sp ws k).2 < (sp ws k).1) = true := by simpa using t0
          generalize (sp ws k).1 = D at *
          generalize (sp ws k).2 = W at *
          go_wp2
          go_quiet (fail)
          go_wp2
          go_ret
          exact ⟨ret_bool hF.out.symm, pw_below_drewN hwr _⟩
      · obtain rfl : k = ws.length := by omega
        have hF := Lib.hid (show weatherB p ws = true from weather_all HN.out hall.out)
        go_wp2
        go_ret
        exact ⟨ret_bool hF.out.symm, hwr⟩
  · have hF := Lib.hid (weather_len hn)
    have mx : ((ws.length : Int) != max 0 ((p.log.length : Int) - 1)) = true := by simp; omega
    have mx2 : ((ws.length : Int) == max 0 ((p.log.length : Int) - 1)) = false := by simp; omega
    clear hn
    go_enter Tryd.func95, Tryd.ntmps95
    go_wp2
    go_ret
    exact ⟨ret_bool hF.out.symm, (Below.refl _ _).alloc (Nat.le_refl _) _⟩
end Go.Proofs.YtiidkekmklbobaaDoor
set_option linter.unusedVariables false
set_option linter.unusedSimpArgs false
namespace Go.Proofs.YtiidkekmklbobaaDoor
open Go.RowKit Go.Proofs.YtiidkekmklbobaaDoorW.PrintWords
attribute [local go_sem] mx_two mn_two blk_add
def toldF (p : Pil) (ws : List (Int × Int)) (l : List Int) : Int := if checkB p then (if weatherB p ws then (if caseB p l then 0 else 31) else 1) else 30
set_option maxHeartbeats 1600000 in
theorem told_any (p : Pil) (A : Option Addr) (c : Nat) (A1 : Option Addr) (c1 : Nat) (ws : List (Int × Int)) (A2 : Option Addr) (c2 : Nat) (l : List Int) (w : World) (hA : Kd.C kSpan w A p.log.length p.log) (hw : Kd.C kSpan w A1 ws.length ws) (hl : Kd.C (Kd.int .i64) w A2 l.length l) (hn : ws.length ≤ 9223372036854775807) :
    Calls Tryd.prog 62 #[p.val A c, .slice A1 ws.length c1, .slice A2 l.length c2] w fun e w' => e = .returned (.int .i64 (toldF p ws l)) ∧ Below w.heap.size w w' := by
  have hbox : Below w.heap.size w (w.alloc (boxP p A c 24)) := (Below.refl _ _).alloc (Nat.le_refl _) _
  have HA := Lib.hid (Kd.C_below hA hbox)
  have HW := Lib.hid (Kd.C_below hw hbox)
  have HL := Lib.hid (Kd.C_below hl hbox)
  clear hA hw hl
  cases hch : checkB p
  · have hF := Lib.hid (show toldF p ws l = 30 by simp [toldF, hch])
    have hE := Lib.hid (show tellF p ws = 30 by simp [tellF, hch])
    go_enter Tryd.func62, Tryd.ntmps62
    go_wp2_with (go_at_call 58; refine (tell_any p A c A1 _ ws _ HA.out HW.out hn).mono ?_; rw [hE.out]; rintro e w1 ⟨rfl, hb⟩)
    go_ret
    exact ⟨ret_int hF.out.symm, hbox.trans (hb.mono (by simp))⟩
  · have hok := Lib.hid (ok_of_check hch)
    cases hwe : weatherB p ws
    · have hF := Lib.hid (show toldF p ws l = 1 by simp [toldF, hch, hwe])
      have hE := Lib.hid (show tellF p ws = 1 by simp [tellF, hch, hwe])
      go_enter Tryd.func62, Tryd.ntmps62
      go_wp2_with (go_at_call 58; refine (tell_any p A c A1 _ ws _ HA.out HW.out hn).mono ?_; rw [hE.out]; rintro e w1 ⟨rfl, hb⟩)
      go_ret
      exact ⟨ret_int hF.out.symm, hbox.trans (hb.mono (by simp))⟩
    · have hE := Lib.hid (show tellF p ws = 0 by simp [tellF, hch, hwe])
      cases hca : caseB p l
      · have hF := Lib.hid (show toldF p ws l = 31 by simp [toldF, hch, hwe, hca])
        go_enter Tryd.func62, Tryd.ntmps62
        go_wp2_with (first | (go_at_call 58; refine (tell_any p A c A1 _ ws _ HA.out HW.out hn).mono ?_; rw [hE.out]; rintro e w1 ⟨rfl, hb⟩; obtain ⟨hc, hf⟩ := bcell hb) | (go_at_call 70; refine (isCase_any p A c A2 _ l _ hok.out (Kd.C_below HA.out hb) (Kd.C_below HL.out hb)).mono ?_; rintro e w2 ⟨rfl, hb2⟩))
        go_ret
        exact ⟨ret_int hF.out.symm, (hbox.trans (hb.mono (by simp))).trans (hb2.mono (by have := hb.size; simp at this; omega))⟩
      · have hF := Lib.hid (show toldF p ws l = 0 by simp [toldF, hch, hwe, hca])
        go_enter Tryd.func62, Tryd.ntmps62
        go_wp2_with (first | (go_at_call 58; refine (tell_any p A c A1 _ ws _ HA.out HW.out hn).mono ?_; rw [hE.out]; rintro e w1 ⟨rfl, hb⟩; obtain ⟨hc, hf⟩ := bcell hb) | (go_at_call 70; refine (isCase_any p A c A2 _ l _ hok.out (Kd.C_below HA.out hb) (Kd.C_below HL.out hb)).mono ?_; rintro e w2 ⟨rfl, hb2⟩))
        go_ret
        exact ⟨ret_int hF.out.symm, (hbox.trans (hb.mono (by simp))).trans (hb2.mono (by have := hb.size; simp at this; omega))⟩

def askedF (p : Pil) (ws : List (Int × Int)) (en : Int) (cs : List (List Int)) : Int := if checkB p then (if weatherB p ws then (if cs.all (caseB p) then (if within en (-1) ((p.log.length : Int) - 1) then 0 else 1) else 31) else 1) else 30
abbrev kInt : Kd Int := Kd.int .i64
abbrev kCase : Kd (List Int) := Kd.slice 3 kInt
theorem at_case {w : World} {A : Option Addr} {n : Nat} {xs : List (List Int)} (h : Kd.C kCase w A n xs) (i : Nat) (h1 : i < n) :
    ∃ ad A0 c0, A = some ad ∧ w.cell? (ad.add i) = some (.slice A0 (xs.getD i []).length c0) ∧ (xs.getD i []).length ≤ c0 ∧ kInt.C w A0 (xs.getD i []).length (xs.getD i []) := by
  obtain ⟨ad, c, e, _, hK, hc0⟩ := Kd.C_get h ([] : List Int) (i : Int) (by omega) (by omega)
  obtain ⟨A0, c0, rfl, l0, g0⟩ := hK
  have hq := hc0 0 _ rfl
  have e2 : kCase.sz = 1 := rfl
  rw [e2, Nat.mul_one, Nat.add_zero] at hq
  exact ⟨ad, A0, c0, e, hq, l0, g0⟩
end Go.Proofs.YtiidkekmklbobaaDoor
