/- Arguments opened; the listed tables; the door's heap meets the condition. -/
import Derived.Test.YtiidkekmklbobaaDoorM1
import Derived.ProofKit
import Derived.OpenShut
import Derived.Deep.Slices
import Derived.ChangeOld
import Derived.LaidMore
import Derived.Lib.LaidTab
import Derived.Test.YtiidkekmklbobaaDoorM8
import Derived.Test.YtiidkekmklbobaaDoorRows
import Derived.Test.YtiidkekmklbobaaDoorTie
import Derived.Test.YtiidkekmklbobaaDoorCards
import Derived.WalkKit
import Derived.ShutString
import Derived.Below
import Derived.Stop.LaidErr
import Derived.Stop.Joined
import Derived.SevenTiedAt
set_option linter.unusedVariables false
set_option linter.unusedSimpArgs false
namespace Go.Proofs.YtiidkekmklbobaaDoor
open Go.ChangeShapes Go.WideShapes Go.ChangeAt Go.Deep Go.RowKit Go.Proofs.YtiidkekmklbobaaDoorW.PrintWords
/-! ## Arguments opened -/
section
variable {H : Type} {enc : TypeId × Value → H} {w : World} {base : Nat} {spare : Nat → Bool} {held : Bool}
set_option maxRecDepth 100000 in
theorem trod_two {e : TypeId} {f0 f1 : Field} {fuel : Nat} {cs : List Value} {x : DataW H × List MemPlace} (he : Tryd.prog.underlying e = some (.struct #[f0, f1])) (h0 : f0.type = 3 ∧ f0.offset = 0) (h1 : f1.type = 3 ∧ f1.offset = 1) (hc : Tryd.prog.cellsOf e = 2)
    (h : DataW.trod enc Tryd.prog w base spare held fuel e cs = some x) : ∃ a b : Int, cs = [.int .i64 a, .int .i64 b] ∧ (Lit.int .i64 a).wf = true ∧ (Lit.int .i64 b).wf = true := by
  obtain ⟨xs, n, _, _, hlen, hxl, hg⟩ := DataW.trod_struct he h
  have c3 : Tryd.prog.cellsOf 3 = 1 := by kernel_rfl
  have g0 := hg 0 f0 rfl
  have g1 := hg 1 f1 rfl
  rw [h0.1, h0.2, c3] at g0
  rw [h1.1, h1.2, c3] at g1
  rw [hc] at hlen
  match xs, hxl, cs, hlen with
  | [y0, y1], _, [u0, u1], _ =>
    obtain ⟨a, ea, _, wa⟩ := DataW.trod_int Tryd.underlying3 (show DataW.trod _ Tryd.prog w base _ held n 3 [u0] = some y0 from g0)
    obtain ⟨b, eb, _, wb⟩ := DataW.trod_int Tryd.underlying3 (show DataW.trod _ Tryd.prog w base _ held n 3 [u1] = some y1 from g1)
    injection ea with ea
    injection eb with eb
    subst ea; subst eb
    exact ⟨a, b, rfl, wa, wb⟩
def cellInt (w : World) (a : Addr) : Int :=
  match w.cell? a with
  | some (.int _ n) => n
  | _ => 0
theorem open_twos {t e : TypeId} {f0 f1 : Field} {fuel : Nat} {cs : List Value} {x : DataW H × List MemPlace} (ht : Tryd.prog.underlying t = some (.slice e)) (he : Tryd.prog.underlying e = some (.struct #[f0, f1])) (h0 : f0.type = 3 ∧ f0.offset = 0) (h1 : f1.type = 3 ∧ f1.offset = 1) (hc : Tryd.prog.cellsOf e = 2)
    (h : DataW.trod enc Tryd.prog w base spare held fuel t cs = some x) :
    ∃ (A : Option Addr) (c : Nat) (xs : List (Int × Int)), cs = [.slice A xs.length c] ∧ xs.length ≤ c ∧ Kd.C kSpan w A xs.length xs ∧ c ≤ maxLen ∧ ∀ x ∈ xs, (Lit.int .i64 x.1).wf = true ∧ (Lit.int .i64 x.2).wf = true := by
  rcases open_slice ht h with ⟨rfl, _⟩ | ⟨a, len, cap, m, n, D, Pl, rfl, _, hl, hm, hmm, _, hx⟩
  · exact ⟨none, 0, [], rfl, Nat.le_refl _, Kd.C_nil _ _, by simp, by simp⟩
  · rw [hc] at hx
    have hml : len ≤ m := by rw [hmm]; split <;> omega
    have hcell : ∀ i, i < len → ∃ p q : Int, w.cell? (a.add (i * 2)) = some (.int .i64 p) ∧ w.cell? (a.add (i * 2 + 1)) = some (.int .i64 q) ∧ (Lit.int .i64 p).wf = true ∧ (Lit.int .i64 q).wf = true := fun i hi => by
      obtain ⟨cs', h2, h3⟩ := hx i (by omega)
      obtain ⟨_, _, h4⟩ := World.cells?_some h2
      obtain ⟨p, q, rfl, wp, wq⟩ := trod_two he h0 h1 hc h3
      refine ⟨p, q, ?_, ?_, wp, wq⟩
      · have := h4 0 (by omega)
        rw [Go.Deep.add_add] at this
        simpa using this
      · have := h4 1 (by omega)
        rw [Go.Deep.add_add] at this
        simpa using this
    have hci : ∀ i, i < len → w.cell? (a.add (i * 2)) = some (.int .i64 (cellInt w (a.add (i * 2)))) ∧ w.cell? (a.add (i * 2 + 1)) = some (.int .i64 (cellInt w (a.add (i * 2 + 1)))) ∧ (Lit.int .i64 (cellInt w (a.add (i * 2)))).wf = true ∧ (Lit.int .i64 (cellInt w (a.add (i * 2 + 1)))).wf = true := fun i hi => by
      obtain ⟨p, q, h2, h3, h4, h5⟩ := hcell i hi
      have e2 : cellInt w (a.add (i * 2)) = p := by unfold cellInt; rw [h2]
      have e3 : cellInt w (a.add (i * 2 + 1)) = q := by unfold cellInt; rw [h3]
      rw [e2, e3]
      exact ⟨h2, h3, h4, h5⟩
    have hlx : ((List.range len).map fun i => (cellInt w (a.add (i * 2)), cellInt w (a.add (i * 2 + 1)))).length = len := by simp
    refine ⟨some a, cap, (List.range len).map fun i => (cellInt w (a.add (i * 2)), cellInt w (a.add (i * 2 + 1))), by rw [hlx], by rw [hlx]; exact hl, ⟨rfl, by rw [hlx]; unfold maxLen at hm; omega, fun _ => ⟨a, rfl, fun j p hj => ?_⟩⟩, hm, fun x hxm => ?_⟩
    · obtain ⟨hlt, rfl⟩ := List.getElem?_eq_some_iff.1 hj
      rw [hlx] at hlt
      obtain ⟨h2, h3, _, _⟩ := hci j hlt
      refine ⟨[.int .i64 (cellInt w (a.add (j * 2))), .int .i64 (cellInt w (a.add (j * 2 + 1)))], rfl, ?_, fun i u hu => ?_⟩
      · simp only [List.getElem_map, List.getElem_range]
        exact ⟨[_], [_], rfl, rfl, rfl⟩
      have e2 : kSpan.sz = 2 := rfl
      rw [e2]
      match i, hu with
      | 0, hu => simp at hu; subst hu; exact h2
      | 1, hu => simp at hu; subst hu; exact h3
      | i + 2, hu => simp at hu
    · obtain ⟨i, hi, rfl⟩ := List.mem_map.1 hxm
      obtain ⟨_, _, h4, h5⟩ := hci i (List.mem_range.1 hi)
      exact ⟨h4, h5⟩
theorem open_row {fuel : Nat} {cs : List Value} {x : DataW H × List MemPlace} (h : DataW.trod enc Tryd.prog w base spare held fuel 26 cs = some x) :
    ∃ (A : Option Addr) (c : Nat) (xs : List Int), cs = [.slice A xs.length c] ∧ xs.length ≤ c ∧ Kd.C kInt w A xs.length xs ∧ c ≤ maxLen ∧ ∀ x ∈ xs, (Lit.int .i64 x).wf = true := by
  rcases open_ints Tryd.underlying26 Tryd.underlying3 (by kernel_rfl) h with ⟨rfl, _⟩ | ⟨a, l, c, zs, rfl, _, hl, hm, hz, _, hcell, hwz⟩
  · exact ⟨none, 0, [], rfl, Nat.le_refl _, Kd.C_nil _ _, by simp, by simp⟩
  · have hlz : l ≤ zs.length := by rw [hz]; split <;> omega
    have hlx : (zs.take l).length = l := by simp; omega
    refine ⟨some a, c, zs.take l, by rw [hlx], by rw [hlx]; exact hl, ⟨rfl, by rw [hlx]; unfold maxLen at hm; omega, fun _ => ⟨a, rfl, fun j p hj => ?_⟩⟩, hm, fun x hxm => hwz x (List.mem_of_mem_take hxm)⟩
    obtain ⟨hlt, rfl⟩ := List.getElem?_eq_some_iff.1 hj
    rw [hlx] at hlt
    have h2 := hcell j (by omega)
    refine ⟨[.int .i64 (zs.take l)[j]], rfl, rfl, fun i u hu => ?_⟩
    have e2 : kInt.sz = 1 := rfl
    match i, hu with
    | 0, hu =>
      simp at hu; subst hu
      rw [e2, Nat.mul_one, Nat.add_zero, h2]
      simp [List.getD_eq_getElem?_getD, List.getElem?_eq_getElem (show j < zs.length by omega)]
    | i + 1, hu => simp at hu
set_option maxRecDepth 100000 in
theorem open_pil {r : Reach} {b0 : Nat} {v : Value} {d : DataW H} {pl : List MemPlace} (hv : Value.okWide Tryd.prog w r b0 24 v) (h : DataW.Trod enc Tryd.prog w base spare held 24 v d pl) :
    ∃ (p : Pil) (A : Option Addr) (c : Nat), v = p.val A c ∧ p.log.length ≤ c ∧ Kd.C kSpan w A p.log.length p.log ∧ c ≤ maxLen ∧ (∀ n ∈ [p.no, p.cell, p.noise, p.slab, p.jump, p.faults], (Lit.int .i64 n).wf = true) ∧ ∀ x ∈ p.log, (Lit.int .i64 x.1).wf = true ∧ (Lit.int .i64 x.2).wf = true := by
  have hC : Tryd.prog.cellsOf 24 = 7 := by kernel_rfl
  have c3 : Tryd.prog.cellsOf 3 = 1 := by kernel_rfl
  have c22 : Tryd.prog.cellsOf 22 = 1 := by kernel_rfl
  obtain ⟨cs, rfl, hsz⟩ := okWide_struct Tryd.underlying24 hv
  obtain ⟨l⟩ := cs
  match l, hsz.trans hC with
  | [u0, u1, u2, u3, u4, u5, u6], _ =>
    obtain ⟨fuel, hf⟩ := h
    obtain ⟨xs, n, _, _, _, hlen, hg⟩ := DataW.trod_struct Tryd.underlying24 hf
    match xs, hlen with
    | [y0, y1, y2, y3, y4, y5, y6], _ =>
      have g0 : DataW.trod enc Tryd.prog w base spare held n 3 [u0] = some y0 := by
        have h9 := hg 0 _ rfl
        have h8 : ((Value.agg ⟨[u0, u1, u2, u3, u4, u5, u6]⟩).cells.toList.drop 0).take (Tryd.prog.cellsOf 3) = [u0] := by rw [c3]; rfl
        rw [← h8]; exact h9
      have g1 : DataW.trod enc Tryd.prog w base spare held n 3 [u1] = some y1 := by
        have h9 := hg 1 _ rfl
        have h8 : ((Value.agg ⟨[u0, u1, u2, u3, u4, u5, u6]⟩).cells.toList.drop 1).take (Tryd.prog.cellsOf 3) = [u1] := by rw [c3]; rfl
        rw [← h8]; exact h9
      have g2 : DataW.trod enc Tryd.prog w base spare held n 3 [u2] = some y2 := by
        have h9 := hg 2 _ rfl
        have h8 : ((Value.agg ⟨[u0, u1, u2, u3, u4, u5, u6]⟩).cells.toList.drop 2).take (Tryd.prog.cellsOf 3) = [u2] := by rw [c3]; rfl
        rw [← h8]; exact h9
      have g3 : DataW.trod enc Tryd.prog w base spare held n 3 [u3] = some y3 := by
        have h9 := hg 3 _ rfl
        have h8 : ((Value.agg ⟨[u0, u1, u2, u3, u4, u5, u6]⟩).cells.toList.drop 3).take (Tryd.prog.cellsOf 3) = [u3] := by rw [c3]; rfl
        rw [← h8]; exact h9
      have g4 : DataW.trod enc Tryd.prog w base spare held n 3 [u4] = some y4 := by
        have h9 := hg 4 _ rfl
        have h8 : ((Value.agg ⟨[u0, u1, u2, u3, u4, u5, u6]⟩).cells.toList.drop 4).take (Tryd.prog.cellsOf 3) = [u4] := by rw [c3]; rfl
        rw [← h8]; exact h9
      have g5 : DataW.trod enc Tryd.prog w base spare held n 3 [u5] = some y5 := by
        have h9 := hg 5 _ rfl
        have h8 : ((Value.agg ⟨[u0, u1, u2, u3, u4, u5, u6]⟩).cells.toList.drop 5).take (Tryd.prog.cellsOf 3) = [u5] := by rw [c3]; rfl
        rw [← h8]; exact h9
      have g6 : DataW.trod enc Tryd.prog w base spare held n 22 [u6] = some y6 := by
        have h9 := hg 6 _ rfl
        have h8 : ((Value.agg ⟨[u0, u1, u2, u3, u4, u5, u6]⟩).cells.toList.drop 6).take (Tryd.prog.cellsOf 22) = [u6] := by rw [c22]; rfl
        rw [← h8]; exact h9
      obtain ⟨a0, e0, _, w0⟩ := DataW.trod_int Tryd.underlying3 (show DataW.trod _ Tryd.prog w base _ held n 3 [u0] = some y0 from g0)
      obtain ⟨a1, e1, _, w1⟩ := DataW.trod_int Tryd.underlying3 (show DataW.trod _ Tryd.prog w base _ held n 3 [u1] = some y1 from g1)
      obtain ⟨a2, e2, _, w2⟩ := DataW.trod_int Tryd.underlying3 (show DataW.trod _ Tryd.prog w base _ held n 3 [u2] = some y2 from g2)
      obtain ⟨a3, e3, _, w3⟩ := DataW.trod_int Tryd.underlying3 (show DataW.trod _ Tryd.prog w base _ held n 3 [u3] = some y3 from g3)
      obtain ⟨a4, e4, _, w4⟩ := DataW.trod_int Tryd.underlying3 (show DataW.trod _ Tryd.prog w base _ held n 3 [u4] = some y4 from g4)
      obtain ⟨a5, e5, _, w5⟩ := DataW.trod_int Tryd.underlying3 (show DataW.trod _ Tryd.prog w base _ held n 3 [u5] = some y5 from g5)
      obtain ⟨A, c, lg, e6, hl, hR, hm, hw⟩ := open_twos Tryd.underlying22 Tryd.underlying57 ⟨rfl, rfl⟩ ⟨rfl, rfl⟩ (by kernel_rfl) (show DataW.trod _ Tryd.prog w base _ held n 22 [u6] = some y6 from g6)
      injection e0 with e0; injection e1 with e1; injection e2 with e2; injection e3 with e3; injection e4 with e4; injection e5 with e5; injection e6 with e6
      subst e0; subst e1; subst e2; subst e3; subst e4; subst e5; subst e6
      refine ⟨⟨a0, a1, a2, a3, a4, a5, lg⟩, A, c, rfl, hl, hR, hm, ?_, hw⟩
      intro z hz
      simp only [List.mem_cons, List.not_mem_nil, or_false] at hz
      rcases hz with rfl | rfl | rfl | rfl | rfl | rfl <;> assumption
set_option maxRecDepth 100000 in
theorem open_spans {r : Reach} {b0 : Nat} {v : Value} {d : DataW H} {pl : List MemPlace} (hv : Value.okWide Tryd.prog w r b0 25 v) (h : DataW.Trod enc Tryd.prog w base spare held 25 v d pl) :
    ∃ (A : Option Addr) (c : Nat) (xs : List (Int × Int)), v = .slice A xs.length c ∧ xs.length ≤ c ∧ Kd.C kSpan w A xs.length xs ∧ c ≤ maxLen ∧ ∀ x ∈ xs, (Lit.int .i64 x.1).wf = true ∧ (Lit.int .i64 x.2).wf = true := by
  obtain ⟨a, len, cap, rfl⟩ := okWide_slice Tryd.underlying25 hv
  obtain ⟨fuel, hf⟩ := h
  obtain ⟨A, c, xs, e, h2⟩ := open_twos Tryd.underlying25 Tryd.underlying42 ⟨rfl, rfl⟩ ⟨rfl, rfl⟩ (by kernel_rfl) (show DataW.trod _ Tryd.prog w base _ held fuel 25 [.slice a len cap] = some _ from hf)
  injection e with e
  exact ⟨A, c, xs, e, h2⟩
set_option maxRecDepth 100000 in
theorem open_list {r : Reach} {b0 : Nat} {v : Value} {d : DataW H} {pl : List MemPlace} (hv : Value.okWide Tryd.prog w r b0 26 v) (h : DataW.Trod enc Tryd.prog w base spare held 26 v d pl) :
    ∃ (A : Option Addr) (c : Nat) (xs : List Int), v = .slice A xs.length c ∧ xs.length ≤ c ∧ Kd.C kInt w A xs.length xs ∧ c ≤ maxLen ∧ ∀ x ∈ xs, (Lit.int .i64 x).wf = true := by
  obtain ⟨a, len, cap, rfl⟩ := okWide_slice Tryd.underlying26 hv
  obtain ⟨fuel, hf⟩ := h
  obtain ⟨A, c, xs, e, h2⟩ := open_row (show DataW.trod _ Tryd.prog w base _ held fuel 26 [.slice a len cap] = some _ from hf)
  injection e with e
  exact ⟨A, c, xs, e, h2⟩
set_option maxRecDepth 100000 in
theorem open_pair {r : Reach} {b0 : Nat} {v : Value} {d : DataW H} {pl : List MemPlace} (hv : Value.okWide Tryd.prog w r b0 49 v) (h : DataW.Trod enc Tryd.prog w base spare held 49 v d pl) :
    ∃ a b : Int, v = .agg #[.int .i64 a, .int .i64 b] ∧ (Lit.int .i64 a).wf = true ∧ (Lit.int .i64 b).wf = true := by
  have hC : Tryd.prog.cellsOf 49 = 2 := by kernel_rfl
  have c3 : Tryd.prog.cellsOf 3 = 1 := by kernel_rfl
  have hv' : ∃ cs, v = .agg cs ∧ cs.size = Tryd.prog.cellsOf 49 := by
    simp only [Value.okWide, Tryd.underlying49] at hv
    obtain ⟨cs, h1, h2, _⟩ := hv
    exact ⟨cs, h1, h2⟩
  obtain ⟨cs, rfl, hsz⟩ := hv'
  obtain ⟨l⟩ := cs
  match l, hsz.trans hC with
  | [u0, u1], _ =>
    obtain ⟨fuel, hf⟩ := h
    obtain ⟨xs, n, _, _, _, hlen, hg⟩ := DataW.trod_array Tryd.underlying49 hf
    match xs, hlen with
    | [y0, y1], _ =>
      have g0 := hg 0 (by omega)
      have g1 := hg 1 (by omega)
      rw [c3] at g0 g1
      obtain ⟨a, ea, _, wa⟩ := DataW.trod_int Tryd.underlying3 (show DataW.trod _ Tryd.prog w base _ held n 3 [u0] = some y0 from g0)
      obtain ⟨b, eb, _, wb⟩ := DataW.trod_int Tryd.underlying3 (show DataW.trod _ Tryd.prog w base _ held n 3 [u1] = some y1 from g1)
      injection ea with ea
      injection eb with eb
      subst ea; subst eb
      exact ⟨a, b, rfl, wa, wb⟩
end
end Go.Proofs.YtiidkekmklbobaaDoor
set_option linter.unusedVariables false
set_option linter.unusedSimpArgs false
namespace Go.Proofs.YtiidkekmklbobaaDoor
open Go.ChangeShapes Go.WideShapes Go.ChangeAt Go.RowKit
abbrev laid3 : List (String × DataW Unit) := [("math/bits.deBruijn32tab", Rows.laid_math_bits_deBruijn32tab), ("math/bits.deBruijn64tab", Rows.laid_math_bits_deBruijn64tab), ("internal/strconv.uint64pow10", Rows.laid_internal_strconv_uint64pow10)]
theorem own_none : ownKnob Tryd.prog.godebug = none := by kernel_rfl
theorem laid_out : laidOutB Tryd.prog = true := by kernel_rfl
theorem door_met (os : Os) (args : Array Value) : laidMetH Tryd.prog laid3 ((World.doorLaid Tryd.prog 400 os).forCall (fun _ _ => 0) ⟨#[], args, []⟩).memory :=
  laidMetH_of_parts3 (fuel := 8) (laidMet_of_run' 8 (by kernel_rfl) (by kernel_rfl)) (by kernel_rfl) (by kernel_rfl)
theorem tab_of_laid {W : World} (h : laidMetH Tryd.prog laid3 W) : Tab W := by
  rw [MakeChecks.laidMetH_plain _ _ _ (by kernel_rfl)] at h
  have h2 : laidMet Tryd.prog (("internal/strconv.uint64pow10", Lib.tabData .u64 Lib.pow10Tab) :: []) W := h.tail.tail
  exact Lib.tabIs_of_head (g := 0) (t := 165) (by kernel_rfl) (by kernel_rfl) Tryd.underlying165 (by kernel_rfl) (by kernel_rfl) (by kernel_rfl) h2
end Go.Proofs.YtiidkekmklbobaaDoor
