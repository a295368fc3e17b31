/- Contracts: asked, ends, Alive, contradictions, Refute. -/
import Derived.Test.YtiidkekmklbobaaDoorM1
import Derived.StillTail
import Derived.Deep.QuietTactic
import Derived.BigQuiet
import Derived.WalkKit
import Derived.Below
set_option linter.unusedVariables false
set_option linter.unusedSimpArgs false
namespace Go.Proofs.YtiidkekmklbobaaDoor
open Go.RowKit Go.Proofs.YtiidkekmklbobaaDoorW.PrintWords
attribute [local go_sem] mx_two mn_two blk_add
theorem cases_bad {p : Pil} {cs : List (List Int)} {i : Nat} (hi : i < cs.length) (h : caseB p (cs.getD i []) = false) : cs.all (caseB p) = false := by
  rw [List.all_eq_false]
  refine ⟨cs[i], List.getElem_mem hi, ?_⟩
  simpa [hi] using h
theorem cases_all {p : Pil} {cs : List (List Int)} (ha : ∀ i, i < cs.length → caseB p (cs.getD i []) = true) : cs.all (caseB p) = true := by
  rw [List.all_eq_true]
  intro x hx
  obtain ⟨i, hi, rfl⟩ := List.mem_iff_getElem.1 hx
  simpa [hi] using ha i hi
set_option maxRecDepth 100000 in
set_option maxHeartbeats 3200000 in
theorem asked_any (p : Pil) (A : Option Addr) (c : Nat) (A1 : Option Addr) (c1 : Nat) (ws : List (Int × Int)) (en : Int) (A2 : Option Addr) (c2 : Nat) (cs : List (List Int)) (w : World) (hA : Kd.C kSpan w A p.log.length p.log) (hw : Kd.C kSpan w A1 ws.length ws) (hl : Kd.C kCase w A2 cs.length cs) (hn : ws.length ≤ 9223372036854775807) (hm : cs.length ≤ 4611686018427387904) :
    Calls Tryd.prog 60 #[p.val A c, .slice A1 ws.length c1, .int .i64 en, .slice A2 cs.length c2] w fun e w' => e = .returned (.int .i64 (askedF p ws en cs)) ∧ Below w.heap.size w w' := by
  have hbox : Below w.heap.size w (w.alloc (boxP p A c 24)) := (Below.refl _ _).alloc (Nat.le_refl _) _
  have HA := Lib.hid (Kd.C_below hA hbox)
  have HW := Lib.hid (Kd.C_below hw hbox)
  have HL := Lib.hid (Kd.C_below hl hbox)
  clear hA hw hl
  cases hch : checkB p
  · have hF := Lib.hid (show askedF p ws en cs = 30 by simp [askedF, hch])
    have hE := Lib.hid (show checkF p = 30 by simp [checkF, hch])
    clear hm hn
    go_enter Tryd.func60, Tryd.ntmps60
    go_wp2_with (go_at_call 46; refine (rcheck_any p A c _ HA.out).mono ?_; rw [hE.out]; rintro e w1 ⟨rfl, hb⟩)
    go_ret
    exact ⟨ret_int hF.out.symm, hbox.trans (hb.mono (by simp))⟩
  · have hok := Lib.hid (ok_of_check hch)
    have hE := Lib.hid (show checkF p = 0 by simp [checkF, hch])
    have hL := hok.out.l
    cases hwe : weatherB p ws
    · have hF := Lib.hid (show askedF p ws en cs = 1 by simp [askedF, hch, hwe])
      have HN := Lib.hid hn
      clear hm hn hch
      go_enter Tryd.func60, Tryd.ntmps60
      go_wp2_with (first | (go_at_call 46; refine (rcheck_any p A c _ HA.out).mono ?_; rw [hE.out]; rintro e w1 ⟨rfl, hb⟩; obtain ⟨hc, hf⟩ := bcell hb) | (go_at_call 95; refine (weather_any p A c A1 _ ws _ hL (Kd.C_below HW.out hb) HN.out).mono ?_; rintro e w2 ⟨rfl, hb2⟩))
      go_ret
      exact ⟨ret_int hF.out.symm, (hbox.trans (hb.mono (by simp))).trans (hb2.mono (by have := hb.size; simp at this; omega))⟩
    · have HN := Lib.hid hn
      have CH := Lib.hid hch
      have CW := Lib.hid hwe
      clear hn hch
      go_enter Tryd.func60, Tryd.ntmps60
      go_wp2_with (first | (go_at_call 46; refine (rcheck_any p A c _ HA.out).mono ?_; rw [hE.out]; rintro e w1 ⟨rfl, hb⟩; obtain ⟨hc, hf⟩ := bcell hb) | (go_at_call 95; refine (weather_any p A c A1 _ ws _ hL (Kd.C_below HW.out hb) HN.out).mono ?_; rintro e w2 ⟨rfl, hb2⟩; obtain ⟨hc2, hf2⟩ := bcell hb2))
      have hq : Below (w.heap.size + 1) (w.alloc (boxP p A c 24)) w2 := (hb.mono (by simp)).trans (hb2.mono (by have := hb.size; simp at this; omega))
      clear hc hf hc2 hf2 hwe
      go_loopw [9] (fun vi wr => ∃ k : Nat, k ≤ cs.length ∧ vi = .int .i64 k ∧ Below (w.heap.size + 1) (w.alloc (boxP p A c 24)) wr ∧ Hid (∀ i, i < k → caseB p (cs.getD i []) = true))
        (fun vi _ => cs.length - (intOf vi).toNat)
      case atStart => exact ⟨0, Nat.zero_le _, rfl, hq, fun i h => absurd h (by omega)⟩
      case round =>
        obtain ⟨k, hk, rfl, hbr, hall⟩ := hrel
        have hwr : Below w.heap.size w wr := hbox.trans (hbr.mono (by omega))
        have hz : w.heap.size + 1 ≤ wr.heap.size := by have := hbr.size; simpa using this
        have hz0 : w.heap.size < wr.heap.size := hz
        obtain ⟨hc, hf⟩ := bcell1 hbr
        have hAr := Lib.hid (Kd.C_below HA.out (hbr.mono (by simp)))
        by_cases hlt : k < cs.length
        · obtain ⟨ad, A0, c0, rfl, a1, a2, a3⟩ := at_case (Kd.C_below HL.out (hbr.mono (by simp))) k hlt
          have A3 := Lib.hid a3
          clear a3
          have l0 := World.block_lt_of_cell? wr _ a1
          rw [blk_add] at l0
          have hT : ∀ w2, Below wr.heap.size wr w2 → w2.cell? (ad.add k) = some (.slice A0 (cs.getD k []).length c0) ∧ w2.cell? ⟨w.heap.size, 0, none⟩ = some (.int .i64 p.no) ∧ w2.cell? ⟨w.heap.size, 1, none⟩ = some (.int .i64 p.cell) ∧ w2.cell? ⟨w.heap.size, 2, none⟩ = some (.int .i64 p.noise) ∧ w2.cell? ⟨w.heap.size, 3, none⟩ = some (.int .i64 p.slab) ∧ w2.cell? ⟨w.heap.size, 4, none⟩ = some (.int .i64 p.jump) ∧ w2.cell? ⟨w.heap.size, 5, none⟩ = some (.int .i64 p.faults) ∧ w2.cell? ⟨w.heap.size, 6, none⟩ = some (.slice A p.log.length c) := fun w2 hb2 => by
            refine ⟨pw_cell_below hb2 a1, ?_, ?_, ?_, ?_, ?_, ?_, ?_⟩ <;> (refine pw_cell_below hb2 ?_; rw [hc _ _ (by omega)]; simp)
          cases hcb : caseB p (cs.getD k [])
          · have hF := Lib.hid (show askedF p ws en cs = 31 by simp only [askedF, CH.out, CW.out, cases_bad hlt hcb]; rfl)
            have HR := Lib.hid (right_any p A c A0 c0 (cs.getD k []) wr.drew hok.out hAr.out A3.out)
            have HC := Lib.hid hcb
            clear hcb a2
            generalize cs.getD k [] = l at *
            go_wp2
            go_region_held3 (fun w2 => w2.cell? (ad.add k) = some (.slice A0 l.length c0) ∧ w2.cell? ⟨w.heap.size, 0, none⟩ = some (.int .i64 p.no) ∧ w2.cell? ⟨w.heap.size, 1, none⟩ = some (.int .i64 p.cell) ∧ w2.cell? ⟨w.heap.size, 2, none⟩ = some (.int .i64 p.noise) ∧ w2.cell? ⟨w.heap.size, 3, none⟩ = some (.int .i64 p.slab) ∧ w2.cell? ⟨w.heap.size, 4, none⟩ = some (.int .i64 p.jump) ∧ w2.cell? ⟨w.heap.size, 5, none⟩ = some (.int .i64 p.faults) ∧ w2.cell? ⟨w.heap.size, 6, none⟩ = some (.slice A p.log.length c)) (first | go_keep | exact hT _ hb1) (first | (go_at_call 78; refine HR.out.mono ?_; rw [HC.out]; rintro e w1 ⟨rfl, hb1⟩; have hb1 : Below wr.heap.size wr w1 := ⟨hb1.os, hb1.tape, hb1.output, hb1.size, hb1.block⟩))
            go_wp2
            go_ret
            exact ⟨ret_int hF.out.symm, hwr.trans (hb1.mono (by omega))⟩
          · have HR := Lib.hid (right_any p A c A0 c0 (cs.getD k []) wr.drew hok.out hAr.out A3.out)
            have HCC : Hid (∀ i, i = k → caseB p (cs.getD i []) = true) := fun i hi => hi ▸ hcb
            have HC := Lib.hid hcb
            clear hcb a2
            generalize cs.getD k [] = l at *
            go_wp2
            go_region_held3 (fun w2 => w2.cell? (ad.add k) = some (.slice A0 l.length c0) ∧ w2.cell? ⟨w.heap.size, 0, none⟩ = some (.int .i64 p.no) ∧ w2.cell? ⟨w.heap.size, 1, none⟩ = some (.int .i64 p.cell) ∧ w2.cell? ⟨w.heap.size, 2, none⟩ = some (.int .i64 p.noise) ∧ w2.cell? ⟨w.heap.size, 3, none⟩ = some (.int .i64 p.slab) ∧ w2.cell? ⟨w.heap.size, 4, none⟩ = some (.int .i64 p.jump) ∧ w2.cell? ⟨w.heap.size, 5, none⟩ = some (.int .i64 p.faults) ∧ w2.cell? ⟨w.heap.size, 6, none⟩ = some (.slice A p.log.length c)) (first | go_keep | exact hT _ hb1) (first | (go_at_call 78; refine HR.out.mono ?_; rw [HC.out]; rintro e w1 ⟨rfl, hb1⟩; have hb1 : Below wr.heap.size wr w1 := ⟨hb1.os, hb1.tape, hb1.output, hb1.size, hb1.block⟩))
            go_wp2
            go_roundw
            case rel => exact ⟨k + 1, by omega, by go_num, hbr.trans (hb1.mono (by omega)), fun i hi => by
              rcases Nat.lt_or_ge i k with h | h
              · exact hall.out i h
              · exact HCC.out i (by omega)⟩
            case measure => simp [intOf]; omega
        · obtain rfl : k = cs.length := by omega
          have iw : IntKind.i64.wrap ((p.log.length : Int) - 1) = (p.log.length : Int) - 1 := IntWalk.i64_in _ (by omega)
          cases hwi : within en (-1) ((p.log.length : Int) - 1)
          · have hF := Lib.hid (show askedF p ws en cs = 1 by simp only [askedF, CH.out, CW.out, cases_all hall.out, hwi]; rfl)
            go_wp2_with (go_at_call 74; refine (within_any _ _ _ _).mono ?_; rintro e w1 ⟨rfl, rfl⟩)
            go_ret
            exact ⟨ret_int hF.out.symm, hwr⟩
          · have hF := Lib.hid (show askedF p ws en cs = 0 by simp only [askedF, CH.out, CW.out, cases_all hall.out, hwi]; rfl)
            go_wp2_with (go_at_call 74; refine (within_any _ _ _ _).mono ?_; rintro e w1 ⟨rfl, rfl⟩)
            go_ret
            exact ⟨ret_int hF.out.symm, hwr⟩
end Go.Proofs.YtiidkekmklbobaaDoor
set_option linter.unusedVariables false
set_option linter.unusedSimpArgs false
namespace Go.Proofs.YtiidkekmklbobaaDoor
open Go.RowKit Go.Proofs.YtiidkekmklbobaaDoorW.PrintWords
attribute [local go_sem] mx_two mn_two blk_add
/-! ## Pure: the ends of a case -/
def meetF (x y : Int × Int) : Int × Int := (max x.1 y.1, min x.2 y.2)
def fwd (p : Pil) (ws : List (Int × Int)) (l : List Int) : Nat → Int × Int
  | 0 => loadsF p 0 (at0 l 0)
  | i + 1 => meetF (loadsF p (i + 1) (at0 l (i + 1))) ((fwd p ws l i).1 + (sp ws i).1, (fwd p ws l i).2 + (sp ws i).2)
def fwdOk (p : Pil) (ws : List (Int × Int)) (l : List Int) (i : Nat) : Bool := decide ((fwd p ws l i).1 ≤ (fwd p ws l i).2)
/-- From the end: d steps ahead of the last entry (n entries). -/
def bwdR (p : Pil) (ws : List (Int × Int)) (l : List Int) (n : Nat) : Nat → Int × Int
  | 0 => fwd p ws l (n - 1)
  | d + 1 => meetF (fwd p ws l (n - 2 - d)) ((bwdR p ws l n d).1 - (sp ws (n - 2 - d)).2, (bwdR p ws l n d).2 - (sp ws (n - 2 - d)).1)
def bwd (p : Pil) (ws : List (Int × Int)) (l : List Int) (i : Nat) : Int × Int := bwdR p ws l l.length (l.length - 1 - i)
def aliveF (p : Pil) (ws : List (Int × Int)) (l : List Int) : Bool := (List.range l.length).all (fwdOk p ws l)
def endsF (p : Pil) (ws : List (Int × Int)) (l : List Int) : List (Int × Int) := if aliveF p ws l then (List.range l.length).map (bwd p ws l) else []
theorem bwd_last (p : Pil) (ws : List (Int × Int)) (l : List Int) (i : Nat) (h : i + 1 = l.length) : bwd p ws l i = fwd p ws l i := by
  unfold bwd
  rw [show l.length - 1 - i = 0 by omega]
  show fwd p ws l (l.length - 1) = _
  rw [show l.length - 1 = i by omega]
theorem bwd_step (p : Pil) (ws : List (Int × Int)) (l : List Int) (i : Nat) (h : i + 1 < l.length) :
    bwd p ws l i = meetF (fwd p ws l i) ((bwd p ws l (i + 1)).1 - (sp ws i).2, (bwd p ws l (i + 1)).2 - (sp ws i).1) := by
  unfold bwd
  rw [show l.length - 1 - i = (l.length - 1 - (i + 1)) + 1 by omega]
  show meetF _ _ = _
  rw [show l.length - 2 - (l.length - 1 - (i + 1)) = i by omega]
theorem loads_bd (p : Pil) (hp : Ok p) (i : Nat) (st : Int) : 0 ≤ (loadsF p i st).1 ∧ (loadsF p i st).1 ≤ 65536 ∧ 0 ≤ (loadsF p i st).2 ∧ (loadsF p i st).2 ≤ 65536 := by
  have := hp.w i
  have h1 := hp.n0
  have h2 := hp.n1
  have h3 := hp.s0
  have h4 := hp.s1
  change 0 ≤ p.wt i ∧ p.wt i ≤ 65536 at this
  unfold loadsF
  split
  · dsimp only; omega
  · split
    · dsimp only; omega
    · decide
/-- A nonempty forward span lies within the loads. -/
theorem fwd_bd (p : Pil) (ws : List (Int × Int)) (l : List Int) (hp : Ok p) (i : Nat) (h : fwdOk p ws l i = true) : 0 ≤ (fwd p ws l i).1 ∧ (fwd p ws l i).1 ≤ (fwd p ws l i).2 ∧ (fwd p ws l i).2 ≤ 65536 := by
  have hle : (fwd p ws l i).1 ≤ (fwd p ws l i).2 := by simpa [fwdOk] using h
  cases i with
  | zero =>
    have := loads_bd p hp 0 (at0 l 0)
    exact ⟨this.1, hle, this.2.2.2⟩
  | succ i =>
    have := loads_bd p hp (i + 1) (at0 l (i + 1))
    refine ⟨?_, hle, ?_⟩
    · show 0 ≤ max _ _
      omega
    · show min _ _ ≤ _
      omega
theorem bwd_bd (p : Pil) (ws : List (Int × Int)) (l : List Int) (hp : Ok p) (hw : weatherB p ws = true) (ha : ∀ i, i < l.length → fwdOk p ws l i = true) (hl : l.length ≤ 32) :
    ∀ d i, i + 1 + d = l.length → 0 ≤ (bwd p ws l i).1 ∧ (bwd p ws l i).1 ≤ 65536 * (d + 1) ∧ -(65536 * (d + 1)) ≤ (bwd p ws l i).2 ∧ (bwd p ws l i).2 ≤ 65536 := by
  intro d
  induction d with
  | zero =>
    intro i hi
    rw [bwd_last p ws l i (by omega)]
    have := fwd_bd p ws l hp i (ha i (by omega))
    omega
  | succ d ih =>
    intro i hi
    have := fwd_bd p ws l hp i (ha i (by omega))
    have h2 := ih (i + 1) (by omega)
    have h3 := weather_at hw i
    rw [bwd_step p ws l i (by omega)]
    unfold meetF
    dsimp only
    omega
theorem bwd_small (p : Pil) (ws : List (Int × Int)) (l : List Int) (hp : Ok p) (hw : weatherB p ws = true) (ha : ∀ i, i < l.length → fwdOk p ws l i = true) (hl : l.length ≤ 32) (i : Nat) (hi : i < l.length) : small (bwd p ws l i).1 ∧ small (bwd p ws l i).2 := by
  have := bwd_bd p ws l hp hw ha hl (l.length - 1 - i) i (by omega)
  unfold small
  omega
/-! ## Rows of spans that are known whole -/
def sc : List (Int × Int) → List Value
  | [] => []
  | x :: xs => .int .i64 x.1 :: .int .i64 x.2 :: sc xs
theorem sc_length (xs : List (Int × Int)) : (sc xs).length = xs.length * 2 := by
  induction xs with
  | nil => rfl
  | cons x xs ih => simp only [sc, List.length_cons, ih]; omega
theorem sc_get (xs : List (Int × Int)) (i : Nat) (h : i < xs.length) : (sc xs)[i * 2]? = some (.int .i64 (xs.getD i (0, 0)).1) ∧ (sc xs)[i * 2 + 1]? = some (.int .i64 (xs.getD i (0, 0)).2) := by
  induction xs generalizing i with
  | nil => exact absurd h (by simp)
  | cons x xs ih =>
    cases i with
    | zero => simp [sc]
    | succ i =>
      have := ih i (by simpa using h)
      rw [show (i + 1) * 2 = i * 2 + 1 + 1 by omega]
      simp only [sc, List.getElem?_cons_succ, List.getD_cons_succ]
      exact this
theorem sc_set (xs : List (Int × Int)) (i : Nat) (a b : Int) : sc (xs.set i (a, b)) = ((sc xs).set (i * 2) (.int .i64 a)).set (i * 2 + 1) (.int .i64 b) := by
  induction xs generalizing i with
  | nil => simp [sc]
  | cons x xs ih =>
    cases i with
    | zero => simp [sc]
    | succ i =>
      rw [show (i + 1) * 2 = i * 2 + 1 + 1 by omega]
      simp only [sc, List.set_cons_succ, ih]
def Blk (w : World) (g : Nat) (t : TypeId) (cs : List Value) : Prop := w.heap[g]? = some (.cells cs.toArray t (0, 0))
theorem Blk.lt {w : World} {g : Nat} {t : TypeId} {cs : List Value} (h : Blk w g t cs) : g < w.heap.size := by
  rcases Nat.lt_or_ge g w.heap.size with hlt | hge
  · exact hlt
  · unfold Blk at h; rw [Array.getElem?_eq_none hge] at h; cases h
theorem Blk.cell {w : World} {g : Nat} {t : TypeId} {cs : List Value} (h : Blk w g t cs) (i : Nat) : w.cell? ⟨g, i, none⟩ = cs[i]? := by
  rw [cell_of_row w g i cs.toArray t (0, 0) h]; simp
theorem Blk.frozen {w : World} {g : Nat} {t : TypeId} {cs : List Value} (h : Blk w g t cs) (i : Nat) : w.frozen? ⟨g, i, none⟩ = false := by
  unfold Blk at h
  simp [World.frozen?, h]
theorem Blk.below {w w' : World} {g : Nat} {t : TypeId} {cs : List Value} (h : Blk w g t cs) (hb : Below w.heap.size w w') : Blk w' g t cs := (hb.block g h.lt).trans h
theorem Blk.set_ {w : World} {g : Nat} {t : TypeId} {cs : List Value} (h : Blk w g t cs) (i : Nat) (u : Value) : Blk (w.setCell ⟨g, i, none⟩ u) g t (cs.set i u) := by
  unfold Blk at h ⊢
  simp [World.setCell, Array.getElem?_modify, h]
theorem Blk.new (w : World) (t : TypeId) (cs : List Value) : Blk (w.alloc (.cells cs.toArray t)) w.heap.size t cs := heap_alloc_new w _
theorem Blk.set2 {w : World} {g : Nat} {t : TypeId} {xs : List (Int × Int)} (h : Blk w g t (sc xs)) (i : Nat) (a b : Int) : Blk ((w.setCell ⟨g, i * 2, none⟩ (.int .i64 a)).setCell ⟨g, i * 2 + 1, none⟩ (.int .i64 b)) g t (sc (xs.set i (a, b))) := by
  rw [sc_set]
  exact (h.set_ _ _).set_ _ _
theorem Blk.reads {w : World} {g : Nat} {t : TypeId} {xs : List (Int × Int)} (h : Blk w g t (sc xs)) (hl : xs.length ≤ 9223372036854775807) : Kd.C kSpan w (some ⟨g, 0, none⟩) xs.length xs := by
  refine ⟨rfl, hl, fun _ => ⟨_, rfl, fun j p hj => ?_⟩⟩
  obtain ⟨hlt, rfl⟩ := List.getElem?_eq_some_iff.1 hj
  refine ⟨[.int .i64 xs[j].1, .int .i64 xs[j].2], rfl, ⟨[_], [_], rfl, rfl, rfl⟩, fun i u hu => ?_⟩
  have e2 : kSpan.sz = 2 := rfl
  obtain ⟨g1, g2⟩ := sc_get xs j hlt
  simp only [List.getD_eq_getElem?_getD, List.getElem?_eq_getElem hlt, Option.getD_some] at g1 g2
  rw [e2, add_plain, h.cell]
  match i, hu with
  | 0, hu => rw [← hu]; exact g1
  | 1, hu => rw [← hu]; exact g2
theorem info42 : (Tryd.prog.info? 42).map (fun i => (i.zero, i.size, i.bytes)) = some (some (.agg #[(.int .i64 0), (.int .i64 0)]), 2, 16) := by kernel_rfl
theorem made_spans (n : Nat) : madeCells (Value.agg #[.int .i64 0, .int .i64 0]).cells (n * 2) = (sc (List.replicate n (0, 0))).toArray := by
  apply Array.ext'
  apply List.ext_getElem?
  intro i
  simp only [List.toList_toArray]
  rcases Nat.lt_or_ge i (n * 2) with h | h
  · have hs : i < (madeCells (Value.agg #[.int .i64 0, .int .i64 0]).cells (n * 2)).toList.length := by simpa [size_madeCells] using h
    rw [List.getElem?_eq_getElem hs]
    obtain ⟨g1, g2⟩ := sc_get (List.replicate n (0, 0)) (i / 2) (by simp; omega)
    have hz : (List.replicate n ((0 : Int), (0 : Int))).getD (i / 2) (0, 0) = (0, 0) := by simp [List.getElem?_replicate, show i / 2 < n by omega]
    rw [hz] at g1 g2
    have hv : (madeCells (Value.agg #[.int .i64 0, .int .i64 0]).cells (n * 2)).toList[i] = .int .i64 0 := by
      simp only [madeCells, Array.getElem_toList, Array.getElem_map, Array.getElem_range]
      obtain h2 | h2 : i % 2 = 0 ∨ i % 2 = 1 := by omega
      · simp [Value.cells, h2]
      · simp [Value.cells, h2]
    rw [hv]
    obtain h2 | h2 : i = i / 2 * 2 ∨ i = i / 2 * 2 + 1 := by omega
    · rw [h2]; exact g1.symm
    · rw [h2]; exact g2.symm
  · rw [List.getElem?_eq_none (by simpa [size_madeCells] using h), List.getElem?_eq_none (by rw [sc_length]; simpa using h)]
theorem mk_spans (n : Nat) (hn : n ≤ 1000000) (W : World) : (Instr.makeSlice 25 (.int .i64 (n : Int)) (.int .i64 (n : Int))).run Tryd.prog W = .ok (.slice (some ⟨W.heap.size, 0, none⟩) n n) (W.alloc (.cells (sc (List.replicate n (0, 0))).toArray 42)) := by
  obtain ⟨i0, hi, hz0, hz1, hz2⟩ := info_parts info42
  have := run_make (P := Tryd.prog) W 25 42 i0 _ Tryd.underlying25 hi hz0 .i64 .i64 (n : Int) (n : Int) (by omega) (by omega) (by rw [hz2]; omega) (by omega)
  rw [this]
  simp only [Int.toNat_natCast, hz1]
  rw [made_spans]
def rowB (n k : Nat) (f g : Nat → Int × Int) : List (Int × Int) := (List.range n).map fun j => if j < k then f j else g j
theorem rowB_len (n k : Nat) (f g : Nat → Int × Int) : (rowB n k f g).length = n := by simp [rowB]
theorem rowB_get (n k : Nat) (f g : Nat → Int × Int) (i : Nat) (h : i < n) : (rowB n k f g).getD i (0, 0) = if i < k then f i else g i := by
  simp [rowB, h]
theorem rowB_up (n k : Nat) (f g : Nat → Int × Int) (h : k < n) : (rowB n k f g).set k (f k) = rowB n (k + 1) f g := by
  apply List.ext_getElem
  · simp [rowB]
  · intro i h1 h2
    simp only [rowB, List.getElem_set, List.getElem_map, List.getElem_range]
    split
    · next e => subst e; simp
    · next e =>
      by_cases hi : i < k
      · rw [if_pos hi, if_pos (by omega)]
      · rw [if_neg hi, if_neg (by omega)]
theorem rowB_down (n k : Nat) (f g : Nat → Int × Int) (h : k < n) : (rowB n (k + 1) f g).set k (g k) = rowB n k f g := by
  apply List.ext_getElem
  · simp [rowB]
  · intro i h1 h2
    simp only [rowB, List.getElem_set, List.getElem_map, List.getElem_range]
    split
    · next e => subst e; simp
    · next e =>
      by_cases hi : i < k
      · rw [if_pos hi, if_pos (by omega)]
      · rw [if_neg hi, if_neg (by omega)]
theorem rowB_none (n : Nat) (f g : Nat → Int × Int) : rowB n 0 f g = (List.range n).map g := by simp [rowB]
end Go.Proofs.YtiidkekmklbobaaDoor
set_option linter.unusedVariables false
set_option linter.unusedSimpArgs false
namespace Go.Proofs.YtiidkekmklbobaaDoor
open Go.RowKit
/-! ## A region that draws its order: all but its tail reads, or calls what only makes memory -/
section
variable {P : Program} {ops : Array Oper} {md : Region.Mode} {C : World → Prop}
/-- The head's operations come up, in whatever order; then L. -/
def headAny (P : Program) (md : Region.Mode) (ops : Array Oper) (C : World → Prop) (n : Nat) (L : Array Bool → Act → Prop) : Nat → Array Bool → Act → Prop
  | 0, listed, a => L listed a
  | f + 1, listed, a => Region.ready md ops listed ≠ [] ∧ ∀ i ∈ Region.ready md ops listed, i < n ∧ qOp P ops C i (headAny P md ops C n L f (listed.setIfInBounds i true)) a

theorem any_of_head {n g : Nat} {L : Array Bool → Act → Prop} {Q : Exit → Act → World → Prop} (hL : ∀ listed a w, C w → L listed a → wpAny P md ops Q g listed a w) :
    ∀ (f : Nat) (listed : Array Bool) (a : Act) (w : World), C w → headAny P md ops C n L f listed a → wpAny P md ops Q (f + g) listed a w := by
  intro f
  induction f with
  | zero => intro listed a w hC h; rw [Nat.zero_add]; exact hL _ _ _ hC h
  | succ f ih =>
    intro listed a w hC h
    rw [show f + 1 + g = (f + g) + 1 by omega]
    exact ⟨fun h0 => absurd h0 h.1, fun i hi => wpOp_of_qOp hC (fun a' w' hC' h' => ih _ a' w' hC' h') (h.2 i hi).2⟩

theorem not_yet {listed : Array Bool} {j i : Nat} {oj : Oper} (hoj : ops[j]? = some oj) (hall : ∀ e ∈ oj.after, Region.binds md e = true → listed.getD e.on false = true) (hun : listed.getD i false = false) :
    ∀ e ∈ oj.after, Region.binds md e = true → e.on ≠ i := fun e he hb heq => by
  have := hall e he hb
  rw [heq, hun] at this
  cases this

/-- What may come up may be taken first. -/
theorem head_first {n i : Nat} {oi : Oper} {v : Value} {L : Array Bool → Act → Prop} (hi : ops[i]? = some oi) (hsel : ∀ (j : Nat) (o : Oper) cs b, ops[j]? = some o → o.op ≠ .select cs b)
    (hs : Region.sinkB md ops n = true) (hc : Region.chainB md ops n = true) (hn : n < ops.size) (hin : i < n) (hdone : ∀ listed a, L listed a → ∀ j ∈ Region.ready md ops listed, n ≤ j) :
    ∀ (f : Nat) (listed : Array Bool) (a : Act), HeadInv md ops n listed →
      (∀ j oj, ops[j]? = some oj → j ≠ i → listed.getD j true = false → (∀ e ∈ oj.after, Region.binds md e = true → e.on ≠ i) → oi.apart ops oj = true) →
      i ∈ Region.ready md ops listed → YieldsIn P ops C oi v a →
      headAny P md ops C n L f (listed.setIfInBounds i true) (a.put oi.dst v) → headAny P md ops C n L (f + 1) listed a := by
  intro f
  induction f with
  | zero =>
    intro listed a inv hfree hr hy H
    refine ⟨List.ne_nil_of_mem hr, fun j hj => ?_⟩
    have hun := (mem_ready.1 hr).1
    have hjn : j < n := Nat.lt_of_not_le fun h => tail_waits hs hc hn inv _ i rfl hin hun j h hj
    refine ⟨hjn, ?_⟩
    by_cases hji : j = i
    · subst hji; exact hy.qOp hi H
    · exact absurd (hdone _ _ H j (ready_mono hj hji)) (by omega)
  | succ f ih =>
    intro listed a inv hfree hr hy H
    refine ⟨List.ne_nil_of_mem hr, fun j hj => ?_⟩
    have hun := (mem_ready.1 hr).1
    have hjn : j < n := Nat.lt_of_not_le fun h => tail_waits hs hc hn inv _ i rfl hin hun j h hj
    refine ⟨hjn, ?_⟩
    by_cases hji : j = i
    · subst hji; exact hy.qOp hi H
    · obtain ⟨hjun, oj, hoj, hall⟩ := mem_ready.1 hj
      have h2 := qOp_put hoj (hfree j oj hoj hji hjun (not_yet hoj hall (getD_both hun))) (fun cs b => hsel i oi cs b hi) (fun cs b => hsel j oj cs b hoj) hy (H.2 j (ready_mono hj hji)).2
      refine qOp_mono (fun a' h3 => ih _ a' (inv.set hj hjn) (fun k ok hk hki hu hno => hfree k ok hk hki ?_ hno) (ready_mono hr (Ne.symm hji)) h3.1 ?_) h2
      · by_cases hjk : j = k
        · subst hjk; exact hjun
        · rwa [getD_set_ne true hjk] at hu
      · rw [Array.setIfInBounds_comm _ _ hji]
        exact h3.2

theorem head_text {n g : Nat} {Lq : Act → Prop} (hsel : Region.noSelect ops = true) (hs : Region.sinkB md ops n = true) (hc : Region.chainB md ops n = true) (hn : n < ops.size) :
    ∀ (l : List Oper) (k : Nat) (listed : Array Bool) (a : Act), (∀ j, j < l.length → l[j]? = ops[k + j]?) → k + l.length = n → HeadInv md ops n listed →
    Region.lexHead md ops g l.length k listed = true → wpQuiet P ops C Lq l a →
    headAny P md ops C n (fun listed' a' => Region.seqB md ops g n listed' = true ∧ Lq a') l.length listed a := by
  intro l
  induction l with
  | nil =>
    intro k listed a _ hk _ hB h
    obtain rfl : k = n := by simpa using hk
    exact ⟨by simpa [Region.lexHead] using hB, h⟩
  | cons o l ih =>
    intro k listed a hl hk inv hB h
    have h0 : ops[k]? = some o := by simpa using (hl 0 (by simp)).symm
    simp only [List.length_cons, Region.lexHead, Bool.and_eq_true] at hB
    have hkn : k < n := by simp only [List.length_cons] at hk; omega
    have hr : k ∈ Region.ready md ops listed := by simpa using hB.1.1
    have hst : qOp P ops C k (wpQuiet P ops C Lq l) a := by unfold qOp; simp only [h0]; exact h
    obtain ⟨v, hy, hK⟩ := yieldsIn_of_qOp h0 hst
    refine head_first h0 (Region.noSelect_spec hsel) hs hc hn hkn (fun _ _ hL => seqB_ready hL.1) l.length listed a inv (Region.free_spec h0 hB.1.2) hr hy ?_
    refine ih (k + 1) _ _ (fun j hj => ?_) (by simp only [List.length_cons] at hk; omega) (inv.set hr hkn) hB.2 hK
    have := hl (j + 1) (by simp; omega)
    simpa [Nat.add_assoc, Nat.add_comm 1 j] using this

/-- One walk of the head in the text's order, in a class of worlds; then the tail, from whatever world of the class. -/
theorem wp_region_tail {id : Nat} {Q : Exit → Act → World → Prop} {a : Act} {w : World} {l : List Oper} (n : Nat) (C : World → Prop) (hm : P.follows .mixedOrders = true) (hB : Region.lexTailB .any l.toArray n = true)
    (hC : C w.drew) (h : wpQuiet P l.toArray C (fun a' => ∀ w', C w' → wpList P l.toArray Q (l.drop n) a' w') (l.take n) a) : (Code.region id l.toArray true).wp P Q a w := by
  simp only [Region.lexTailB, Bool.and_eq_true, decide_eq_true_eq] at hB
  obtain ⟨⟨⟨⟨hsel, hn⟩, hs⟩, hc⟩, hlex⟩ := hB
  have hn' : n < l.length := by simpa using hn
  have htl : (l.take n).length = n := by simp; omega
  have hdl : (l.drop n).length = l.toArray.size - n := by simp
  have inv0 : HeadInv .any l.toArray n (Array.replicate l.toArray.size false) :=
    ⟨by simp, fun j oj _ hl => (by rw [getD_replicate_false] at hl; cases hl), fun t _ ht => getD_in (by simpa using ht) (getD_replicate_false _ _)⟩
  have H := head_text (md := .any) (g := l.toArray.size - n) hsel hs hc hn (l.take n) 0 _ a (fun j hj => by simp [show j < n by omega]) (by simpa using htl) inv0 (by rw [htl]; exact hlex) h
  refine wp_region_any hm ?_
  have := any_of_head (Q := Q) (g := l.toArray.size - n) (fun listed a' w' hC' hL => by
    have := wpAny_of_seq (md := .any) (Q' := Q) (l.drop n) n listed a' w' (fun j => by simp [List.getElem?_drop]) (by rw [hdl]; exact hL.1) (hL.2 w' hC')
    rwa [hdl] at this) _ _ _ _ hC H
  rw [htl, show n + (l.toArray.size - n) = l.toArray.size by omega] at this
  exact this
end
end Go.Proofs.YtiidkekmklbobaaDoor
set_option linter.unusedVariables false
set_option linter.unusedSimpArgs false
namespace Go.Proofs.YtiidkekmklbobaaDoor
open Go.RowKit Go.Proofs.YtiidkekmklbobaaDoorW.PrintWords
attribute [local go_sem] mx_two mn_two blk_add
theorem less_exact {P : Program} {f : FuncId} {args : Array Value} {B : Nat} {w w3 : World} {v : Value} (_ : True) (h : Calls P f args w3 fun e w' => e = .returned v ∧ Below w3.heap.size w3 w') (hb : Below B w w3) (hB : B ≤ w3.heap.size) : Calls P f args w3 fun e w' => e = .returned v ∧ Below B w w' :=
  h.mono fun _ _ hh => ⟨hh.1, hb.trans (hh.2.mono hB)⟩
theorem loads_at (p : Pil) (A : Option Addr) (c i : Nat) (st : Int) (w : World) (hp : Ok p) (hA : Kd.C kSpan w A p.log.length p.log) (hi : i < p.log.length) (x : Int × Int) (hx : loadsF p i st = x) :
    Calls Tryd.prog 72 #[p.val A c, .int .i64 i, .int .i64 st] w fun e w' => e = .returned (spv x.1 x.2) ∧ Below w.heap.size w w' := by
  subst hx; exact loads_any p A c i st w hp hA hi
set_option maxRecDepth 100000 in
set_option maxHeartbeats 3200000 in
theorem ends_any (p : Pil) (A : Option Addr) (c : Nat) (A1 : Option Addr) (c1 : Nat) (ws : List (Int × Int)) (A2 : Option Addr) (c2 : Nat) (l : List Int) (w : World) (hp : Ok p) (hwe : weatherB p ws = true) (hca : caseB p l = true) (hA : Kd.C kSpan w A p.log.length p.log) (hw : Kd.C kSpan w A1 ws.length ws) (hl : Kd.C kInt w A2 l.length l) :
    Calls Tryd.prog 63 #[storyv p A c A1 ws.length c1, .slice A2 l.length c2] w fun e w' => ∃ A' c', e = .returned (.tuple #[.slice A' (endsF p ws l).length c', .bool (aliveF p ws l)]) ∧ Kd.C kSpan w' A' (endsF p ws l).length (endsF p ws l) ∧ (endsF p ws l).length ≤ c' ∧ Below w.heap.size w w' := by
  have hlen : l.length = p.log.length := by
    simp only [caseB, Bool.and_eq_true, beq_iff_eq] at hca
    exact hca.1
  have hwl : ws.length = p.log.length - 1 := by
    simp only [weatherB, Bool.and_eq_true, beq_iff_eq] at hwe
    exact hwe.1
  have hL := hp.l
  have hbox : Below w.heap.size w (w.alloc (.cells #[.int .i64 p.no, .int .i64 p.cell, .int .i64 p.noise, .int .i64 p.slab, .int .i64 p.jump, .int .i64 p.faults, .slice A p.log.length c, .slice A1 ws.length c1] 87)) := (Below.refl _ _).alloc (Nat.le_refl _) _
  have HA := Lib.hid hA
  have HW := Lib.hid hw
  have HL := Lib.hid hl
  have HP := Lib.hid hp
  have HCA := Lib.hid hca
  have HWE := Lib.hid hwe
  have HN := Lib.hid hlen
  have HWL := Lib.hid hwl
  have hle : l.length ≤ 32 := by omega
  have hmk := mk_spans l.length (by omega)
  clear hA hw hl hp hca hwe hlen hwl
  go_enter Tryd.func63, Tryd.ntmps63
  go_wp2
  go_loopw [15] (fun vi wr => ∃ k : Nat, k ≤ l.length ∧ vi = .int .i64 k ∧ Below (w.heap.size + 1) (w.alloc (.cells #[.int .i64 p.no, .int .i64 p.cell, .int .i64 p.noise, .int .i64 p.slab, .int .i64 p.jump, .int .i64 p.faults, .slice A p.log.length c, .slice A1 ws.length c1] 87)) wr ∧ Hid (Blk wr (w.heap.size + 1) 42 (sc (rowB l.length k (fwd p ws l) fun _ => (0, 0)))) ∧ Hid (∀ i, i < k → fwdOk p ws l i = true))
    (fun vi _ => l.length - (intOf vi).toNat)
  case atStart =>
    refine ⟨0, Nat.zero_le _, rfl, (Below.refl _ _).alloc (by simp) _, ?_, fun i h => absurd h (by omega)⟩
    have h := Blk.new (w.alloc (.cells #[.int .i64 p.no, .int .i64 p.cell, .int .i64 p.noise, .int .i64 p.slab, .int .i64 p.jump, .int .i64 p.faults, .slice A p.log.length c, .slice A1 ws.length c1] 87)) 42 (sc (List.replicate l.length (0, 0)))
    rw [rowB_none, List.map_const', List.length_range]
    have e : (w.alloc (.cells #[.int .i64 p.no, .int .i64 p.cell, .int .i64 p.noise, .int .i64 p.slab, .int .i64 p.jump, .int .i64 p.faults, .slice A p.log.length c, .slice A1 ws.length c1] 87)).heap.size = w.heap.size + 1 := by simp
    rw [e] at h
    exact h
  case round =>
    obtain ⟨k, hk, rfl, hb, hblk, hall⟩ := hrel
    have hwr : Below w.heap.size w wr := hbox.trans (hb.mono (by omega))
    have hz : w.heap.size + 1 < wr.heap.size := hblk.out.lt
    have hz0 : w.heap.size < wr.heap.size := by omega
    obtain ⟨hc, hf⟩ := bcell1 hb
    by_cases hlt : k < l.length
    · obtain ⟨ad, rfl, a1⟩ := at_i (Kd.C_below HL.out hwr) k hlt
      have l0 := World.block_lt_of_cell? wr _ a1
      rw [blk_add] at l0
      change _ = some (Value.int .i64 (at0 l k)) at a1
      obtain ⟨b1, b2⟩ := sc_get (rowB l.length k (fwd p ws l) fun _ => (0, 0)) k (by rw [rowB_len]; exact hlt)
      rw [rowB_get _ _ _ _ _ hlt, if_neg (by omega), ← hblk.out.cell] at b1 b2
      have hfB := hblk.out.frozen
      have HLd := Lib.hid (loads_at p A c k (at0 l k) wr HP.out (Kd.C_below HA.out hwr) (by have := HN.out; omega) _ rfl)
      by_cases hk0 : k = 0
      · have e0 : decide (0 < k) = false := by simp; omega
        generalize hx : loadsF p k (at0 l k) = x at *
        have HFW : Hid (fwd p ws l k = (x.1, x.2)) := by
          show fwd p ws l k = (x.1, x.2)
          rw [← hx, hk0]; rfl
        clear hx
        have HK0 := Lib.hid hk0
        clear hk0
        go_wp2_with (first | (go_at_call 72; refine HLd.out.mono ?_; rintro e w1 ⟨rfl, hb1⟩; obtain ⟨hc1, hf1⟩ := bcell hb1) | fail)
        have hbk4 := Lib.hid ((hblk.out.below hb1).set2 k x.1 x.2)
        have hbe4 : Below (w.heap.size + 1) (w.alloc (.cells #[.int .i64 p.no, .int .i64 p.cell, .int .i64 p.noise, .int .i64 p.slab, .int .i64 p.jump, .int .i64 p.faults, .slice A p.log.length c, .slice A1 ws.length c1] 87)) ((w1.setCell ⟨w.heap.size + 1, k * 2, none⟩ (.int .i64 x.1)).setCell ⟨w.heap.size + 1, k * 2 + 1, none⟩ (.int .i64 x.2)) := ((hb.trans (hb1.mono (by omega))).setCell (by simp) _).setCell (by simp) _
        have hrow : ((rowB l.length k (fwd p ws l) fun _ => (0, 0)).set k (x.1, x.2)) = rowB l.length (k + 1) (fwd p ws l) fun _ => (0, 0) := by
          rw [← HFW.out, rowB_up _ _ _ _ hlt]
        rw [hrow] at hbk4
        clear hrow hc1 hf1 hc hf hfB b1 b2 a1
        generalize (w1.setCell ⟨w.heap.size + 1, k * 2, none⟩ (.int .i64 x.1)).setCell ⟨w.heap.size + 1, k * 2 + 1, none⟩ (.int .i64 x.2) = W4 at *
        clear hb1
        have hw4 : Below w.heap.size w W4 := hbox.trans (hbe4.mono (by omega))
        generalize x.1 = M1 at *
        generalize x.2 = M2 at *
        cases hok : fwdOk p ws l k
        · have hg : decide (M2 < M1) = true := by
            have h := hok
            unfold fwdOk at h
            rw [HFW.out] at h
            simp at h ⊢; omega
          have hdead := Lib.hid (show aliveF p ws l = false by unfold aliveF; rw [List.all_eq_false]; exact ⟨k, by simpa using hlt, by simp [hok]⟩)
          clear hok
          go_wp2_with (go_at_call 91; refine (none_any _ _ _).mono ?_; rw [hg]; rintro e w5 ⟨rfl, hb5⟩)
          go_ret2
          have he : endsF p ws l = [] := by unfold endsF; rw [hdead.out]; rfl
          rw [hdead.out, he]
          exact ⟨none, 0, rfl, Kd.C_nil _ _, Nat.le_refl _, hw4.trans (hb5.mono (by have := hbk4.out.lt; omega))⟩
        · have hg : decide (M2 < M1) = false := by
            have h := hok
            unfold fwdOk at h
            rw [HFW.out] at h
            simp at h ⊢; omega
          have HOK : Hid (∀ i, i < k + 1 → fwdOk p ws l i = true) := fun i hi => by
            rcases Nat.lt_or_ge i k with h | h
            · exact hall.out i h
            · obtain rfl : i = k := by omega
              exact hok
          clear hok
          go_wp2_with (go_at_call 91; refine (none_any _ _ _).mono ?_; rw [hg]; rintro e w5 ⟨rfl, hb5⟩)
          go_roundw
          case rel => exact ⟨k + 1, by omega, by go_num, hbe4.trans (hb5.mono (by have := hbk4.out.lt; omega)), hbk4.out.below hb5, HOK.out⟩
          case measure => simp [intOf]; omega
      · have e0 : decide (0 < k) = true := by simp; omega
        generalize hx : loadsF p k (at0 l k) = x at *
        have HX := Lib.hid hx
        clear hx
        go_wp2_with (go_at_call 72; refine HLd.out.mono ?_; rintro e w1 ⟨rfl, hb1⟩; obtain ⟨hc1, hf1⟩ := bcell hb1)
        have hbk2 := Lib.hid ((hblk.out.below hb1).set2 k x.1 x.2)
        have hbe2 : Below (w.heap.size + 1) (w.alloc (.cells #[.int .i64 p.no, .int .i64 p.cell, .int .i64 p.noise, .int .i64 p.slab, .int .i64 p.jump, .int .i64 p.faults, .slice A p.log.length c, .slice A1 ws.length c1] 87)) ((w1.setCell ⟨w.heap.size + 1, k * 2, none⟩ (.int .i64 x.1)).setCell ⟨w.heap.size + 1, k * 2 + 1, none⟩ (.int .i64 x.2)) := ((hb.trans (hb1.mono (by omega))).setCell (by simp) _).setCell (by simp) _
        clear hc1 hf1 hc hf hfB b1 b2 a1
        generalize (w1.setCell ⟨w.heap.size + 1, k * 2, none⟩ (.int .i64 x.1)).setCell ⟨w.heap.size + 1, k * 2 + 1, none⟩ (.int .i64 x.2) = W2 at *
        clear hb1
        obtain ⟨hc, hf⟩ := bcell1 hbe2
        have hw2 : Below w.heap.size w W2 := hbox.trans (hbe2.mono (by omega))
        obtain ⟨d1, d2⟩ := sc_get ((rowB l.length k (fwd p ws l) fun _ => (0, 0)).set k (x.1, x.2)) k (by simpa [rowB_len] using hlt)
        obtain ⟨p1, p2⟩ := sc_get ((rowB l.length k (fwd p ws l) fun _ => (0, 0)).set k (x.1, x.2)) (k - 1) (by simp [rowB_len]; omega)
        have ev : ((rowB l.length k (fwd p ws l) fun _ => (0, 0)).set k (x.1, x.2)).getD k (0, 0) = x := by simp [rowB_len, hlt]
        have ep : ((rowB l.length k (fwd p ws l) fun _ => (0, 0)).set k (x.1, x.2)).getD (k - 1) (0, 0) = fwd p ws l (k - 1) := by
          have := rowB_get l.length k (fwd p ws l) (fun _ => (0, 0)) (k - 1) (by omega)
          rw [if_pos (by omega)] at this
          rw [← this]
          simp [List.getElem?_set, show k ≠ k - 1 by omega]
        rw [ev, ← hbk2.out.cell] at d1 d2
        rw [ep, ← hbk2.out.cell] at p1 p2
        have hfB := hbk2.out.frozen
        obtain ⟨adw, rfl, q1, q2⟩ := at_span (Kd.C_below HW.out hw2) (k - 1) (by have := HN.out; have := HWL.out; omega)
        obtain ⟨l1, -, -⟩ := at_lt q1
        change _ = some (Value.int .i64 (sp ws (k - 1)).1) at q1
        change _ = some (Value.int .i64 (sp ws (k - 1)).2) at q2
        have Z1 := Lib.hid (congrArg (fun y : Int × Int => some (Value.int .i64 y.1)) ep.symm)
        have Z2 := Lib.hid (congrArg (fun y : Int × Int => some (Value.int .i64 y.2)) ep.symm)
        obtain ⟨adw', hadw, hqw, -⟩ := at_span HW.out (k - 1) (by have := HN.out; have := HWL.out; omega)
        obtain rfl := Option.some.inj hadw
        have hQ : Hid (∃ u, w.cell? (adw.add ((k - 1) * 2)) = some u) := ⟨_, hqw⟩
        clear hqw hadw
        clear ev ep
        have hfb := fwd_bd p ws l HP.out (k - 1) (hall.out (k - 1) (by omega))
        have hsb := weather_at HWE.out (k - 1)
        have hF1 : small (fwd p ws l (k - 1)).1 := by unfold small; omega
        have hF2 : small (fwd p ws l (k - 1)).2 := by unfold small; omega
        have hS1 : small (sp ws (k - 1)).1 := by unfold small; omega
        have hS2 : small (sp ws (k - 1)).2 := by unfold small; omega
        have HFW := Lib.hid (show fwd p ws l k = (max x.1 ((fwd p ws l (k - 1)).1 + (sp ws (k - 1)).1), min x.2 ((fwd p ws l (k - 1)).2 + (sp ws (k - 1)).2)) by
          obtain ⟨m, rfl⟩ : ∃ m, k = m + 1 := ⟨k - 1, by omega⟩
          rw [← HX.out]; rfl)
        clear hfb hsb
        generalize (fwd p ws l (k - 1)).1 = F1 at *
        generalize (fwd p ws l (k - 1)).2 = F2 at *
        generalize (sp ws (k - 1)).1 = S1 at *
        generalize (sp ws (k - 1)).2 = S2 at *
        have i1 : IntKind.i64.wrap ((k : Int) - 1) = (k : Int) - 1 := IntWalk.i64_in _ (by omega)
        have i2 : ((k : Int) - 1).toNat = k - 1 := by omega
        have i3 : 0 ≤ (k : Int) - 1 := by omega
        have i4 : (k : Int) - 1 < (l.length : Int) := by omega
        have i5 : (1 : Int) ≤ (k : Int) := by omega
        have i6 : 1 ≤ k := by omega
        have i7 : (k : Int) ≤ (l.length : Int) := by omega
        have i8 : (k : Int) - 1 < (ws.length : Int) := by have := HWL.out; have := HN.out; omega
        have i9 : (k : Int) ≤ (ws.length : Int) := by omega
        have hT : ∀ w3, Below W2.heap.size W2 w3 → w3.cell? ⟨w.heap.size + 1, k * 2, none⟩ = some (.int .i64 x.1) ∧ w3.cell? ⟨w.heap.size + 1, k * 2 + 1, none⟩ = some (.int .i64 x.2) ∧ w3.cell? ⟨w.heap.size + 1, (k - 1) * 2, none⟩ = some (.int .i64 F1) ∧ w3.cell? ⟨w.heap.size + 1, (k - 1) * 2 + 1, none⟩ = some (.int .i64 F2) ∧ w3.cell? ⟨w.heap.size, 7, none⟩ = some (.slice (some adw) ws.length c1) ∧ w3.cell? (adw.add ((k - 1) * 2)) = some (.int .i64 S1) ∧ w3.cell? ⟨adw.block, (adw.add ((k - 1) * 2)).off + 1, none⟩ = some (.int .i64 S2) := fun w3 hb3 => by
          refine ⟨pw_cell_below hb3 d1, pw_cell_below hb3 d2, pw_cell_below hb3 p1, pw_cell_below hb3 p2, ?_, pw_cell_below hb3 q1, pw_cell_below hb3 q2⟩
          refine pw_cell_below hb3 ?_; rw [hc _ _ (by omega)]; simp
        have HT := Lib.hid hT
        clear hT d1 d2 p1 p2 q1 q2 hc hf hfB
        refine wp_region_tail 20 (fun w3 => Below W2.heap.size W2 w3) (by kernel_rfl) (by kernel_rfl) (below_drew (Below.refl _ _)) ?_
        simp only [List.take_succ_cons, List.take_zero, List.drop_succ_cons, List.drop_zero]
        repeat (refine wpQuiet_step (fun K hK => ?_); go_simp; (first | (refine hK _ ?_) | (refine ⟨_, fun _ _ => rfl, hK _ ?_⟩) | (refine ⟨_, fun w3 hw3 => less_exact trivial (add_any _ _ _ _ w3 hF1 hF2 hS1 hS2) hw3 hw3.size, hK _ ?_⟩) | (refine ⟨_, fun w3 hw3 => less_exact trivial (meet_any _ _ _ _ w3) hw3 hw3.size, hK _ ?_⟩) | (apply Exists.intro; refine ⟨fun w3 hw3 => ?_, hK _ ?_⟩; (have t1 := (HT.out w3 hw3).1; have t2 := (HT.out w3 hw3).2.1; have t3 := (HT.out w3 hw3).2.2.1; have t4 := (HT.out w3 hw3).2.2.2.1; have t5 := (HT.out w3 hw3).2.2.2.2.1; have t6 := (HT.out w3 hw3).2.2.2.2.2.1; have t7 := (HT.out w3 hw3).2.2.2.2.2.2; go_simp; rfl))); clear hK K)
        refine wpQuiet_nil ?_
        intro w3 hw3
        have hbk3 := Lib.hid (hbk2.out.below hw3)
        have hfB := hbk3.out.frozen
        have c1' := (HT.out w3 hw3).1
        have c2' := (HT.out w3 hw3).2.1
        go_wp2_with fail
        have hbk4 := Lib.hid (hbk3.out.set2 k (max x.1 (F1 + S1)) (min x.2 (F2 + S2)))
        have hbe4 : Below (w.heap.size + 1) (w.alloc (.cells #[.int .i64 p.no, .int .i64 p.cell, .int .i64 p.noise, .int .i64 p.slab, .int .i64 p.jump, .int .i64 p.faults, .slice A p.log.length c, .slice (some adw) ws.length c1] 87)) ((w3.setCell ⟨w.heap.size + 1, k * 2, none⟩ (.int .i64 (max x.1 (F1 + S1)))).setCell ⟨w.heap.size + 1, k * 2 + 1, none⟩ (.int .i64 (min x.2 (F2 + S2)))) := ((hbe2.trans (hw3.mono (by have := hbk2.out.lt; omega))).setCell (by simp) _).setCell (by simp) _
        have hrow : (((rowB l.length k (fwd p ws l) fun _ => (0, 0)).set k (x.1, x.2)).set k (max x.1 (F1 + S1), min x.2 (F2 + S2))) = rowB l.length (k + 1) (fwd p ws l) fun _ => (0, 0) := by
          rw [List.set_set, ← HFW.out, rowB_up _ _ _ _ hlt]
        rw [hrow] at hbk4
        clear hrow
        generalize (w3.setCell ⟨w.heap.size + 1, k * 2, none⟩ (.int .i64 (max x.1 (F1 + S1)))).setCell ⟨w.heap.size + 1, k * 2 + 1, none⟩ (.int .i64 (min x.2 (F2 + S2))) = W4 at *
        have hw4 : Below w.heap.size w W4 := hbox.trans (hbe4.mono (by omega))
        generalize max x.1 (F1 + S1) = M1 at *
        generalize min x.2 (F2 + S2) = M2 at *
        clear c1' c2' hfB hbk3 hw3 i1 i2 i3 i4 i5 i6 i7 i8 i9
        cases hok : fwdOk p ws l k
        · have hg : decide (M2 < M1) = true := by
            have h := hok
            unfold fwdOk at h
            rw [HFW.out] at h
            simp at h ⊢; omega
          have hdead := Lib.hid (show aliveF p ws l = false by unfold aliveF; rw [List.all_eq_false]; exact ⟨k, by simpa using hlt, by simp [hok]⟩)
          clear hok
          go_wp2_with (go_at_call 91; refine (none_any _ _ _).mono ?_; rw [hg]; rintro e w5 ⟨rfl, hb5⟩)
          go_ret2
          have he : endsF p ws l = [] := by unfold endsF; rw [hdead.out]; rfl
          rw [hdead.out, he]
          exact ⟨none, 0, rfl, Kd.C_nil _ _, Nat.le_refl _, hw4.trans (hb5.mono (by have := hbk4.out.lt; omega))⟩
        · have hg : decide (M2 < M1) = false := by
            have h := hok
            unfold fwdOk at h
            rw [HFW.out] at h
            simp at h ⊢; omega
          have HOK : Hid (∀ i, i < k + 1 → fwdOk p ws l i = true) := fun i hi => by
            rcases Nat.lt_or_ge i k with h | h
            · exact hall.out i h
            · obtain rfl : i = k := by omega
              exact hok
          clear hok
          go_wp2_with (go_at_call 91; refine (none_any _ _ _).mono ?_; rw [hg]; rintro e w5 ⟨rfl, hb5⟩)
          go_roundw
          case rel => exact ⟨k + 1, by omega, by go_num, hbe4.trans (hb5.mono (by have := hbk4.out.lt; omega)), hbk4.out.below hb5, HOK.out⟩
          case measure => simp [intOf]; omega
    · obtain rfl : k = l.length := by omega
      have hal := Lib.hid (show aliveF p ws l = true by
        unfold aliveF
        rw [List.all_eq_true]
        intro i hi
        exact hall.out i (by simpa using hi))
      have iw : IntKind.i64.wrap ((l.length : Int) - 2) = (l.length : Int) - 2 := IntWalk.i64_in _ (by omega)
      have hrow0 : rowB l.length l.length (fwd p ws l) (fun _ => (0, 0)) = rowB l.length (((l.length : Int) - 2) + 1).toNat (fwd p ws l) (bwd p ws l) := by
        apply List.ext_getElem
        · simp [rowB]
        · intro i h1 h2
          have hi : i < l.length := by simpa [rowB] using h1
          simp only [rowB, List.getElem_map, List.getElem_range]
          rw [if_pos hi]
          split
          · rfl
          · rw [bwd_last p ws l i (by omega)]
      rw [hrow0] at hblk
      clear hrow0 hlt
      go_wp2
      go_loopw [9] (fun vi wr => ∃ z : Int, vi = .int .i64 z ∧ -2 ≤ z ∧ z + 2 ≤ (l.length : Int) ∧ Below (w.heap.size + 1) (w.alloc (.cells #[.int .i64 p.no, .int .i64 p.cell, .int .i64 p.noise, .int .i64 p.slab, .int .i64 p.jump, .int .i64 p.faults, .slice A p.log.length c, .slice A1 ws.length c1] 87)) wr ∧ Hid (Blk wr (w.heap.size + 1) 42 (sc (rowB l.length (z + 1).toNat (fwd p ws l) (bwd p ws l)))))
        (fun vi _ => (intOf vi + 1).toNat)
      case atStart => exact ⟨_, rfl, by omega, by omega, hb, hblk⟩
      case round =>
        clear hb hblk hc hf hz hz0 hwr iw
        obtain ⟨z, rfl, hz1, hz2, hb, hblk⟩ := hrel
        have hwr : Below w.heap.size w wr := hbox.trans (hb.mono (by omega))
        have hz : w.heap.size + 1 < wr.heap.size := hblk.out.lt
        by_cases hz0 : z < 0
        · have g : decide (0 ≤ z) = false := by simp; omega
          have hfin : rowB l.length (z + 1).toNat (fwd p ws l) (bwd p ws l) = endsF p ws l := by
            rw [show (z + 1).toNat = 0 by omega, rowB_none]
            unfold endsF
            rw [hal.out]; rfl
          rw [hfin] at hblk
          have hlen2 : (endsF p ws l).length = l.length := by unfold endsF; rw [hal.out]; simp
          have HLE := Lib.hid hlen2
          clear hlen2 hfin
          go_wp2
          go_ret2
          refine ⟨some ⟨w.heap.size + 1, 0, none⟩, l.length, ?_, hblk.out.reads (by have := HLE.out; omega), (by have := HLE.out; omega), hwr⟩
          rw [hal.out, HLE.out]; rfl
        · obtain ⟨m, rfl⟩ := Int.eq_ofNat_of_zero_le (show 0 ≤ z by omega)
          have hm : m + 1 < l.length := by omega
          rw [show ((m : Int) + 1).toNat = m + 1 by omega] at hblk
          obtain ⟨hc, hf⟩ := bcell1 hb
          obtain ⟨d1, d2⟩ := sc_get (rowB l.length (m + 1) (fwd p ws l) (bwd p ws l)) m (by rw [rowB_len]; omega)
          obtain ⟨p1, p2⟩ := sc_get (rowB l.length (m + 1) (fwd p ws l) (bwd p ws l)) (m + 1) (by rw [rowB_len]; omega)
          rw [rowB_get _ _ _ _ _ (by omega), if_pos (by omega), ← hblk.out.cell] at d1 d2
          rw [rowB_get _ _ _ _ _ (by omega), if_neg (by omega), ← hblk.out.cell] at p1 p2
          obtain ⟨adw, rfl, q1, q2⟩ := at_span (Kd.C_below HW.out hwr) m (by have := HN.out; have := HWL.out; omega)
          obtain ⟨l1, -, -⟩ := at_lt q1
          change _ = some (Value.int .i64 (sp ws m).1) at q1
          change _ = some (Value.int .i64 (sp ws m).2) at q2
          obtain ⟨hF1, hF2⟩ := bwd_small p ws l HP.out HWE.out hall.out hle (m + 1) (by omega)
          have hsb := weather_at HWE.out m
          have hS1 : small (sp ws m).1 := by unfold small; omega
          have hS2 : small (sp ws m).2 := by unfold small; omega
          have HFW := Lib.hid (show bwd p ws l m = (max (fwd p ws l m).1 ((bwd p ws l (m + 1)).1 - (sp ws m).2), min (fwd p ws l m).2 ((bwd p ws l (m + 1)).2 - (sp ws m).1)) from bwd_step p ws l m hm)
          clear hsb
          have i1 : IntKind.i64.wrap ((m : Int) + 1) = (m : Int) + 1 := IntWalk.i64_in _ (by omega)
          have i2 : ((m : Int) + 1).toNat = m + 1 := by omega
          have i3 : (m : Int) + 1 < (l.length : Int) := by omega
          have i4 : m < l.length := by omega
          have i5 : m < ws.length := by have := HWL.out; have := HN.out; omega
          have i6 : (m : Int) < (ws.length : Int) := by omega
          have i7 : (m : Int) < (l.length : Int) := by omega
          have i8 : 0 ≤ (m : Int) + 1 := by omega
          generalize (fwd p ws l m).1 = X1 at *
          generalize (fwd p ws l m).2 = X2 at *
          generalize (bwd p ws l (m + 1)).1 = F1 at *
          generalize (bwd p ws l (m + 1)).2 = F2 at *
          generalize (sp ws m).1 = S1 at *
          generalize (sp ws m).2 = S2 at *
          have hT : ∀ w3, Below wr.heap.size wr w3 → w3.cell? ⟨w.heap.size + 1, m * 2, none⟩ = some (.int .i64 X1) ∧ w3.cell? ⟨w.heap.size + 1, m * 2 + 1, none⟩ = some (.int .i64 X2) ∧ w3.cell? ⟨w.heap.size + 1, (m + 1) * 2, none⟩ = some (.int .i64 F1) ∧ w3.cell? ⟨w.heap.size + 1, (m + 1) * 2 + 1, none⟩ = some (.int .i64 F2) ∧ w3.cell? ⟨w.heap.size, 7, none⟩ = some (.slice (some adw) ws.length c1) ∧ w3.cell? (adw.add (m * 2)) = some (.int .i64 S1) ∧ w3.cell? ⟨adw.block, (adw.add (m * 2)).off + 1, none⟩ = some (.int .i64 S2) := fun w3 hb3 => by
            refine ⟨pw_cell_below hb3 d1, pw_cell_below hb3 d2, pw_cell_below hb3 p1, pw_cell_below hb3 p2, ?_, pw_cell_below hb3 q1, pw_cell_below hb3 q2⟩
            refine pw_cell_below hb3 ?_; rw [hc _ _ (by omega)]; simp
          have HT := Lib.hid hT
          clear hT d1 d2 p1 p2 q1 q2 hc hf
          go_wp2
          refine wp_region_tail 19 (fun w3 => Below wr.heap.size wr w3) (by kernel_rfl) (by kernel_rfl) (below_drew (Below.refl _ _)) ?_
          simp only [List.take_succ_cons, List.take_zero, List.drop_succ_cons, List.drop_zero]
          repeat (refine wpQuiet_step (fun K hK => ?_); go_simp; (first | (refine hK _ ?_) | (refine ⟨_, fun _ _ => rfl, hK _ ?_⟩) | (refine ⟨_, fun w3 hw3 => less_exact trivial (less_any _ _ _ _ w3 hF1 hF2 hS1 hS2) hw3 hw3.size, hK _ ?_⟩) | (refine ⟨_, fun w3 hw3 => less_exact trivial (meet_any _ _ _ _ w3) hw3 hw3.size, hK _ ?_⟩) | (apply Exists.intro; refine ⟨fun w3 hw3 => ?_, hK _ ?_⟩; (have t1 := (HT.out w3 hw3).1; have t2 := (HT.out w3 hw3).2.1; have t3 := (HT.out w3 hw3).2.2.1; have t4 := (HT.out w3 hw3).2.2.2.1; have t5 := (HT.out w3 hw3).2.2.2.2.1; have t6 := (HT.out w3 hw3).2.2.2.2.2.1; have t7 := (HT.out w3 hw3).2.2.2.2.2.2; go_simp; rfl))); clear hK K)
          refine wpQuiet_nil ?_
          intro w3 hw3
          have hbk3 := Lib.hid (hblk.out.below hw3)
          have hfB := hbk3.out.frozen
          have c1' := (HT.out w3 hw3).1
          have c2' := (HT.out w3 hw3).2.1
          go_wp2_with fail
          go_roundw
          case rel =>
            refine ⟨_, rfl, by omega, by omega, ((hb.trans (hw3.mono (by omega))).setCell (by simp) _).setCell (by simp) _, ?_⟩
            have hbk4 := hbk3.out.set2 m (max X1 (F1 - S2)) (min X2 (F2 - S1))
            have hrow : ((rowB l.length (m + 1) (fwd p ws l) (bwd p ws l)).set m (max X1 (F1 - S2), min X2 (F2 - S1))) = rowB l.length m (fwd p ws l) (bwd p ws l) := by
              rw [← HFW.out, rowB_down _ _ _ _ (by omega)]
            rw [hrow] at hbk4
            rw [show ((m : Int) - 1 + 1).toNat = m by omega]
            exact hbk4
          case measure => first | (simp [intOf]; done) | (simp [intOf]; omega)
end Go.Proofs.YtiidkekmklbobaaDoor
set_option linter.unusedVariables false
set_option linter.unusedSimpArgs false
namespace Go.Proofs.YtiidkekmklbobaaDoor
open Go.RowKit Go.Proofs.YtiidkekmklbobaaDoorW.PrintWords
attribute [local go_sem] mx_two mn_two blk_add
theorem told_cases (p : Pil) (ws : List (Int × Int)) (l : List Int) : toldF p ws l = 0 ∧ checkB p = true ∧ weatherB p ws = true ∧ caseB p l = true ∨ toldF p ws l ≠ 0 := by
  unfold toldF
  cases checkB p <;> cases weatherB p ws <;> cases caseB p l <;> simp
def aliveR (p : Pil) (ws : List (Int × Int)) (l : List Int) : Bool × Int := if toldF p ws l = 0 then (aliveF p ws l, 0) else (false, toldF p ws l)
def loadsR (p : Pil) (ws : List (Int × Int)) (l : List Int) : List (Int × Int) × Int := if toldF p ws l = 0 then (endsF p ws l, if aliveF p ws l then 0 else 33) else ([], toldF p ws l)
set_option maxRecDepth 100000 in
set_option maxHeartbeats 1600000 in
theorem alive_any (p : Pil) (A : Option Addr) (c : Nat) (A1 : Option Addr) (c1 : Nat) (ws : List (Int × Int)) (A2 : Option Addr) (c2 : Nat) (l : List Int) (w : World) (hA : Kd.C kSpan w A p.log.length p.log) (hw : Kd.C kSpan w A1 ws.length ws) (hl : Kd.C kInt w A2 l.length l) :
    Calls Tryd.prog 20 #[p.val A c, .slice A1 ws.length c1, .slice A2 l.length c2] w fun e w' => e = .returned (.tuple #[.bool (aliveR p ws l).1, .int .i64 (aliveR p ws l).2]) ∧ Below w.heap.size w w' := by
  have hbox : Below w.heap.size w (w.alloc (boxP p A c 24)) := (Below.refl _ _).alloc (Nat.le_refl _) _
  have HA := Lib.hid (Kd.C_below hA hbox)
  have HW := Lib.hid (Kd.C_below hw hbox)
  have HL := Lib.hid (Kd.C_below hl hbox)
  have HN := Lib.hid hw.2.1
  clear hA hw hl
  rcases told_cases p ws l with ⟨h0, h1, h2, h3⟩ | h0
  · have HE := Lib.hid h0
    have hok := Lib.hid (ok_of_check h1)
    have H2 := Lib.hid h2
    have H3 := Lib.hid h3
    have hF := Lib.hid (show aliveR p ws l = (aliveF p ws l, 0) by simp [aliveR, h0])
    clear h0 h1 h2 h3
    go_enter Tryd.func20, Tryd.ntmps20
    go_wp2_with (first | (go_at_call 62; refine (told_any p A c A1 _ ws A2 _ l _ HA.out HW.out HL.out HN.out).mono ?_; rw [HE.out]; rintro e w1 ⟨rfl, hb⟩; obtain ⟨hc, hf⟩ := bcell hb) | (go_at_call 63; refine (ends_any p A c A1 _ ws A2 _ l _ hok.out H2.out H3.out (Kd.C_below HA.out hb) (Kd.C_below HW.out hb) (Kd.C_below HL.out hb)).mono ?_; rintro e w2 ⟨A', c', rfl, hr, hcl, hb2⟩))
    go_ret2
    rw [hF.out]
    exact ⟨rfl, (hbox.trans (hb.mono (by simp))).trans (hb2.mono (by have := hb.size; simp at this; omega))⟩
  · have hF := Lib.hid (show aliveR p ws l = (false, toldF p ws l) by simp [aliveR, h0])
    have hne : (toldF p ws l != 0) = true := by simpa using h0
    clear h0
    have HT := Lib.hid (told_any p A c A1 c1 ws A2 c2 l (w.alloc (boxP p A c 24)) HA.out HW.out HL.out HN.out)
    generalize toldF p ws l = E at *
    go_enter Tryd.func20, Tryd.ntmps20
    go_wp2_with (go_at_call 62; refine HT.out.mono ?_; rintro e w1 ⟨rfl, hb⟩; obtain ⟨hc, hf⟩ := bcell hb)
    go_ret2
    rw [hF.out]
    exact ⟨rfl, hbox.trans (hb.mono (by simp))⟩
set_option maxRecDepth 100000 in
set_option maxHeartbeats 1600000 in
theorem loadsC_any (p : Pil) (A : Option Addr) (c : Nat) (A1 : Option Addr) (c1 : Nat) (ws : List (Int × Int)) (A2 : Option Addr) (c2 : Nat) (l : List Int) (w : World) (hA : Kd.C kSpan w A p.log.length p.log) (hw : Kd.C kSpan w A1 ws.length ws) (hl : Kd.C kInt w A2 l.length l) :
    Calls Tryd.prog 22 #[p.val A c, .slice A1 ws.length c1, .slice A2 l.length c2] w fun e w' => ∃ A' c', e = .returned (.tuple #[.slice A' (loadsR p ws l).1.length c', .int .i64 (loadsR p ws l).2]) ∧ Kd.C kSpan w' A' (loadsR p ws l).1.length (loadsR p ws l).1 ∧ (loadsR p ws l).1.length ≤ c' ∧ Below w.heap.size w w' := by
  have hbox : Below w.heap.size w (w.alloc (boxP p A c 24)) := (Below.refl _ _).alloc (Nat.le_refl _) _
  have HA := Lib.hid (Kd.C_below hA hbox)
  have HW := Lib.hid (Kd.C_below hw hbox)
  have HL := Lib.hid (Kd.C_below hl hbox)
  have HN := Lib.hid hw.2.1
  clear hA hw hl
  rcases told_cases p ws l with ⟨h0, h1, h2, h3⟩ | h0
  · have HE := Lib.hid h0
    have hok := Lib.hid (ok_of_check h1)
    have H2 := Lib.hid h2
    have H3 := Lib.hid h3
    have hF := Lib.hid (show loadsR p ws l = (endsF p ws l, if aliveF p ws l then 0 else 33) by simp [loadsR, h0])
    clear h0 h1 h2 h3
    cases hal : aliveF p ws l
    · have hnil := Lib.hid (show endsF p ws l = [] by simp [endsF, hal])
      have HAL := Lib.hid hal
      clear hal
      go_enter Tryd.func22, Tryd.ntmps22
      go_wp2_with (first | (go_at_call 62; refine (told_any p A c A1 _ ws A2 _ l _ HA.out HW.out HL.out HN.out).mono ?_; rw [HE.out]; rintro e w1 ⟨rfl, hb⟩; obtain ⟨hc, hf⟩ := bcell hb) | (go_at_call 63; refine (ends_any p A c A1 _ ws A2 _ l _ hok.out H2.out H3.out (Kd.C_below HA.out hb) (Kd.C_below HW.out hb) (Kd.C_below HL.out hb)).mono ?_; rw [HAL.out]; rintro e w2 ⟨A', c', rfl, hr, hcl, hb2⟩))
      go_ret2
      rw [hF.out, hnil.out, HAL.out]
      exact ⟨none, 0, rfl, Kd.C_nil _ _, Nat.le_refl _, (hbox.trans (hb.mono (by simp))).trans (hb2.mono (by have := hb.size; simp at this; omega))⟩
    · have HAL := Lib.hid hal
      clear hal
      go_enter Tryd.func22, Tryd.ntmps22
      go_wp2_with (first | (go_at_call 62; refine (told_any p A c A1 _ ws A2 _ l _ HA.out HW.out HL.out HN.out).mono ?_; rw [HE.out]; rintro e w1 ⟨rfl, hb⟩; obtain ⟨hc, hf⟩ := bcell hb) | (go_at_call 63; refine (ends_any p A c A1 _ ws A2 _ l _ hok.out H2.out H3.out (Kd.C_below HA.out hb) (Kd.C_below HW.out hb) (Kd.C_below HL.out hb)).mono ?_; rw [HAL.out]; rintro e w2 ⟨A', c', rfl, hr, hcl, hb2⟩; have HR := Lib.hid hr; clear hr))
      go_ret2
      rw [hF.out, HAL.out]
      exact ⟨A', c', rfl, HR.out, hcl, (hbox.trans (hb.mono (by simp))).trans (hb2.mono (by have := hb.size; simp at this; omega))⟩
  · have hF := Lib.hid (show loadsR p ws l = ([], toldF p ws l) by simp [loadsR, h0])
    have hne : (toldF p ws l != 0) = true := by simpa using h0
    clear h0
    have HT := Lib.hid (told_any p A c A1 c1 ws A2 c2 l (w.alloc (boxP p A c 24)) HA.out HW.out HL.out HN.out)
    generalize toldF p ws l = E at *
    go_enter Tryd.func22, Tryd.ntmps22
    go_wp2_with (go_at_call 62; refine HT.out.mono ?_; rintro e w1 ⟨rfl, hb⟩; obtain ⟨hc, hf⟩ := bcell hb)
    go_ret2
    rw [hF.out]
    exact ⟨none, 0, rfl, Kd.C_nil _ _, Nat.le_refl _, hbox.trans (hb.mono (by simp))⟩
end Go.Proofs.YtiidkekmklbobaaDoor
set_option linter.unusedVariables false
set_option linter.unusedSimpArgs false
namespace Go.Proofs.YtiidkekmklbobaaDoor
open Go.RowKit Go.Proofs.YtiidkekmklbobaaDoorW.PrintWords
attribute [local go_sem] mx_two mn_two blk_add
def accF (p : Pil) (ws : List (Int × Int)) (l : List Int) (i : Nat) : Nat → Int × Int
  | 0 => loadsF p i (at0 l i)
  | d + 1 => ((accF p ws l i d).1 + (sp ws (i + d)).1, (accF p ws l i d).2 + (sp ws (i + d)).2)
def contraB (p : Pil) (ws : List (Int × Int)) (l : List Int) (i k : Nat) : Bool := decide (min (accF p ws l i (k - i)).2 (loadsF p k (at0 l k)).2 < max (accF p ws l i (k - i)).1 (loadsF p k (at0 l k)).1)
theorem acc_bd (p : Pil) (ws : List (Int × Int)) (l : List Int) (hp : Ok p) (hw : weatherB p ws = true) (i : Nat) (d : Nat) :
    -(65536 * (d + 1)) ≤ (accF p ws l i d).1 ∧ (accF p ws l i d).1 ≤ 65536 * (d + 1) ∧ -(65536 * (d + 1)) ≤ (accF p ws l i d).2 ∧ (accF p ws l i d).2 ≤ 65536 * (d + 1) := by
  induction d with
  | zero => have := loads_bd p hp i (at0 l i); simp only [accF]; omega
  | succ d ih => have := weather_at hw (i + d); simp only [accF]; omega
abbrev boxS (p : Pil) (A : Option Addr) (c : Nat) (A1 : Option Addr) (n1 c1 : Nat) : Obj := .cells #[.int .i64 p.no, .int .i64 p.cell, .int .i64 p.noise, .int .i64 p.slab, .int .i64 p.jump, .int .i64 p.faults, .slice A p.log.length c, .slice A1 n1 c1] 87
set_option maxRecDepth 100000 in
set_option maxHeartbeats 3200000 in
theorem contra_any (p : Pil) (A : Option Addr) (c : Nat) (A1 : Option Addr) (c1 : Nat) (ws : List (Int × Int)) (A2 : Option Addr) (c2 : Nat) (l : List Int) (i k : Nat) (w : World) (hik : i < k) (hkl : k < l.length) (hp : Ok p) (hwe : weatherB p ws = true) (hca : caseB p l = true) (hA : Kd.C kSpan w A p.log.length p.log) (hw : Kd.C kSpan w A1 ws.length ws) (hl : Kd.C kInt w A2 l.length l) :
    Calls Tryd.prog 68 #[storyv p A c A1 ws.length c1, .slice A2 l.length c2, .int .i64 i, .int .i64 k] w fun e w' => e = .returned (.bool (contraB p ws l i k)) ∧ Below w.heap.size w w' := by
  have hlen : l.length = p.log.length := by
    simp only [caseB, Bool.and_eq_true, beq_iff_eq] at hca
    exact hca.1
  have hwl : ws.length = p.log.length - 1 := by
    simp only [weatherB, Bool.and_eq_true, beq_iff_eq] at hwe
    exact hwe.1
  have hL := hp.l
  have hle : l.length ≤ 32 := by omega
  have hbox : Below w.heap.size w (w.alloc (boxS p A c A1 ws.length c1)) := (Below.refl _ _).alloc (Nat.le_refl _) _
  have HA := Lib.hid (Kd.C_below hA hbox)
  have HW := Lib.hid (Kd.C_below hw hbox)
  have HL := Lib.hid (Kd.C_below hl hbox)
  have HP := Lib.hid hp
  have HCA := Lib.hid hca
  have HWE := Lib.hid hwe
  have HN := Lib.hid hlen
  have HWL := Lib.hid hwl
  clear hA hw hl hp hca hwe hlen hwl
  obtain ⟨ad, rfl, a1⟩ := at_i HL.out i (by omega)
  have l0 := World.block_lt_of_cell? _ _ a1
  rw [blk_add] at l0
  change _ = some (Value.int .i64 (at0 l i)) at a1
  have hT : ∀ w2, Below (w.heap.size + 1) (w.alloc (boxS p A c A1 ws.length c1)) w2 → w2.cell? (ad.add i) = some (.int .i64 (at0 l i)) ∧ w2.cell? ⟨w.heap.size, 0, none⟩ = some (.int .i64 p.no) ∧ w2.cell? ⟨w.heap.size, 1, none⟩ = some (.int .i64 p.cell) ∧ w2.cell? ⟨w.heap.size, 2, none⟩ = some (.int .i64 p.noise) ∧ w2.cell? ⟨w.heap.size, 3, none⟩ = some (.int .i64 p.slab) ∧ w2.cell? ⟨w.heap.size, 4, none⟩ = some (.int .i64 p.jump) ∧ w2.cell? ⟨w.heap.size, 5, none⟩ = some (.int .i64 p.faults) ∧ w2.cell? ⟨w.heap.size, 6, none⟩ = some (.slice A p.log.length c) := fun w2 hb2 => by
    have hb3 : Below (w.alloc (boxS p A c A1 ws.length c1)).heap.size (w.alloc (boxS p A c A1 ws.length c1)) w2 := hb2.mono (by simp)
    refine ⟨pw_cell_below hb3 a1, ?_, ?_, ?_, ?_, ?_, ?_, ?_⟩ <;> (refine pw_cell_below hb3 ?_; simp)
  have HT := Lib.hid hT
  have j1 : (i : Int) < (l.length : Int) := by omega
  have j2 : i < l.length := by omega
  have j3 : 0 ≤ (i : Int) := by omega
  clear hT a1
  have HLO : Hid (∀ w2, Below (w.heap.size + 1) (w.alloc (boxS p A c A1 ws.length c1)) w2 → Calls Tryd.prog 72 #[p.val A c, .int .i64 i, .int .i64 (at0 l i)] w2 fun e w' => e = .returned (spv (loadsF p i (at0 l i)).1 (loadsF p i (at0 l i)).2) ∧ Below w2.heap.size w2 w') := fun w2 hb2 =>
    loads_any p A c i _ w2 HP.out (Kd.C_below HA.out (hb2.mono (by simp))) (by have := HN.out; omega)
  have HSZ : Hid (∀ w2, Below (w.heap.size + 1) (w.alloc (boxS p A c A1 ws.length c1)) w2 → w.heap.size + 1 ≤ w2.heap.size) := fun w2 hb2 => by have := hb2.size; simpa using this
  go_enter Tryd.func68, Tryd.ntmps68
  go_upto_region 1 with fail
  go_cut [9] (fun v9 wc => ∃ g, v9 = .pointer (some ⟨g, 0, none⟩) ∧ w.heap.size < g ∧ Hid (Blk wc g 42 (sc [loadsF p i (at0 l i)])) ∧ Below (w.heap.size + 1) (w.alloc (boxS p A c A1 ws.length c1)) wc)
  case first =>
    go_region_held3 (fun w2 => w2.cell? (ad.add i) = some (.int .i64 (at0 l i)) ∧ w2.cell? ⟨w.heap.size, 0, none⟩ = some (.int .i64 p.no) ∧ w2.cell? ⟨w.heap.size, 1, none⟩ = some (.int .i64 p.cell) ∧ w2.cell? ⟨w.heap.size, 2, none⟩ = some (.int .i64 p.noise) ∧ w2.cell? ⟨w.heap.size, 3, none⟩ = some (.int .i64 p.slab) ∧ w2.cell? ⟨w.heap.size, 4, none⟩ = some (.int .i64 p.jump) ∧ w2.cell? ⟨w.heap.size, 5, none⟩ = some (.int .i64 p.faults) ∧ w2.cell? ⟨w.heap.size, 6, none⟩ = some (.slice A p.log.length c)) (exact HT.out _ (by repeat (first | exact Below.refl _ _ | refine below_drew ?_ | refine Below.alloc ?_ (by first | (simp; done) | (simp; omega) | omega) _ | refine Below.setCell ?_ (by first | (simp; done) | (simp; omega) | omega) _ | refine Below.trans ?_ (hb1.mono (by first | (simp; done) | (simp; omega) | omega))))) (first | (go_at_call 72; refine (HLO.out _ (by repeat (first | exact Below.refl _ _ | refine below_drew ?_ | refine Below.alloc ?_ (by first | (simp; done) | (simp; omega) | omega) _ | refine Below.setCell ?_ (by first | (simp; done) | (simp; omega) | omega) _ | refine Below.trans ?_ (hb1.mono (by first | (simp; done) | (simp; omega) | omega))))).mono ?_; rintro e w1 ⟨rfl, hb1⟩; have hs1 : w.heap.size + 1 ≤ w1.heap.size := (by have h := hb1.size; simp at h; omega); obtain ⟨hc1, hf1⟩ := bcell hb1))
    all_goals (go_wp2_with fail; go_meet)
    · exact ⟨_, rfl, by omega, Blk.new w1 42 (sc [loadsF p i (at0 l i)]), by repeat (first | exact Below.refl _ _ | refine below_drew ?_ | refine Below.alloc ?_ (by first | (simp; done) | (simp; omega) | omega) _ | refine Below.setCell ?_ (by first | (simp; done) | (simp; omega) | omega) _ | refine Below.trans ?_ (hb1.mono (by first | (simp; done) | (simp; omega) | omega)))⟩
    · refine ⟨_, rfl, by omega, ?_, by repeat (first | exact Below.refl _ _ | refine below_drew ?_ | refine Below.alloc ?_ (by first | (simp; done) | (simp; omega) | omega) _ | refine Below.setCell ?_ (by first | (simp; done) | (simp; omega) | omega) _ | refine Below.trans ?_ (hb1.mono (by first | (simp; done) | (simp; omega) | omega)))⟩
      have h := (Blk.new (w.alloc (boxS p A c A1 ws.length c1)) 42 (sc [(0, 0)])).below (w' := w1) ⟨hb1.os, hb1.tape, hb1.output, hb1.size, hb1.block⟩
      have h2 := h.set2 0 (loadsF p i (at0 l i)).1 (loadsF p i (at0 l i)).2
      show Blk _ _ _ _
      simpa using h2
  case rest =>
    obtain ⟨g, rfl, hg, hblk, hb⟩ := hcut
    clear hbox
    go_wp2
    go_loopw [10] (fun vn wr => ∃ n : Nat, i ≤ n ∧ n ≤ k ∧ vn = .int .i64 n ∧ Hid (Blk wr g 42 (sc [accF p ws l i (n - i)])) ∧ Below (w.heap.size + 1) (w.alloc (boxS p A c A1 ws.length c1)) wr)
      (fun vn _ => k - (intOf vn).toNat)
    case atStart => exact ⟨i, by omega, by omega, rfl, by rw [Nat.sub_self]; exact hblk, hb⟩
    case round =>
      clear hblk hb
      obtain ⟨n, hn1, hn2, rfl, hblk, hb⟩ := hrel
      have hz : w.heap.size + 1 ≤ wr.heap.size := HSZ.out _ hb
      have hgz := hblk.out.lt
      obtain ⟨hc, hf⟩ := bcell1 hb
      have hab := acc_bd p ws l HP.out HWE.out i (n - i)
      have hF1 : small (accF p ws l i (n - i)).1 := by unfold small; omega
      have hF2 : small (accF p ws l i (n - i)).2 := by unfold small; omega
      have b1 : wr.cell? ⟨g, 0, none⟩ = some (.int .i64 (accF p ws l i (n - i)).1) := hblk.out.cell 0
      have b2 : wr.cell? ⟨g, 1, none⟩ = some (.int .i64 (accF p ws l i (n - i)).2) := hblk.out.cell 1
      clear hab
      by_cases hnk : n < k
      · obtain ⟨adw, rfl, q1, q2⟩ := at_span (Kd.C_below HW.out (hb.mono (by simp))) n (by have := HN.out; have := HWL.out; omega)
        change _ = some (Value.int .i64 (sp ws n).1) at q1
        change _ = some (Value.int .i64 (sp ws n).2) at q2
        have hsb := weather_at HWE.out n
        have hS1 : small (sp ws n).1 := by unfold small; omega
        have hS2 : small (sp ws n).2 := by unfold small; omega
        have HAC := Lib.hid (show accF p ws l i (n + 1 - i) = ((accF p ws l i (n - i)).1 + (sp ws n).1, (accF p ws l i (n - i)).2 + (sp ws n).2) by
          rw [show n + 1 - i = (n - i) + 1 by omega]
          show ((accF p ws l i (n - i)).1 + (sp ws (i + (n - i))).1, (accF p ws l i (n - i)).2 + (sp ws (i + (n - i))).2) = _
          rw [show i + (n - i) = n by omega])
        clear hsb
        have i5 : n < ws.length := by have := HWL.out; have := HN.out; omega
        have i6 : (n : Int) < (ws.length : Int) := by omega
        generalize (accF p ws l i (n - i)).1 = F1 at *
        generalize (accF p ws l i (n - i)).2 = F2 at *
        generalize (sp ws n).1 = S1 at *
        generalize (sp ws n).2 = S2 at *
        have hT : ∀ w3, Below wr.heap.size wr w3 → w3.cell? ⟨g, 0, none⟩ = some (.int .i64 F1) ∧ w3.cell? ⟨g, 1, none⟩ = some (.int .i64 F2) ∧ w3.cell? ⟨w.heap.size, 7, none⟩ = some (.slice (some adw) ws.length c1) ∧ w3.cell? (adw.add (n * 2)) = some (.int .i64 S1) ∧ w3.cell? ⟨adw.block, (adw.add (n * 2)).off + 1, none⟩ = some (.int .i64 S2) := fun w3 hb3 => by
          refine ⟨pw_cell_below hb3 b1, pw_cell_below hb3 b2, ?_, pw_cell_below hb3 q1, pw_cell_below hb3 q2⟩
          refine pw_cell_below hb3 ?_; rw [hc _ _ (by omega)]; simp
        have HT := Lib.hid hT
        clear hT q1 q2 b1 b2 hc hf
        go_wp2
        refine wp_region_tail 7 (fun w3 => Below wr.heap.size wr w3) (by kernel_rfl) (by kernel_rfl) (below_drew (Below.refl _ _)) ?_
        simp only [List.take_succ_cons, List.take_zero, List.drop_succ_cons, List.drop_zero]
        repeat (refine wpQuiet_step (fun K hK => ?_); go_simp; (first | (refine hK _ ?_) | (refine ⟨_, fun _ _ => rfl, hK _ ?_⟩) | (refine ⟨_, fun w3 hw3 => less_exact trivial (add_any _ _ _ _ w3 hF1 hF2 hS1 hS2) hw3 hw3.size, hK _ ?_⟩) | (apply Exists.intro; refine ⟨fun w3 hw3 => ?_, hK _ ?_⟩; focus (have t1 := (HT.out w3 hw3).1; have t2 := (HT.out w3 hw3).2.1; have t3 := (HT.out w3 hw3).2.2.1; have t4 := (HT.out w3 hw3).2.2.2.1; have t5 := (HT.out w3 hw3).2.2.2.2; first | (go_simp; done) | (go_simp; rfl)))); clear hK K)
        refine wpQuiet_nil ?_
        intro w3 hw3
        have hfB := (hblk.out.below hw3).frozen
        have c1' := (HT.out w3 hw3).1
        have c2' := (HT.out w3 hw3).2.1
        go_wp2_with fail
        go_roundw
        case rel =>
          refine ⟨n + 1, by omega, by omega, by go_num, ?_, ((hb.trans (hw3.mono hz)).setCell (by simp; omega) _).setCell (by simp; omega) _⟩
          have h := (hblk.out.below hw3).set2 0 (F1 + S1) (F2 + S2)
          rw [HAC.out]
          show Blk _ _ _ _
          simpa using h
        case measure => simp [intOf]; omega
      · obtain rfl : n = k := by omega
        obtain ⟨ad', e', q1⟩ := at_i (Kd.C_below HL.out (hb.mono (by simp))) n (by omega)
        obtain rfl := Option.some.inj e'
        change _ = some (Value.int .i64 (at0 l n)) at q1
        have i5 : n < l.length := hkl
        have i6 : (n : Int) < (l.length : Int) := by omega
        have HF := Lib.hid (show contraB p ws l i n = decide (min (accF p ws l i (n - i)).2 (loadsF p n (at0 l n)).2 < max (accF p ws l i (n - i)).1 (loadsF p n (at0 l n)).1) from rfl)
        generalize (accF p ws l i (n - i)).1 = F1 at *
        generalize (accF p ws l i (n - i)).2 = F2 at *
        have HLK : Hid (∀ w2, Below wr.heap.size wr w2 → Calls Tryd.prog 72 #[p.val A c, .int .i64 n, .int .i64 (at0 l n)] w2 fun e w' => e = .returned (spv (loadsF p n (at0 l n)).1 (loadsF p n (at0 l n)).2) ∧ Below w2.heap.size w2 w') := fun w2 hb2 =>
          loads_any p A c n _ w2 HP.out (Kd.C_below (Kd.C_below HA.out (hb.mono (by simp))) hb2) (by have := HN.out; omega)
        have hT : ∀ w3, Below wr.heap.size wr w3 → w3.cell? ⟨g, 0, none⟩ = some (.int .i64 F1) ∧ w3.cell? ⟨g, 1, none⟩ = some (.int .i64 F2) ∧ w3.cell? (ad.add n) = some (.int .i64 (at0 l n)) ∧ (∀ b o, b < w.heap.size + 1 → w3.cell? ⟨b, o, none⟩ = (w.alloc (boxS p A c A1 ws.length c1)).cell? ⟨b, o, none⟩) := fun w3 hb3 =>
          ⟨pw_cell_below hb3 b1, pw_cell_below hb3 b2, pw_cell_below hb3 q1, fun b o h => ((bcell hb3).1 b o (by omega)).trans (hc b o h)⟩
        have HT := Lib.hid hT
        clear hT q1 b1 b2 hc hf
        go_wp2
        refine wp_region_quiet (C := fun w3 => Below wr.heap.size wr w3) (by kernel_rfl) (by kernel_rfl) (below_drew (Below.refl _ _)) ?_
        simp only [List.toList_toArray]
        repeat (refine wpQuiet_step (fun K hK => ?_); go_simp; (first | (refine hK _ ?_) | (refine ⟨_, fun _ _ => rfl, hK _ ?_⟩) | (refine ⟨_, fun w3 hw3 => less_exact trivial (HLK.out w3 hw3) hw3 hw3.size, hK _ ?_⟩) | (refine ⟨_, fun w3 hw3 => less_exact trivial (meet_any _ _ _ _ w3) hw3 hw3.size, hK _ ?_⟩) | (refine ⟨_, fun w3 hw3 => less_exact trivial (none_any _ _ w3) hw3 hw3.size, hK _ ?_⟩) | (apply Exists.intro; refine ⟨fun w3 hw3 => ?_, hK _ ?_⟩; focus (have t1 := (HT.out w3 hw3).1; have t2 := (HT.out w3 hw3).2.1; have t3 := (HT.out w3 hw3).2.2.1; have t4 := (HT.out w3 hw3).2.2.2; first | (go_simp; done) | (go_simp; rfl)))); clear hK K)
        refine wpQuiet_nil ?_
        intro w3 hw3
        go_wp2
        go_ret
        exact ⟨ret_bool HF.out.symm, ((Below.refl _ _).alloc (Nat.le_refl _) _).trans ((hb.trans (hw3.mono hz)).mono (by omega))⟩
end Go.Proofs.YtiidkekmklbobaaDoor
set_option linter.unusedVariables false
set_option linter.unusedSimpArgs false
namespace Go.Proofs.YtiidkekmklbobaaDoor
open Go.RowKit Go.Proofs.YtiidkekmklbobaaDoorW.PrintWords
attribute [local go_sem] mx_two mn_two blk_add
def pairF (f : Nat → Nat → Bool) (n : Nat) : Option (Nat × Nat) := (List.range n).findSome? fun i => ((List.range n).find? fun k => decide (i < k) && f i k).map fun k => (i, k)
theorem find_range_none {f : Nat → Bool} {n : Nat} (h : ∀ k, k < n → f k = false) : (List.range n).find? f = none := by
  rw [List.find?_eq_none]
  intro k hk
  simp [h k (by simpa using hk)]
theorem find_range_some {f : Nat → Bool} {n k : Nat} (hk : k < n) (h : ∀ j, j < k → f j = false) (hf : f k = true) : (List.range n).find? f = some k := by
  rw [List.find?_range_eq_some]
  exact ⟨hf, by simpa using hk, fun j hj => by simp [h j hj]⟩
theorem pair_none {f : Nat → Nat → Bool} {n : Nat} (h : ∀ i, i < n → ∀ k, i < k → k < n → f i k = false) : pairF f n = none := by
  unfold pairF
  rw [List.findSome?_eq_none_iff]
  intro i hi
  rw [find_range_none]
  · rfl
  · intro k hk
    by_cases hik : i < k
    · simp [h i (by simpa using hi) k hik hk]
    · simp [hik]
theorem pair_some {f : Nat → Nat → Bool} {n i k : Nat} (hik : i < k) (hk : k < n) (h : ∀ i', i' < i → ∀ k', i' < k' → k' < n → f i' k' = false) (h2 : ∀ k', i < k' → k' < k → f i k' = false) (hf : f i k = true) : pairF f n = some (i, k) := by
  unfold pairF
  have e : List.range n = List.range i ++ (i :: (List.range (n - i - 1)).map fun j => i + 1 + j) := by
    apply List.ext_getElem
    · simp; omega
    · intro j h1 h2
      simp only [List.getElem_range, List.getElem_append, List.length_range, List.getElem_cons, List.getElem_map]
      split
      · rfl
      · split <;> omega
  conv => lhs; arg 2; rw [e]
  rw [List.findSome?_append, List.findSome?_eq_none_iff.2 ?_]
  · rw [List.findSome?_cons]
    rw [find_range_some (k := k) hk ?_ (by simp [hik, hf])]
    · rfl
    · intro j hj
      by_cases hij : i < j
      · simp [h2 j hij hj]
      · simp [hij]
  · intro i' hi'
    rw [find_range_none]
    · rfl
    · intro k' hk'
      by_cases hik' : i' < k'
      · simp [h i' (by simpa using hi') k' hik' hk']
      · simp [hik']
def refuteF (p : Pil) (ws : List (Int × Int)) (l : List Int) : Option (Nat × Nat) := pairF (contraB p ws l) l.length
def refuteR (p : Pil) (ws : List (Int × Int)) (l : List Int) : (Int × Int) × Bool × Int :=
  if toldF p ws l = 0 then (match refuteF p ws l with | some x => (((x.1 : Int), (x.2 : Int)), true, 0) | none => ((0, 0), false, 0)) else ((0, 0), false, toldF p ws l)
def refuteV (x : (Int × Int) × Bool × Int) : Value := .tuple #[spv x.1.1 x.1.2, .bool x.2.1, .int .i64 x.2.2]
theorem Blk.alloc {w : World} {g : Nat} {t : TypeId} {cs : List Value} (h : Blk w g t cs) (o : Obj) : Blk (w.alloc o) g t cs := h.below ((Below.refl _ _).alloc (Nat.le_refl _) _)
abbrev cellsS (p : Pil) (A : Option Addr) (c : Nat) (A1 : Option Addr) (n1 c1 : Nat) : List Value := [.int .i64 p.no, .int .i64 p.cell, .int .i64 p.noise, .int .i64 p.slab, .int .i64 p.jump, .int .i64 p.faults, .slice A p.log.length c, .slice A1 n1 c1]
set_option maxRecDepth 100000 in
set_option maxHeartbeats 1600000 in
theorem refute_any (p : Pil) (A : Option Addr) (c : Nat) (A1 : Option Addr) (c1 : Nat) (ws : List (Int × Int)) (A2 : Option Addr) (c2 : Nat) (l : List Int) (w : World) (hA : Kd.C kSpan w A p.log.length p.log) (hw : Kd.C kSpan w A1 ws.length ws) (hl : Kd.C kInt w A2 l.length l) :
    Calls Tryd.prog 32 #[p.val A c, .slice A1 ws.length c1, .slice A2 l.length c2] w fun e w' => e = .returned (refuteV (refuteR p ws l)) ∧ Below w.heap.size w w' := by
  have hbox : Below w.heap.size w ((w.alloc (boxP p A c 24)).alloc (.cells #[.int .i64 0, .int .i64 0] 49)) := ((Below.refl _ _).alloc (Nat.le_refl _) _).alloc (by simp) _
  have HA := Lib.hid (Kd.C_below hA hbox)
  have HW := Lib.hid (Kd.C_below hw hbox)
  have HL := Lib.hid (Kd.C_below hl hbox)
  have HN := Lib.hid hw.2.1
  clear hA hw hl
  rcases told_cases p ws l with ⟨h0, h1, h2, h3⟩ | h0
  · have HE := Lib.hid h0
    have hok := Lib.hid (ok_of_check h1)
    have H2 := Lib.hid h2
    have H3 := Lib.hid h3
    have HE0 := Lib.hid h0
    clear h0 h1 h2 h3
    go_enter Tryd.func32, Tryd.ntmps32
    go_wp2_with (first | (go_at_call 62; refine (told_any p A c A1 _ ws A2 _ l _ HA.out HW.out HL.out HN.out).mono ?_; rw [HE.out]; rintro e w1 ⟨rfl, hb⟩; obtain ⟨hc, hf⟩ := bcell hb))
    have hlen : l.length = p.log.length := by
      have hca := H3.out
      simp only [caseB, Bool.and_eq_true, beq_iff_eq] at hca
      exact hca.1
    have hL := hok.out.l
    have hle : l.length ≤ 32 := by omega
    have HLEN := Lib.hid hlen
    clear hlen hc hf
    have hbR := Lib.hid (((Blk.new (w.alloc (boxP p A c 24)) 49 [.int .i64 0, .int .i64 0]).below hb).alloc (boxS p A c A1 ws.length c1))
    have hbS := Lib.hid (Blk.new w1 87 (cellsS p A c A1 ws.length c1))
    have hW2 : Below w.heap.size w (w1.alloc (boxS p A c A1 ws.length c1)) := (hbox.trans (hb.mono (by simp; omega))).alloc (by have := hb.size; simp at this; omega) _
    rw [show (w.alloc (boxP p A c 24)).heap.size = w.heap.size + 1 by simp] at hbR
    have HA2 := Lib.hid (Kd.C_below (Kd.C_below HA.out hb) ((Below.refl _ _).alloc (Nat.le_refl _) (boxS p A c A1 ws.length c1)))
    have HW2 := Lib.hid (Kd.C_below (Kd.C_below HW.out hb) ((Below.refl _ _).alloc (Nat.le_refl _) (boxS p A c A1 ws.length c1)))
    have HL2 := Lib.hid (Kd.C_below (Kd.C_below HL.out hb) ((Below.refl _ _).alloc (Nat.le_refl _) (boxS p A c A1 ws.length c1)))
    generalize w1.alloc (.cells #[.int .i64 p.no, .int .i64 p.cell, .int .i64 p.noise, .int .i64 p.slab, .int .i64 p.jump, .int .i64 p.faults, .slice A p.log.length c, .slice A1 ws.length c1] 87) = W2 at *
    generalize w1.heap.size = g at *
    clear hb HA HW HL hbox HE HN
    have z0 := hW2.size
    have z1 := hbR.out.lt
    have z2 := hbS.out.lt
    have r0 : ∀ j, W2.frozen? ⟨w.heap.size + 1, j, none⟩ = false := hbR.out.frozen
    have q0 : W2.cell? ⟨w.heap.size + 1, 0, none⟩ = some (.int .i64 0) := hbR.out.cell 0
    have q1 : W2.cell? ⟨w.heap.size + 1, 1, none⟩ = some (.int .i64 0) := hbR.out.cell 1
    have s0 : W2.cell? ⟨g, 0, none⟩ = some (.int .i64 p.no) := hbS.out.cell 0
    have s1 : W2.cell? ⟨g, 1, none⟩ = some (.int .i64 p.cell) := hbS.out.cell 1
    have s2 : W2.cell? ⟨g, 2, none⟩ = some (.int .i64 p.noise) := hbS.out.cell 2
    have s3 : W2.cell? ⟨g, 3, none⟩ = some (.int .i64 p.slab) := hbS.out.cell 3
    have s4 : W2.cell? ⟨g, 4, none⟩ = some (.int .i64 p.jump) := hbS.out.cell 4
    have s5 : W2.cell? ⟨g, 5, none⟩ = some (.int .i64 p.faults) := hbS.out.cell 5
    have s6 : W2.cell? ⟨g, 6, none⟩ = some (.slice A p.log.length c) := hbS.out.cell 6
    have s7 : W2.cell? ⟨g, 7, none⟩ = some (.slice A1 ws.length c1) := hbS.out.cell 7
    have HCo : Hid (∀ i k w2, i < k → k < l.length → Below W2.heap.size W2 w2 → Calls Tryd.prog 68 #[storyv p A c A1 ws.length c1, .slice A2 l.length c2, .int .i64 i, .int .i64 k] w2 fun e w' => e = .returned (.bool (contraB p ws l i k)) ∧ Below w2.heap.size w2 w') := fun i k w2 h1 h2 hb2 =>
      contra_any p A c A1 c1 ws A2 c2 l i k w2 h1 h2 hok.out H2.out H3.out (Kd.C_below HA2.out hb2) (Kd.C_below HW2.out hb2) (Kd.C_below HL2.out hb2)
    have hF : Hid (refuteR p ws l = match refuteF p ws l with | some x => (((x.1 : Int), (x.2 : Int)), true, 0) | none => ((0, 0), false, 0)) := by
      show refuteR p ws l = _
      unfold refuteR; rw [if_pos HE0.out]
    clear HA2 HW2 HL2
    go_loopw [27] (fun vi wr => ∃ i : Nat, i ≤ l.length ∧ vi = .int .i64 i ∧ Below W2.heap.size W2 wr ∧ Hid (∀ i', i' < i → ∀ k', i' < k' → k' < l.length → contraB p ws l i' k' = false))
      (fun vi _ => l.length - (intOf vi).toNat)
    case atStart => exact ⟨0, Nat.zero_le _, rfl, Below.refl _ _, fun i h => absurd h (by omega)⟩
    case round =>
      obtain ⟨i, hi, rfl, hb, hall⟩ := hrel
      obtain ⟨hc, hf⟩ := bcell hb
      have hz := hb.size
      by_cases hlt : i < l.length
      · go_wp2
        obtain ⟨wo, rfl⟩ : ∃ wo : World, wo = wr := ⟨_, rfl⟩
        go_loopw [12] (fun vk wr => ∃ k : Nat, i < k ∧ k ≤ l.length ∧ vk = .int .i64 k ∧ Below W2.heap.size W2 wr ∧ Hid (∀ k', i < k' → k' < k → contraB p ws l i k' = false))
          (fun vk _ => l.length - (intOf vk).toNat)
        case atStart => exact ⟨i + 1, by omega, by omega, by go_num, hb, fun k' h h2 => absurd h (by omega)⟩
        case round =>
          clear hb hc hf hz
          obtain ⟨k, hik, hk, rfl, hb, hall2⟩ := hrel
          obtain ⟨hc, hf⟩ := bcell hb
          have hz := hb.size
          by_cases hkl : k < l.length
          · have HC := Lib.hid (HCo.out i k wr hik hkl hb)
            cases hcb : contraB p ws l i k
            · have HCB := Lib.hid hcb
              clear hcb
              go_wp2_with (go_at_call 68; refine HC.out.mono ?_; rw [HCB.out]; rintro e w3 ⟨rfl, hb3⟩)
              go_roundw
              case rel => exact ⟨k + 1, by omega, by omega, by go_num, hb.trans (hb3.mono hz), fun k' h h2 => by
                rcases Nat.lt_or_ge k' k with h3 | h3
                · exact hall2.out k' h h3
                · obtain rfl : k' = k := by omega
                  exact HCB.out⟩
              case measure => simp [intOf]; omega
            · have HCB := Lib.hid hcb
              have hR := Lib.hid (show refuteF p ws l = some (i, k) from pair_some hik hkl hall.out hall2.out hcb)
              clear hcb
              go_wp2_with (go_at_call 68; refine HC.out.mono ?_; rw [HCB.out]; rintro e w3 ⟨rfl, hb3⟩; obtain ⟨hc3, hf3⟩ := bcell (hb.trans (hb3.mono hz)))
              refine bodyPost_ret (v := .tuple #[spv i k, .bool true, .int .i64 0]) (by simp [results, Tryd.results32, go_sem, hc3, hf3, q0, q1, z1]) rfl ⟨?_, ?_⟩
              · rw [hF.out, hR.out]; rfl
              · exact ((hW2.trans ((hb.trans (hb3.mono hz)).mono z0)).setCell (by simp) _).setCell (by simp) _
          · obtain rfl : k = l.length := by omega
            go_wp2
            go_roundw
            case rel => exact ⟨i + 1, by omega, by go_num, hb, fun i' h k' h1 h2 => by
              rcases Nat.lt_or_ge i' i with h3 | h3
              · exact hall.out i' h3 k' h1 h2
              · obtain rfl : i' = i := by omega
                exact hall2.out k' h1 h2⟩
            case measure => simp [intOf]; omega
      · obtain rfl : i = l.length := by omega
        have hR := Lib.hid (show refuteF p ws l = none from pair_none hall.out)
        go_wp2
        refine bodyPost_ret (v := .tuple #[spv 0 0, .bool false, .int .i64 0]) (by simp [results, Tryd.results32, go_sem, hc, hf, q0, q1, z1]) rfl ⟨?_, ?_⟩
        · rw [hF.out, hR.out]; rfl
        · exact ((hW2.trans (hb.mono z0)).setCell (by simp) _).setCell (by simp) _
  · have hF := Lib.hid (show refuteR p ws l = ((0, 0), false, toldF p ws l) by simp [refuteR, h0])
    have hne : (toldF p ws l != 0) = true := by simpa using h0
    clear h0
    have HT := Lib.hid (told_any p A c A1 c1 ws A2 c2 l ((w.alloc (boxP p A c 24)).alloc (.cells #[.int .i64 0, .int .i64 0] 49)) HA.out HW.out HL.out HN.out)
    generalize toldF p ws l = E at *
    go_enter Tryd.func32, Tryd.ntmps32
    go_wp2_with (go_at_call 62; refine HT.out.mono ?_; rintro e w1 ⟨rfl, hb⟩; obtain ⟨hc, hf⟩ := bcell hb)
    refine bodyPost_ret (v := .tuple #[spv 0 0, .bool false, .int .i64 E]) (by simp [results, Tryd.results32, go_sem, hc, hf]) rfl ⟨?_, ?_⟩
    · rw [hF.out]; rfl
    · exact ((hbox.trans (hb.mono (by simp; omega))).setCell (by simp) _).setCell (by simp) _
end Go.Proofs.YtiidkekmklbobaaDoor
