/- Contracts: the sort, unions, next, chance. -/
import Derived.Test.YtiidkekmklbobaaDoorM2
import Derived.Test.YtiidkekmklbobaaDoorSh
set_option linter.unusedVariables false
set_option linter.unusedSimpArgs false
namespace Go.Proofs.YtiidkekmklbobaaDoor
open Go.RowKit Go.Proofs.YtiidkekmklbobaaDoorW.PrintWords
attribute [local go_sem] mx_two mn_two blk_add
open Go.Sort (putRow mapBlock putCells Holds flatK HoldsK putRowK SWO PermIn SortedIn grow size_flatK get_flatK)
/-! ## Rows of spans of the call's own; slices.SortFunc -/
def OwnS (w : World) (base : Nat) (v : Value) (xs : List (Int × Int)) : Prop := w.ownsRow base 42 2 v xs.length (sc xs)
structure SmI where
  x : Int × Int
  h : small x.1 ∧ small x.2
instance : Inhabited SmI := ⟨⟨(0, 0), by unfold small; decide⟩⟩
def encS (s : SmI) : List Value := [.int .i64 s.x.1, .int .i64 s.x.2]
def cfS (a b : SmI) : Int := a.x.1 - b.x.1
theorem ltS (a b : SmI) : ltOf cfS a b = decide (a.x.1 < b.x.1) := by
  unfold ltOf cfS
  by_cases h : a.x.1 < b.x.1
  · simp [h]; omega
  · simp [h]; omega
theorem swoS : SWO (ltOf cfS) where
  irrefl x := by rw [ltS]; simp
  trans x y z h1 h2 := by rw [ltS] at *; simp at *; omega
  ntrans x y z h1 h2 := by rw [ltS] at *; simp at *; omega
theorem closure98' (a b c d : Int) (W : World) (ha : small a) (hc : small c) : Calls Tryd.prog 98 #[.agg #[.int .i64 a, .int .i64 b], .agg #[.int .i64 c, .int .i64 d]] W fun e w' => e = .returned (.int .i64 (a - c)) ∧ ∃ q os', w' = grow (W.drewN q) os' := by
  obtain ⟨a5, a6⟩ := ha
  obtain ⟨b5, b6⟩ := hc
  go_enter Tryd.func98, Tryd.ntmps98
  go_wp2
  go_ret
  exact ⟨rfl, 0, _, by rw [Go.Sort.alloc_eq_grow, Go.Sort.alloc_eq_grow, Go.Sort.grow_grow]; rfl⟩
theorem closure98 (a b : SmI) (W : World) : Calls Tryd.prog 98 #[.agg #[.int .i64 a.x.1, .int .i64 a.x.2], .agg #[.int .i64 b.x.1, .int .i64 b.x.2]] W fun e w' => e = .returned (.int .i64 (cfS a b)) ∧ ∃ q os', w' = grow (W.drewN q) os' := closure98' _ _ _ _ W a.h.1 b.h.1
theorem sc_flat (ss : List SmI) : (flatK encS 2 ss.toArray).toList = sc (ss.map (·.x)) := by
  apply List.ext_getElem?
  intro t
  by_cases ht : t < ss.length * 2
  · have hi : t / 2 < ss.length := by omega
    obtain ⟨g1, g2⟩ := sc_get (ss.map (·.x)) (t / 2) (by simpa using hi)
    have e1 : (flatK encS 2 ss.toArray)[t]! = (encS ss[t / 2])[t % 2]! := by
      rw [get_flatK _ _ _ t (by simpa using ht)]
      congr 1
      simp [hi]
    have hs : t < (flatK encS 2 ss.toArray).size := by simpa using ht
    rw [Array.getElem?_toList, Array.getElem?_eq_getElem hs, ← getElem!_pos _ t hs, e1]
    have e2 : (ss.map (·.x)).getD (t / 2) (0, 0) = ss[t / 2].x := by simp [List.getD_eq_getElem?_getD, hi]
    rw [e2] at g1 g2
    rcases Nat.mod_two_eq_zero_or_one t with h | h
    · have : t = t / 2 * 2 := by omega
      rw [h]
      rw [show (sc (ss.map (·.x)))[t]? = _ from (congrArg _ this).trans g1]; rfl
    · have : t = t / 2 * 2 + 1 := by omega
      rw [h]
      rw [show (sc (ss.map (·.x)))[t]? = _ from (congrArg _ this).trans g2]; rfl
  · rw [List.getElem?_eq_none (by simp; omega), List.getElem?_eq_none (by rw [sc_length]; simp; omega)]
theorem holdsS {w : World} {g : Nat} {cur : Array Value} {e : TypeId} {ss : List SmI} (hb : w.heap[g]? = some (.cells cur e (0, 0))) (ht : cur.toList.take (ss.length * 2) = sc (ss.map (·.x))) : HoldsK encS 2 w g 0 ss.toArray := by
  intro j hj
  have hj' : j < ss.length * 2 := by simpa using hj
  refine ⟨?_, by simp [World.frozen?, hb]⟩
  have h1 : (cur.toList.take (ss.length * 2))[j]? = (flatK encS 2 ss.toArray).toList[j]? := by rw [ht, sc_flat]
  rw [List.getElem?_take_of_lt hj'] at h1
  simp only [World.cell?, hb, Nat.zero_add]
  simp only [Option.isSome_none, Bool.false_eq_true, if_false]
  rw [← Array.getElem?_toList, h1, Array.getElem?_toList, Array.getElem?_eq_getElem hj, getElem!_pos _ j hj]
  rfl
theorem heap_sortedS {w : World} {g n : Nat} {os : Array Obj} {cur : Array Value} {e : TypeId} {fr : Nat × Nat} (d : Array SmI) (hb : w.heap[g]? = some (.cells cur e fr)) :
    (sortWorldK encS 2 w g 0 n d os).heap[g]? = some (.cells (putCells id 0 (flatK encS 2 d) cur) e fr) := by
  have hg : g < w.heap.size := (Array.getElem?_eq_some_iff.1 hb).1
  unfold sortWorldK putRowK
  rw [Go.Sort.heap_grow_old _ _ (by simpa using hg)]
  simp [putRow, mapBlock, Go.Sort.ahead, Array.getElem?_modify, hb, Go.Sort.onCells]
theorem grownBy_sortedS {w : World} {g n : Nat} {os : Array Obj} (d : Array SmI) : w.grownBy (sortWorldK encS 2 w g 0 n d os) (some g) := by
  unfold sortWorldK putRowK
  refine ⟨rfl, rfl, rfl, by simp, fun k hk hne => ?_⟩
  rw [Go.Sort.heap_grow_old _ _ (by simpa using hk)]
  have : g ≠ k := fun e => hne (by rw [e])
  simp [putRow, mapBlock, Go.Sort.ahead, Array.getElem?_modify, this]
theorem take_putCellsS (cur : Array Value) (F : Array Value) (h : F.size ≤ cur.size) : (putCells id 0 F cur).toList.take F.size = F.toList := by
  apply List.ext_getElem?
  intro j
  by_cases hj : j < F.size
  · rw [List.getElem?_take_of_lt hj, Array.getElem?_toList]
    simp [putCells, hj, show j < cur.size by omega]
  · rw [List.getElem?_take_eq_none (by omega), List.getElem?_eq_none (by simp; omega)]
/-- Sorted by the least load. -/
def SortedLo (xs : List (Int × Int)) : Prop := xs.Pairwise (fun a b => a.1 ≤ b.1)
theorem sort_any (xs : List (Int × Int)) (v : Value) (base : Nat) (w : World) (hx : ∀ x ∈ xs, small x.1 ∧ small x.2) (hsz0 : xs.length < 4611686018427387904) (hv : OwnS w base v xs) :
    Calls Tryd.prog 97 #[v, .func (.func 98) #[] #[]] w fun e w' => e = .returned (.tuple #[]) ∧ ∃ ys, ys.Perm xs ∧ SortedLo ys ∧ OwnS w' base v ys ∧ w.grownBy w' v.ownBlock := by
  rcases hv.2 with ⟨rfl, h0⟩ | ⟨g, cap, cur, rfl, hbase, hb, h1, h2, h3, h4⟩
  · obtain rfl : xs = [] := List.length_eq_zero_iff.1 h0
    refine (AnyF.slices_SortFunc_none (P := Tryd.prog) (ρ := Tryd.sortSpan_ren) Tryd.sortSpan none 0 (.func (.func 98) #[] #[]) w).mono ?_
    rintro e w' ⟨rfl, rfl⟩
    exact ⟨rfl, [], List.Perm.refl _, List.Pairwise.nil, hv, grown_of_below (Below.refl _ _) _⟩
  · have hm : ∃ ss : List SmI, ss.map (·.x) = xs := ⟨xs.attach.map fun x => ⟨x.1, hx x.1 x.2⟩, by rw [List.map_map]; exact List.attach_map_subtype_val xs⟩
    obtain ⟨ss, rfl⟩ := hm
    have eg : ∀ args w, (callFunc 98 args).run Tryd.prog w = .ok (.enter 98 args) w := enters_of Tryd.func98 (by kernel_rfl) rfl
    have hgl : g < w.heap.size := (Array.getElem?_eq_some_iff.1 hb).1
    have hsz : ss.length < 4611686018427387904 := by simpa using hsz0
    have hcon := AnyQ.slices_SortFunc (P := Tryd.prog) (ρ := Tryd.sortSpan_ren) Tryd.sortSpan 2 Tryd.isAgg42 Tryd.sizeOf42 encS (fun _ => rfl) (fun x v hv => by simp [encS] at hv; rcases hv with rfl | rfl <;> rfl) cfS swoS 98 #[] g 0 cap ss.toArray w eg (fun _ _ _ _ x y => closure98 x y _) (holdsS hb (by simpa using h4)) hgl (by simpa using hsz)
    simp only [List.length_map]
    have hsz2 : ss.toArray.size = ss.length := by simp
    rw [hsz2] at hcon
    refine hcon.mono ?_
    rintro e w' ⟨rfl, d', n, os, hp, hs, rfl⟩
    have hd : d'.size = ss.length := by have := hp.1; simpa using this
    have hp2 : d'.toList.Perm ss := by
      have := hp.2.2
      have e1 : (d'.extract 0 ss.length).toList = d'.toList := by rw [← hd]; simp
      rw [e1] at this
      simpa using this
    refine ⟨rfl, d'.toList.map (·.x), hp2.map _, ?_, ?_, grownBy_sortedS d'⟩
    · unfold SortedLo
      rw [List.pairwise_map]
      rw [List.pairwise_iff_getElem]
      intro i j hi hj hij
      have hi' : i < d'.size := by simpa using hi
      have hj' : j < d'.size := by simpa using hj
      have := hs i j (by omega) hij (by omega)
      rw [ltS, getElem!_pos d' j hj', getElem!_pos d' i hi'] at this
      simp at this
      simpa using this
    · have e2 : sc (List.map (·.x) d'.toList) = (flatK encS 2 d').toList := by rw [← sc_flat]
      unfold OwnS
      rw [e2]
      refine ⟨by simp [size_flatK], .inr ⟨g, cap, _, ?_, hbase, heap_sortedS d' hb, ?_, h2, by simp [putCells, h3], ?_⟩⟩
      · simp [hd]
      · simpa [hd] using h1
      · have e3 : (List.map (·.x) d'.toList).length * 2 = (flatK encS 2 d').size := by simp [size_flatK]
        rw [e3]
        exact take_putCellsS cur _ (by rw [size_flatK, h3, hd]; simp only [List.length_map] at h1; omega)
end Go.Proofs.YtiidkekmklbobaaDoor
set_option linter.unusedVariables false
set_option linter.unusedSimpArgs false
namespace Go.Proofs.YtiidkekmklbobaaDoor
open Go.RowKit Go.Proofs.YtiidkekmklbobaaDoorW.PrintWords
/-! ## Pure: spans joined -/
def InS (n : Int) (xs : List (Int × Int)) : Prop := ∃ x ∈ xs, x.1 ≤ n ∧ n ≤ x.2
structure NFS (xs : List (Int × Int)) : Prop where
  ne : ∀ x ∈ xs, x.1 ≤ x.2
  gap : xs.Pairwise (fun a b => a.2 + 1 < b.1)
def lastS (out : List (Int × Int)) : Int × Int := out.getD (out.length - 1) (0, 0)
def touchB (out : List (Int × Int)) (x : Int × Int) : Bool := decide (0 < out.length) && decide (x.1 ≤ (lastS out).2 + 1)
def stepJ (out : List (Int × Int)) (x : Int × Int) : List (Int × Int) :=
  if touchB out x then out.set (out.length - 1) ((lastS out).1, max (lastS out).2 x.2) else out ++ [x]
def joinL (xs : List (Int × Int)) : List (Int × Int) := xs.foldl stepJ []
theorem stepJ_length (out : List (Int × Int)) (x : Int × Int) : (stepJ out x).length ≤ out.length + 1 := by
  unfold stepJ
  split <;> simp
theorem foldJ_length (xs : List (Int × Int)) : ∀ out, (xs.foldl stepJ out).length ≤ out.length + xs.length := by
  induction xs with
  | nil => intro out; simp
  | cons x xs ih => intro out; have := ih (stepJ out x); have h2 := stepJ_length out x; simp only [List.foldl_cons, List.length_cons]; omega
theorem join_take (xs : List (Int × Int)) (k : Nat) (h : k < xs.length) : joinL (xs.take (k + 1)) = stepJ (joinL (xs.take k)) (xs.getD k (0, 0)) := by
  unfold joinL
  rw [List.take_add_one, List.foldl_append]
  simp [List.getD_eq_getElem?_getD, List.getElem?_eq_getElem h]
theorem lastS_snoc (out : List (Int × Int)) (z : Int × Int) : lastS (out ++ [z]) = z := by
  unfold lastS; simp [List.getD_eq_getElem?_getD]
theorem NFS.nil : NFS [] := ⟨by simp, List.Pairwise.nil⟩
/-- One step: the least loads come in increasing order. -/
theorem stepJ_spec (out : List (Int × Int)) (x : Int × Int) (h : NFS out) (hx : x.1 ≤ x.2) (hl : ∀ a ∈ out, a.1 ≤ x.1) :
    NFS (stepJ out x) ∧ (∀ n, InS n (stepJ out x) ↔ InS n out ∨ (x.1 ≤ n ∧ n ≤ x.2)) ∧ (∀ a ∈ stepJ out x, a.1 ≤ x.1) := by
  rcases List.eq_nil_or_concat out with rfl | ⟨init, z, rfl⟩
  · refine ⟨⟨?_, ?_⟩, ?_, ?_⟩ <;> simp [stepJ, touchB, InS, hx]
  · have hz := hl z (by simp)
    have hzz := h.ne z (by simp)
    have hg : ∀ a ∈ init, a.2 + 1 < z.1 := by
      have := h.gap
      rw [List.concat_eq_append, List.pairwise_append] at this
      intro a ha
      exact this.2.2 a ha z (by simp)
    have hgi : init.Pairwise (fun a b => a.2 + 1 < b.1) := by
      have := h.gap
      rw [List.concat_eq_append, List.pairwise_append] at this
      exact this.1
    rw [List.concat_eq_append] at *
    unfold stepJ touchB
    rw [lastS_snoc]
    by_cases ht : x.1 ≤ z.2 + 1
    · have e : (init ++ [z]).set ((init ++ [z]).length - 1) (z.1, max z.2 x.2) = init ++ [(z.1, max z.2 x.2)] := by simp
      simp only [List.length_append, List.length_cons, List.length_nil, Nat.lt_add_left_iff_pos, Nat.lt_add_one, decide_true, ht, Bool.and_self, if_true] at e ⊢
      rw [if_pos (by simp), e]
      refine ⟨⟨?_, ?_⟩, ?_, ?_⟩
      · intro a ha
        rcases List.mem_append.1 ha with ha | ha
        · exact h.ne a (by simp [ha])
        · obtain rfl := List.mem_singleton.1 ha
          dsimp only; omega
      · rw [List.pairwise_append]
        refine ⟨hgi, by simp, ?_⟩
        intro a ha b hb
        obtain rfl := List.mem_singleton.1 hb
        exact hg a ha
      · intro n
        unfold InS
        constructor
        · rintro ⟨a, ha, h1, h2⟩
          rcases List.mem_append.1 ha with ha | ha
          · exact .inl ⟨a, by simp [ha], h1, h2⟩
          · obtain rfl := List.mem_singleton.1 ha
            dsimp only at h1 h2
            by_cases hn : n ≤ z.2
            · exact .inl ⟨z, by simp, h1, hn⟩
            · exact .inr (by omega)
        · rintro (⟨a, ha, h1, h2⟩ | ⟨h1, h2⟩)
          · rcases List.mem_append.1 ha with ha | ha
            · exact ⟨a, by simp [ha], h1, h2⟩
            · obtain rfl := List.mem_singleton.1 ha
              exact ⟨_, List.mem_append.2 (.inr (List.mem_singleton.2 rfl)), h1, by dsimp only; omega⟩
          · exact ⟨_, List.mem_append.2 (.inr (List.mem_singleton.2 rfl)), by dsimp only; omega, by dsimp only; omega⟩
      · intro a ha
        rcases List.mem_append.1 ha with ha | ha
        · exact hl a (by simp [ha])
        · obtain rfl := List.mem_singleton.1 ha
          exact hz
    · simp only [ht, decide_false, Bool.and_false, Bool.false_eq_true, if_false]
      refine ⟨⟨?_, ?_⟩, ?_, ?_⟩
      · intro a ha
        rcases List.mem_append.1 ha with ha | ha
        · exact h.ne a ha
        · obtain rfl := List.mem_singleton.1 ha
          exact hx
      · rw [List.pairwise_append]
        refine ⟨h.gap, by simp, ?_⟩
        intro a ha b hb
        obtain rfl := List.mem_singleton.1 hb
        rcases List.mem_append.1 ha with ha | ha
        · have := hg a ha; omega
        · obtain rfl := List.mem_singleton.1 ha
          omega
      · intro n
        unfold InS
        constructor
        · rintro ⟨a, ha, h1, h2⟩
          rcases List.mem_append.1 ha with ha | ha
          · exact .inl ⟨a, ha, h1, h2⟩
          · obtain rfl := List.mem_singleton.1 ha
            exact .inr ⟨h1, h2⟩
        · rintro (⟨a, ha, h1, h2⟩ | ⟨h1, h2⟩)
          · exact ⟨a, List.mem_append.2 (.inl ha), h1, h2⟩
          · exact ⟨x, by simp, h1, h2⟩
      · intro a ha
        rcases List.mem_append.1 ha with ha | ha
        · exact hl a ha
        · obtain rfl := List.mem_singleton.1 ha
          exact Int.le_refl _
theorem foldJ_spec (xs : List (Int × Int)) : ∀ out, NFS out → (∀ x ∈ xs, x.1 ≤ x.2) → SortedLo xs → (∀ a ∈ out, ∀ x ∈ xs, a.1 ≤ x.1) →
    NFS (xs.foldl stepJ out) ∧ (∀ n, InS n (xs.foldl stepJ out) ↔ InS n out ∨ InS n xs) := by
  induction xs with
  | nil => intro out h _ _ _; exact ⟨h, fun n => by simp [InS]⟩
  | cons x xs ih =>
    intro out h hx hs hl
    have hs' := List.pairwise_cons.1 hs
    obtain ⟨s1, s2, s3⟩ := stepJ_spec out x h (hx x (by simp)) (fun a ha => hl a ha x (by simp))
    obtain ⟨i1, i2⟩ := ih (stepJ out x) s1 (fun y hy => hx y (by simp [hy])) hs'.2 (fun a ha y hy => Int.le_trans (s3 a ha) (hs'.1 y hy))
    refine ⟨i1, fun n => ?_⟩
    rw [List.foldl_cons, i2, s2]
    constructor
    · rintro ((h1 | h1) | ⟨a, ha, h1⟩)
      · exact .inl h1
      · exact .inr ⟨x, by simp, h1⟩
      · exact .inr ⟨a, by simp [ha], h1⟩
    · rintro (h1 | ⟨a, ha, h1⟩)
      · exact .inl (.inl h1)
      · rcases List.mem_cons.1 ha with rfl | ha
        · exact .inl (.inr h1)
        · exact .inr ⟨a, ha, h1⟩
theorem InS_perm {xs ys : List (Int × Int)} (h : ys.Perm xs) (n : Int) : InS n ys ↔ InS n xs :=
  ⟨fun ⟨a, ha, h1⟩ => ⟨a, h.mem_iff.1 ha, h1⟩, fun ⟨a, ha, h1⟩ => ⟨a, h.mem_iff.2 ha, h1⟩⟩
theorem joinL_spec (xs ys : List (Int × Int)) (hp : ys.Perm xs) (hx : ∀ x ∈ xs, x.1 ≤ x.2) (hs : SortedLo ys) : NFS (joinL ys) ∧ ∀ n, InS n (joinL ys) ↔ InS n xs := by
  obtain ⟨h1, h2⟩ := foldJ_spec ys [] NFS.nil (fun x hm => hx x (hp.mem_iff.1 hm)) hs (by simp)
  refine ⟨h1, fun n => ?_⟩
  rw [← InS_perm hp]
  exact (h2 n).trans (by simp [InS])
/-- Spans in the normal form are told by the numbers in them. -/
theorem NFS.unique : ∀ (xs ys : List (Int × Int)), NFS xs → NFS ys → (∀ n, InS n xs ↔ InS n ys) → xs = ys
  | [], [], _, _, _ => rfl
  | [], y :: ys, _, hy, h => by
    have := (h y.1).2 ⟨y, by simp, Int.le_refl _, hy.ne y (by simp)⟩
    simp [InS] at this
  | x :: xs, [], hx, _, h => by
    have := (h x.1).1 ⟨x, by simp, Int.le_refl _, hx.ne x (by simp)⟩
    simp [InS] at this
  | x :: xs, y :: ys, hx, hy, h => by
    have gx := List.pairwise_cons.1 hx.gap
    have gy := List.pairwise_cons.1 hy.gap
    have nx := hx.ne x (by simp)
    have ny := hy.ne y (by simp)
    have lx : ∀ a ∈ xs, x.2 + 1 < a.1 := gx.1
    have ly : ∀ a ∈ ys, y.2 + 1 < a.1 := gy.1
    have e1 : x.1 = y.1 := by
      have h1 := (h x.1).1 ⟨x, by simp, Int.le_refl _, nx⟩
      have h2 := (h y.1).2 ⟨y, by simp, Int.le_refl _, ny⟩
      obtain ⟨a, ha, a1, a2⟩ := h1
      obtain ⟨b, hb, b1, b2⟩ := h2
      rcases List.mem_cons.1 ha with rfl | ha <;> rcases List.mem_cons.1 hb with rfl | hb
      · omega
      · have := lx b hb; omega
      · have := ly a ha; omega
      · have := lx b hb; have := ly a ha; omega
    have e2 : x.2 = y.2 := by
      rcases Int.lt_trichotomy x.2 y.2 with hlt | he | hgt
      · exfalso
        obtain ⟨a, ha, a1, a2⟩ := (h (x.2 + 1)).2 ⟨y, by simp, by omega, by omega⟩
        rcases List.mem_cons.1 ha with rfl | ha
        · omega
        · have := lx a ha; omega
      · exact he
      · exfalso
        obtain ⟨a, ha, a1, a2⟩ := (h (y.2 + 1)).1 ⟨x, by simp, by omega, by omega⟩
        rcases List.mem_cons.1 ha with rfl | ha
        · omega
        · have := ly a ha; omega
    have e : x = y := Prod.ext e1 e2
    subst e
    congr 1
    refine NFS.unique xs ys ⟨fun a ha => hx.ne a (by simp [ha]), gx.2⟩ ⟨fun a ha => hy.ne a (by simp [ha]), gy.2⟩ fun n => ?_
    constructor
    · rintro ⟨a, ha, a1, a2⟩
      obtain ⟨b, hb, b1, b2⟩ := (h n).1 ⟨a, by simp [ha], a1, a2⟩
      rcases List.mem_cons.1 hb with rfl | hb
      · have := lx a ha; omega
      · exact ⟨b, hb, b1, b2⟩
    · rintro ⟨a, ha, a1, a2⟩
      obtain ⟨b, hb, b1, b2⟩ := (h n).2 ⟨a, by simp [ha], a1, a2⟩
      rcases List.mem_cons.1 hb with rfl | hb
      · have := ly a ha; omega
      · exact ⟨b, hb, b1, b2⟩
/-! ## Rows of spans: cells, stores -/
theorem OwnS.below {w w1 : World} {base : Nat} {v : Value} {xs : List (Int × Int)} (h : OwnS w base v xs) (hb : Below w.heap.size w w1) : OwnS w1 base v xs := pw_own_below h hb
theorem OwnS.lt {w : World} {base g n c : Nat} {xs : List (Int × Int)} (h : OwnS w base (.slice (some ⟨g, 0, none⟩) n c) xs) : base ≤ g ∧ g < w.heap.size := World.ownsRow.lt h g rfl
theorem OwnS.form {w : World} {base : Nat} {v : Value} {xs : List (Int × Int)} (h : OwnS w base v xs) : (v = .slice none 0 0 ∧ xs = []) ∨ ∃ g c, v = .slice (some ⟨g, 0, none⟩) xs.length c ∧ xs.length ≤ c := by
  rcases h.2 with ⟨h1, h2⟩ | ⟨g, c, cur, h1, _, _, h2, _⟩
  · exact .inl ⟨h1, List.length_eq_zero_iff.1 h2⟩
  · exact .inr ⟨g, c, h1, h2⟩
theorem OwnS.cell {w : World} {base g c : Nat} {xs : List (Int × Int)} (h : OwnS w base (.slice (some ⟨g, 0, none⟩) xs.length c) xs) (i : Nat) (hi : i < xs.length) :
    w.cell? ⟨g, i * 2, none⟩ = some (.int .i64 (xs.getD i (0, 0)).1) ∧ w.cell? ⟨g, i * 2 + 1, none⟩ = some (.int .i64 (xs.getD i (0, 0)).2) := by
  obtain ⟨g1, g2⟩ := sc_get xs i hi
  exact ⟨(World.ownsRow.cellAt h _ (by omega)).trans g1, (World.ownsRow.cellAt h _ (by omega)).trans g2⟩
theorem OwnS.frozen {w : World} {base g c n : Nat} {xs : List (Int × Int)} (h : OwnS w base (.slice (some ⟨g, 0, none⟩) n c) xs) (hn : n = xs.length) (j : Nat) : w.frozen? ⟨g, j, none⟩ = false := by subst hn; exact World.ownsRow.frozenAt h j
theorem sc_set_hi (xs : List (Int × Int)) (i : Nat) (hi : i < xs.length) (b : Int) : sc (xs.set i ((xs.getD i (0, 0)).1, b)) = (sc xs).set (i * 2 + 1) (.int .i64 b) := by
  rw [sc_set]
  congr 1
  obtain ⟨g1, _⟩ := sc_get xs i hi
  obtain ⟨hlt, h⟩ := List.getElem?_eq_some_iff.1 g1
  rw [← h]
  exact List.set_getElem_self hlt
theorem OwnS.set_hi {w : World} {base g c : Nat} {xs : List (Int × Int)} (h : OwnS w base (.slice (some ⟨g, 0, none⟩) xs.length c) xs) (i : Nat) (hi : i < xs.length) (b : Int) :
    OwnS (w.setCell ⟨g, i * 2 + 1, none⟩ (.int .i64 b)) base (.slice (some ⟨g, 0, none⟩) (xs.set i ((xs.getD i (0, 0)).1, b)).length c) (xs.set i ((xs.getD i (0, 0)).1, b)) := by
  unfold OwnS
  rw [sc_set_hi xs i hi, List.length_set]
  exact (World.ownsRow.stored h _ _).1
theorem OwnS.reads {w : World} {base : Nat} {v : Value} {xs : List (Int × Int)} (h : OwnS w base v xs) : ∃ A c, v = .slice A xs.length c ∧ Kd.C kSpan w A xs.length xs ∧ xs.length ≤ c := by
  rcases h.2 with ⟨h1, h2⟩ | ⟨g, c, cur, h1, hb, hh, h2, h3, h4, h5⟩
  · obtain rfl := List.length_eq_zero_iff.1 h2
    exact ⟨none, 0, h1, Kd.C_nil _ _, by simp⟩
  · subst h1
    refine ⟨_, c, rfl, ⟨rfl, by simp only [maxLen] at h3; omega, fun _ => ⟨_, rfl, fun j p hj => ?_⟩⟩, h2⟩
    obtain ⟨hlt, rfl⟩ := List.getElem?_eq_some_iff.1 hj
    refine ⟨[.int .i64 xs[j].1, .int .i64 xs[j].2], rfl, ⟨[_], [_], rfl, rfl, rfl⟩, fun i u hu => ?_⟩
    have e2 : kSpan.sz = 2 := rfl
    obtain ⟨g1, g2⟩ := OwnS.cell h j hlt
    simp only [List.getD_eq_getElem?_getD, List.getElem?_eq_getElem hlt, Option.getD_some] at g1 g2
    rw [e2, add_plain]
    match i, hu with
    | 0, hu => rw [← hu]; exact g1
    | 1, hu => rw [← hu]; exact g2
theorem sc_snoc (xs : List (Int × Int)) (x : Int × Int) : sc (xs ++ [x]) = sc xs ++ [.int .i64 x.1, .int .i64 x.2] := by
  induction xs with
  | nil => rfl
  | cons y xs ih => simp only [List.cons_append, sc, ih]
end Go.Proofs.YtiidkekmklbobaaDoor
set_option linter.unusedVariables false
set_option linter.unusedSimpArgs false
namespace Go.Proofs.YtiidkekmklbobaaDoor
open Go.RowKit Go.Proofs.YtiidkekmklbobaaDoorW.PrintWords
attribute [local go_sem] mx_two mn_two blk_add
theorem stopW {p : Prop} (h : Hid p) : p := h.out
section
variable {P : Program} {ops : Array Oper} {rest : List Oper} {o : Oper} {a : Act} {Q : Exit → Act → World → Prop}
theorem append_span {w0 W0 W : World} (base : Nat) (v : Value) (x y : Int) (xs : List (Int × Int)) (hgd : o.guard = none) (s z : Operand)
    (ho : o.op = .call { callee := .builtin .append, args := #[s, z], argTypes := #[25, 25] })
    (hs : a.eval s = v) (hx : a.eval z = .slice (some ⟨W.heap.size, 0, none⟩) 1 1)
    (HO : OwnS W0 base v xs) (HW : Below W0.heap.size W0 W) (HB : Below base w0 W0) (hbase : base ≤ W0.heap.size) (hl : xs.length ≤ 1000000000)
    (h : ∀ v1 w1, OwnS w1 base v1 (xs ++ [(x, y)]) → Below base w0 w1 → W.grownBy w1 v.ownBlock → (v1.ownBlock = v.ownBlock ∨ ∃ b, v1.ownBlock = some b ∧ W.heap.size ≤ b) → wpList Tryd.prog ops Q rest (a.put o.dst v1) w1) :
    wpList Tryd.prog ops Q (o :: rest) a (W.alloc (.cells #[.int .i64 x, .int .i64 y] 42)) := by
  refine print_append_cells (w0 := w0) base hgd s z 25 42 (.agg #[.int .i64 0, .int .i64 0]) 2 16 ho (by kernel_rfl) info42 rfl (by decide) (by decide) v xs.length (sc xs) [.int .i64 x, .int .i64 y] hs hx rfl (by simp [Value.oneCell']) (HO.below HW) (HB.trans (HW.mono hbase)) (Nat.le_trans hbase HW.size) (by omega) ?_
  intro v1 w1 hown hb hg hat
  refine h v1 w1 ?_ hb hg hat
  unfold OwnS
  rw [sc_snoc, List.length_append]
  exact hown
end
theorem small_join (ys : List (Int × Int)) (hs : SortedLo ys) (hx : ∀ i, i < ys.length → small (ys.getD i (0, 0)).1 ∧ small (ys.getD i (0, 0)).2 ∧ (ys.getD i (0, 0)).1 ≤ (ys.getD i (0, 0)).2) (k : Nat) :
    ∀ x ∈ joinL (ys.take k), small x.1 ∧ small x.2 := by
  have hm : ∀ y ∈ ys.take k, small y.1 ∧ small y.2 ∧ y.1 ≤ y.2 := fun y hy => by
    obtain ⟨i, hi, rfl⟩ := List.getElem_of_mem (List.mem_of_mem_take hy)
    have := hx i hi
    simpa [List.getD_eq_getElem?_getD, List.getElem?_eq_getElem hi] using this
  obtain ⟨h1, h2⟩ := foldJ_spec (ys.take k) [] NFS.nil (fun x h => (hm x h).2.2) (hs.sublist (List.take_sublist _ _)) (by simp)
  intro x hx'
  have hle := h1.ne x hx'
  have a1 := (h2 x.1).1 ⟨x, hx', Int.le_refl _, hle⟩
  have a2 := (h2 x.2).1 ⟨x, hx', hle, Int.le_refl _⟩
  have e : ∀ n, InS n (ys.take k) → small n := fun n ⟨y, hy, y1, y2⟩ => by
    obtain ⟨⟨s1, s2⟩, ⟨s3, s4⟩, _⟩ := hm y hy
    exact ⟨by omega, by omega⟩
  exact ⟨e _ (a1.resolve_left (by simp [InS])), e _ (a2.resolve_left (by simp [InS]))⟩
set_option maxRecDepth 100000 in
set_option maxHeartbeats 3200000 in
theorem united_any (xs : List (Int × Int)) (v : Value) (base : Nat) (w : World) (hx : ∀ x ∈ xs, small x.1 ∧ small x.2 ∧ x.1 ≤ x.2) (hlen : xs.length ≤ 1000000000) (hv : OwnS w base v xs) (hbase : base ≤ w.heap.size) :
    Calls Tryd.prog 66 #[v] w fun e w' => ∃ v' zs, e = .returned v' ∧ OwnS w' w.heap.size v' zs ∧ NFS zs ∧ (∀ n, InS n zs ↔ InS n xs) ∧ zs.length ≤ xs.length ∧ Below base w w' := by
  have hcon := sort_any xs v base w (fun x h => ⟨(hx x h).1, (hx x h).2.1⟩) (by omega) hv
  have HX := Lib.hid hx
  have HB0 : Hid (∀ w1, w.grownBy w1 v.ownBlock → Below base w w1) := fun w1 hg => pw_below_grown (Below.refl _ _) _ hbase hg (own_base hv)
  clear hx
  have hsh : ∃ A c, v = .slice A xs.length c := own_slice hv
  obtain ⟨Av, cv, rfl⟩ := hsh
  clear hv
  go_enter Tryd.func66, Tryd.ntmps66
  go_wp2_with (go_at_call 97; refine hcon.mono ?_; rintro e w1 ⟨rfl, ys, hp, hs, hv1, hg1⟩)
  have hlen2 := Lib.hid hp.length_eq
  have HP := Lib.hid hp
  have HS := Lib.hid hs
  have HBW := Lib.hid (HB0.out _ hg1)
  have HG := Lib.hid (hg1.size)
  have HV := Lib.hid hv1
  have HSM := Lib.hid (show ∀ i, i < ys.length → small (ys.getD i (0, 0)).1 ∧ small (ys.getD i (0, 0)).2 ∧ (ys.getD i (0, 0)).1 ≤ (ys.getD i (0, 0)).2 from fun i hi => by
    have hm : ys.getD i (0, 0) ∈ ys := by simp [List.getD_eq_getElem?_getD, List.getElem?_eq_getElem hi]
    exact HX.out _ (HP.out.mem_iff.1 hm))
  clear hp hs hg1 hv1 hcon
  go_loopw [10, 2] (fun vi vo wr => ∃ k : Nat, k ≤ xs.length ∧ vi = .int .i64 k ∧ Hid (OwnS wr w1.heap.size vo (joinL (ys.take k))) ∧ Below w1.heap.size w1 wr)
    (fun vi _ _ => xs.length - (intOf vi).toNat)
  case atStart => exact ⟨0, by omega, rfl, own_nil _ _ _ _, Below.refl _ _⟩
  case round =>
    obtain ⟨k, hk, rfl, ho, hb⟩ := hrel
    have hz : w1.heap.size ≤ wr.heap.size := hb.size
    by_cases hkn : k < xs.length
    · have hk2 : k < ys.length := by have := hlen2.out; omega
      obtain ⟨g, rfl⟩ : ∃ g, Av = some ⟨g, 0, none⟩ := by
        rcases HV.out.form with ⟨_, h⟩ | ⟨g, c, h, _⟩
        · rw [h] at hk2; simp at hk2
        · injection h with h1; exact ⟨g, h1⟩
      have hV2 : OwnS w1 base (.slice (some ⟨g, 0, none⟩) ys.length cv) ys := by have := HV.out; rwa [← hlen2.out] at this
      have hgl := hV2.lt.2
      obtain ⟨q1, q2⟩ := hV2.cell k hk2
      replace q1 := pw_cell_below hb q1
      replace q2 := pw_cell_below hb q2
      obtain ⟨hs1, hs2, hs3⟩ := HSM.out k hk2
      have HJ := Lib.hid (join_take ys k hk2)
      have HY := Lib.hid (show ys.getD k (0, 0) = ((ys.getD k (0, 0)).1, (ys.getD k (0, 0)).2) from rfl)
      generalize (ys.getD k (0, 0)).1 = a at *
      generalize (ys.getD k (0, 0)).2 = b at *
      have HNF : Hid (∀ x ∈ joinL (ys.take k), small x.1 ∧ small x.2) := small_join ys HS.out HSM.out k
      have hol : Hid ((joinL (ys.take k)).length ≤ k) := by
        have := foldJ_length (ys.take k) []
        have h2 : (ys.take k).length ≤ k := by simp; omega
        show (joinL (ys.take k)).length ≤ k
        unfold joinL
        simp at this ⊢
        omega
      have HJL := Lib.hid (show joinL (ys.take k) = joinL (ys.take k) from rfl)
      rw [HY.out] at HJ
      generalize joinL (ys.take k) = out at *
      obtain ⟨s1, s2⟩ := hs1
      obtain ⟨s3, s4⟩ := hs2
      have i1 : (k : Int) < (xs.length : Int) := by omega
      obtain ⟨A', c', rfl, hrd, hcl⟩ := ho.out.reads
      clear hrd
      by_cases h0 : out.length = 0
      · obtain rfl := List.length_eq_zero_iff.1 h0
        clear h0
        simp only [List.length_nil] at ho hcl ⊢
        have HST := Lib.hid (show stepJ [] (a, b) = [] ++ [(a, b)] by simp [stepJ, touchB])
        go_wp2
        go_quiet (fail)
        go_wp2_with (at_builtin; refine append_span (w0 := w1) (W0 := wr) w1.heap.size (.slice A' 0 c') a b [] rfl (.tmp 44) (.tmp 46) rfl rfl (show Value.slice (some ⟨wr.heap.size + 1, 0, none⟩) 1 1 = _ by simp) ho.out (by repeat (first | exact Below.refl _ _ | refine below_drew ?_ | refine pw_below_drewN ?_ _ | refine Below.alloc ?_ (by first | (simp; done) | (simp; omega) | omega) _)) hb hz (by have := hol.out; omega) ?_; intro v1 w2 hown hb2 hg2 hat2)
        go_roundw
        case rel =>
          refine ⟨k + 1, by omega, by go_num, ?_, hb2⟩
          rw [HJ.out, HST.out]
          exact hown
        case measure => simp [intOf]; omega
      · obtain ⟨g', rfl⟩ : ∃ g, A' = some ⟨g, 0, none⟩ := by
          rcases ho.out.form with ⟨_, h⟩ | ⟨g, c, h, _⟩
          · rw [h] at h0; simp at h0
          · injection h with h1; exact ⟨g, h1⟩
        obtain ⟨m, hm⟩ : ∃ m, out.length = m + 1 := ⟨out.length - 1, by omega⟩
        have hm2 : m < out.length := by omega
        obtain ⟨r1, r2⟩ := ho.out.cell m hm2
        have HL := Lib.hid (show out.getD m (0, 0) = lastS out by unfold lastS; rw [hm]; rfl)
        rw [HL.out] at r1 r2
        have hmem : lastS out ∈ out := by
          rw [← HL.out]; simp [List.getD_eq_getElem?_getD, List.getElem?_eq_getElem hm2]
        obtain ⟨⟨t1, t2⟩, t3, t4⟩ := HNF.out _ hmem
        have hbl := ho.out.lt
        have HM := Lib.hid hm
        have d0 : decide ((0 : Int) < ((m + 1 : Nat) : Int)) = true := by simp
        have hmk : m + 1 ≤ k := by have := hol.out; omega
        clear hm2 h0
        have ho2 : Hid (OwnS wr w1.heap.size (.slice (some ⟨g', 0, none⟩) (m + 1) c') out) := by rw [← hm]; exact ho
        rw [hm] at hcl ⊢
        clear ho hm
        by_cases ht : a ≤ (lastS out).2 + 1
        · have hd : decide (a ≤ (lastS out).2 + 1) = true := by simpa using ht
          have HST := Lib.hid (show stepJ out (a, b) = out.set m ((out.getD m (0, 0)).1, max (lastS out).2 b) by
            unfold stepJ
            rw [HL.out, HM.out, if_pos (by simp [touchB, HM.out, ht])]
            rfl)
          clear ht
          generalize (lastS out).1 = e at *
          generalize (lastS out).2 = f at *
          have hT : ∀ w3, Below (wr.heap.size + 1) (wr.alloc (.cells #[.int .i64 a, .int .i64 b] 42)) w3 → w3.cell? ⟨g', m * 2 + 1, none⟩ = some (.int .i64 f) ∧ w3.cell? ⟨wr.heap.size, 1, none⟩ = some (.int .i64 b) := fun w3 hw3 => by
            have hw4 : Below (wr.alloc (.cells #[.int .i64 a, .int .i64 b] 42)).heap.size (wr.alloc (.cells #[.int .i64 a, .int .i64 b] 42)) w3 := hw3.mono (by simp)
            have hw5 : Below wr.heap.size wr w3 := ((Below.refl _ wr).alloc (Nat.le_refl _) _).trans (hw3.mono (by omega))
            exact ⟨pw_cell_below hw5 r2, pw_cell_below hw4 (by simp)⟩
          have HT := Lib.hid hT
          clear hT
          go_wp2
          go_quiet (fail)
          go_wp2
          have hwm : IntKind.i64.wrap (m : Int) = (m : Int) := by rw [IntKind.wrap_i64]; omega
          have hmm : (m : Int) < (m : Int) + 1 := by omega
          refine wp_region_tail 14 (fun w3 => Below (wr.heap.size + 1) (wr.alloc (.cells #[.int .i64 a, .int .i64 b] 42)) w3) (by kernel_rfl) (by kernel_rfl) (below_drew (pw_below_drewN (Below.refl _ _) _)) ?_
          simp only [List.take_succ_cons, List.take_zero, List.drop_succ_cons, List.drop_zero]
          repeat (refine wpQuiet_step (fun K hK => ?_); go_simp; (first | (refine hK _ ?_) | (refine ⟨_, fun _ _ => rfl, hK _ ?_⟩) | (apply Exists.intro; refine ⟨fun w3 hw3 => ?_, hK _ ?_⟩; focus (have t1 := (HT.out w3 hw3).1; have t2 := (HT.out w3 hw3).2; first | (go_simp; done) | (go_simp; rfl)))); clear hK K)
          refine wpQuiet_nil ?_
          intro w3 hw3
          have hw5 : Below wr.heap.size wr w3 := ((Below.refl _ wr).alloc (Nat.le_refl _) _).trans (hw3.mono (by omega))
          have hO3 := OwnS.below ho2.out hw5
          have hfB := hO3.frozen HM.out.symm
          have hc3 := (HT.out w3 hw3).1
          go_wp2_with fail
          go_roundw
          case rel =>
            refine ⟨k + 1, by omega, by go_num, ?_, (hb.trans (hw5.mono hz)).setCell (by simp; omega) _⟩
            have hO4 : OwnS w3 w1.heap.size (.slice (some ⟨g', 0, none⟩) out.length c') out := by rw [HM.out]; exact hO3
            have hO5 := hO4.set_hi m (by have := HM.out; omega) (max f b)
            rw [HJ.out, HST.out]
            show OwnS _ _ _ _
            rw [show (out.set m ((out.getD m (0, 0)).1, max f b)).length = m + 1 by rw [List.length_set]; exact HM.out] at hO5
            exact hO5
          case measure => simp [intOf]; omega
        · have HST := Lib.hid (show stepJ out (a, b) = out ++ [(a, b)] by simp [stepJ, touchB, ht])
          have hd : decide (a ≤ (lastS out).2 + 1) = false := by simpa using ht
          clear ht
          generalize (lastS out).1 = e at *
          generalize (lastS out).2 = f at *
          go_wp2
          go_quiet (fail)
          go_wp2_with (at_builtin; refine append_span (w0 := w1) (W0 := wr) w1.heap.size (.slice (some ⟨g', 0, none⟩) (m + 1) c') a b out rfl (.tmp 44) (.tmp 46) rfl rfl (show Value.slice (some ⟨wr.heap.size + 1, 0, none⟩) 1 1 = _ by simp) ho2.out (by repeat (first | exact Below.refl _ _ | refine below_drew ?_ | refine pw_below_drewN ?_ _ | refine Below.alloc ?_ (by first | (simp; done) | (simp; omega) | omega) _)) hb hz (by have := hol.out; omega) ?_; intro v1 w2 hown hb2 hg2 hat2)
          go_roundw
          case rel =>
            refine ⟨k + 1, by omega, by go_num, ?_, hb2⟩
            rw [HJ.out, HST.out]
            exact hown
          case measure => simp [intOf]; omega
    · have hk3 : k = ys.length := by have := hlen2.out; omega
      have hx2 : Hid (∀ x ∈ xs, x.1 ≤ x.2) := fun x h => (HX.out x h).2.2
      have HF := Lib.hid (joinL_spec xs ys HP.out hx2.out HS.out)
      have HFL : Hid ((joinL ys).length ≤ xs.length) := by
        have := foldJ_length ys []
        have h2 := hlen2.out
        show (joinL ys).length ≤ _
        unfold joinL
        simp at this ⊢
        omega
      have ho2 := ho
      rw [hk3, List.take_length] at ho2
      clear ho
      have i1 : ¬ (k : Int) < (xs.length : Int) := by omega
      have hd : decide ((k : Int) < (xs.length : Int)) = false := by simpa using i1
      go_wp2
      go_ret
      exact ⟨_, rfl, joinL ys, own_weaken ho2.out HG.out, HF.out.1, HF.out.2, HFL.out, HBW.out.trans (hb.mono (Nat.le_trans hbase HG.out))⟩
end Go.Proofs.YtiidkekmklbobaaDoor
set_option linter.unusedVariables false
set_option linter.unusedSimpArgs false
namespace Go.Proofs.YtiidkekmklbobaaDoor
open Go.RowKit Go.Proofs.YtiidkekmklbobaaDoorW.PrintWords
attribute [local go_sem] mx_two mn_two blk_add
/-- What 'next' hands on at its round k: the state k, and the faults that are left. -/
def nextAt (sh : Bool) (st : Int) (left k : Nat) : Option (Int × Nat) :=
  if ((k : Int) != st) && !sh then none else if k = 2 then (if 0 < left then some (k, left - 1) else none) else some (k, left)
set_option maxRecDepth 100000 in
set_option maxHeartbeats 3200000 in
theorem next_any (p : Pil) (A : Option Addr) (c : Nat) (A1 : Option Addr) (n1 c1 : Nat) (i : Nat) (st : Int) (left : Nat) (g : Nat) (lb : Array Value) (w : World) (hp : Ok p) (hi : i + 1 < p.log.length) (hlf : left ≤ 1000000000)
    (eg : ∀ args w, (callFunc g args).run Tryd.prog w = .ok (.enter g args) w)
    (I : Nat → World → Prop) (h0 : I 0 (w.alloc (boxS p A c A1 n1 c1)))
    (hbox : ∀ k w', I k w' → w'.heap[w.heap.size]? = some (boxS p A c A1 n1 c1)) (hlog : ∀ k w', I k w' → Kd.C kSpan w' A p.log.length p.log)
    (hmono : ∀ k w' w'', I k w' → Below w'.heap.size w' w'' → I k w'')
    (hskip : ∀ k w', k < 3 → nextAt (shiftF p i) st left k = none → I k w' → I (k + 1) w')
    (hcall : ∀ k w' (z : Int) (rest : Nat), k < 3 → nextAt (shiftF p i) st left k = some (z, rest) → I k w' → Calls Tryd.prog g (#[.int .i64 z, .int .i64 rest] ++ lb) w' fun e w'' => e = .returned (.tuple #[]) ∧ I (k + 1) w'') :
    Calls Tryd.prog 93 #[storyv p A c A1 n1 c1, .int .i64 i, .int .i64 st, .int .i64 left, .func (.func g) #[] lb] w fun e w' => e = .returned (.tuple #[]) ∧ I 3 w' := by
  have HP := Lib.hid hp
  have H0 := Lib.hid h0
  have HB := Lib.hid hbox
  have HL := Lib.hid hlog
  have HM := Lib.hid hmono
  have HS := Lib.hid hskip
  have HC := Lib.hid hcall
  clear h0 hbox hlog hmono hskip hcall hp
  go_enter Tryd.func93, Tryd.ntmps93
  go_wp2
  go_loopw [11] (fun vk wr => ∃ k : Nat, k ≤ 3 ∧ vk = .int .i64 k ∧ Hid (I k wr)) (fun vk _ => 3 - (intOf vk).toNat)
  case atStart => exact ⟨0, by omega, rfl, H0.out⟩
  case round =>
    obtain ⟨k, hk, rfl, hI⟩ := hrel
    have hb1 := HB.out k wr hI.out
    have b0 : wr.cell? ⟨w.heap.size, 0, none⟩ = some (.int .i64 p.no) := by simp [World.cell?, hb1]
    have b1 : wr.cell? ⟨w.heap.size, 1, none⟩ = some (.int .i64 p.cell) := by simp [World.cell?, hb1]
    have b2 : wr.cell? ⟨w.heap.size, 2, none⟩ = some (.int .i64 p.noise) := by simp [World.cell?, hb1]
    have b3 : wr.cell? ⟨w.heap.size, 3, none⟩ = some (.int .i64 p.slab) := by simp [World.cell?, hb1]
    have b4 : wr.cell? ⟨w.heap.size, 4, none⟩ = some (.int .i64 p.jump) := by simp [World.cell?, hb1]
    have b5 : wr.cell? ⟨w.heap.size, 5, none⟩ = some (.int .i64 p.faults) := by simp [World.cell?, hb1]
    have b6 : wr.cell? ⟨w.heap.size, 6, none⟩ = some (.slice A p.log.length c) := by simp [World.cell?, hb1]
    clear hb1
    by_cases hk3 : k < 3
    · have i1 : (k : Int) < 3 := by omega
      have HSH := Lib.hid (shift_any p A c i wr HP.out (HL.out k wr hI.out) hi)
      generalize hsh : shiftF p i = sh at *
      by_cases hne : ((k : Int) != st) = true
      · cases sh with
        | false =>
          have HNA := Lib.hid (show nextAt false st left k = none by simp only [nextAt, hne]; rfl)
          go_wp2_with (go_at_call 73; refine HSH.out.mono ?_; rintro e w1 ⟨rfl, hb⟩; obtain ⟨hc, hf⟩ := bcell hb)
          go_roundw
          case rel => exact ⟨k + 1, by omega, by go_num, HS.out k _ hk3 HNA.out (HM.out k wr w1 hI.out hb)⟩
          case measure => simp [intOf]; omega
        | true =>
          by_cases hk2 : k = 2
          · have e2 : ((k : Int) != 2) = false := by simp [hk2]
            by_cases hl : 0 < left
            case neg =>
              have e3 : ¬ ((0 : Int) < (left : Int)) := by omega
              have HNA := Lib.hid (show nextAt true st left k = none by simp only [nextAt]; rw [if_neg (by simp), if_pos hk2, if_neg hl])
              clear hk2 hl
              go_wp2_with (first | (go_at_call 73; refine HSH.out.mono ?_; rintro e w1 ⟨rfl, hb⟩; obtain ⟨hc, hf⟩ := bcell hb) | fail)
              go_roundw
              case rel => exact ⟨_, by omega, by go_num, HS.out k _ (by omega) HNA.out (HM.out _ wr w1 hI.out hb)⟩
              case measure => simp [intOf]; omega
            case pos =>
              have e3 : (0 : Int) < (left : Int) := by omega
              obtain ⟨r, hr⟩ : ∃ r, r = left - 1 := ⟨_, rfl⟩
              have e4 : (left : Int) - 1 = (r : Int) := by omega
              have HNA := Lib.hid (show nextAt true st left k = some ((k : Int), r) by simp only [nextAt]; rw [if_neg (by simp), if_pos hk2, if_pos hl, hr])
              clear hk2 hl hr
              go_wp2_with (first | (go_at_call 73; refine HSH.out.mono ?_; rintro e w1 ⟨rfl, hb⟩; obtain ⟨hc, hf⟩ := bcell hb) | (go_at_fn g; refine (HC.out k w1 _ _ hk3 HNA.out (HM.out _ wr w1 hI.out hb)).mono ?_; rintro e w2 ⟨rfl, hI2⟩))
              go_roundw
              case rel => exact ⟨_, by omega, by go_num, hI2⟩
              case measure => simp [intOf]; omega
          · have e2 : ((k : Int) != 2) = true := by simp; omega
            have HNA := Lib.hid (show nextAt true st left k = some ((k : Int), left) by simp [nextAt, hk2])
            go_wp2_with (first | (go_at_call 73; refine HSH.out.mono ?_; rintro e w1 ⟨rfl, hb⟩; obtain ⟨hc, hf⟩ := bcell hb) | (go_at_fn g; refine (HC.out k w1 _ _ hk3 HNA.out (HM.out _ wr w1 hI.out hb)).mono ?_; rintro e w2 ⟨rfl, hI2⟩))
            go_roundw
            case rel => exact ⟨_, by omega, by go_num, hI2⟩
            case measure => simp [intOf]; omega
      · replace hne : ((k : Int) != st) = false := by simpa using hne
        by_cases hk2 : k = 2
        · have e2 : ((k : Int) != 2) = false := by simp [hk2]
          by_cases hl : 0 < left
          case neg =>
            have e3 : ¬ ((0 : Int) < (left : Int)) := by omega
            have HNA := Lib.hid (show nextAt sh st left k = none by simp only [nextAt]; rw [if_neg (by simp [hne]), if_pos hk2, if_neg hl])
            clear hk2 hl
            go_wp2
            go_roundw
            case rel => exact ⟨_, by omega, by go_num, HS.out k _ (by omega) HNA.out hI.out⟩
            case measure => simp [intOf]; omega
          case pos =>
            have e3 : (0 : Int) < (left : Int) := by omega
            obtain ⟨r, hr⟩ : ∃ r, r = left - 1 := ⟨_, rfl⟩
            have e4 : (left : Int) - 1 = (r : Int) := by omega
            have HNA := Lib.hid (show nextAt sh st left k = some ((k : Int), r) by simp only [nextAt]; rw [if_neg (by simp [hne]), if_pos hk2, if_pos hl, hr])
            clear hk2 hl hr
            go_wp2_with (first | (go_at_fn g; refine (HC.out k wr _ _ hk3 HNA.out hI.out).mono ?_; rintro e w2 ⟨rfl, hI2⟩))
            go_roundw
            case rel => exact ⟨_, by omega, by go_num, hI2⟩
            case measure => simp [intOf]; omega
        · have e2 : ((k : Int) != 2) = true := by simp; omega
          have HNA := Lib.hid (show nextAt sh st left k = some ((k : Int), left) by simp [nextAt, hk2, hne])
          go_wp2_with (first | (go_at_fn g; refine (HC.out k wr _ _ hk3 HNA.out hI.out).mono ?_; rintro e w2 ⟨rfl, hI2⟩))
          go_roundw
          case rel => exact ⟨_, by omega, by go_num, hI2⟩
          case measure => simp [intOf]; omega
    · obtain rfl : k = 3 := by omega
      have i1 : ¬ ((3 : Nat) : Int) < 3 := by omega
      go_wp2
      go_end0
      exact ⟨rfl, hI.out⟩
end Go.Proofs.YtiidkekmklbobaaDoor
set_option linter.unusedVariables false
set_option linter.unusedSimpArgs false
namespace Go.Proofs.YtiidkekmklbobaaDoor
open Go.RowKit Go.Proofs.YtiidkekmklbobaaDoorW.PrintWords
attribute [local go_sem] mx_two mn_two blk_add
/-! ## Pure: what 'chances' works out -/
def leLo (a b : Int × Int) : Bool := decide (a.1 ≤ b.1)
def uniF (xs : List (Int × Int)) : List (Int × Int) := joinL (xs.mergeSort leLo)
theorem sorted_merge (xs : List (Int × Int)) : SortedLo (xs.mergeSort leLo) := by
  have := List.pairwise_mergeSort (le := leLo) (fun a b c h1 h2 => by simp [leLo] at *; omega) (fun a b => by simp [leLo]; omega) xs
  exact this.imp (fun h => by simpa [leLo] using h)
theorem uniF_spec (xs : List (Int × Int)) (hx : ∀ x ∈ xs, x.1 ≤ x.2) : NFS (uniF xs) ∧ ∀ n, InS n (uniF xs) ↔ InS n xs := joinL_spec xs _ (List.mergeSort_perm _ _) hx (sorted_merge xs)
theorem uniF_eq (xs zs : List (Int × Int)) (hx : ∀ x ∈ xs, x.1 ≤ x.2) (h : NFS zs) (hs : ∀ n, InS n zs ↔ InS n xs) : zs = uniF xs :=
  NFS.unique _ _ h (uniF_spec xs hx).1 fun n => (hs n).trans ((uniF_spec xs hx).2 n).symm
theorem united_eq (xs : List (Int × Int)) (v : Value) (base : Nat) (w : World) (hx : ∀ x ∈ xs, small x.1 ∧ small x.2 ∧ x.1 ≤ x.2) (hlen : xs.length ≤ 1000000000) (hv : OwnS w base v xs) (hbase : base ≤ w.heap.size) :
    Calls Tryd.prog 66 #[v] w fun e w' => ∃ v', e = .returned v' ∧ OwnS w' w.heap.size v' (uniF xs) ∧ Below base w w' :=
  (united_any xs v base w hx hlen hv hbase).mono fun e w' ⟨v', zs, h1, h2, h3, h4, _, h5⟩ => by
    obtain rfl := uniF_eq xs zs (fun x h => (hx x h).2.2) h3 h4
    exact ⟨v', h1, h2, h5⟩
/-- Few spans within bounds. -/
theorem NFS.len : ∀ (xs : List (Int × Int)) (a b : Int), NFS xs → (∀ x ∈ xs, a ≤ x.1 ∧ x.2 ≤ b) → a ≤ b → (xs.length : Int) ≤ b - a + 1
  | [], a, b, _, _, h => by simp; omega
  | [x], a, b, h, hb, hab => by
    have := hb x (by simp); have := h.ne x (by simp); simp; omega
  | x :: y :: xs, a, b, h, hb, hab => by
    have g := List.pairwise_cons.1 h.gap
    have h1 := hb x (by simp)
    have h2 := h.ne x (by simp)
    have h3 := g.1 y (by simp)
    have h4 := hb y (by simp)
    have h5 := h.ne y (by simp)
    have := NFS.len (y :: xs) (x.2 + 2) b ⟨fun z hz => h.ne z (by simp [hz]), g.2⟩ (fun z hz => ⟨by have := g.1 z hz; omega, (hb z (by simp [hz])).2⟩) (by omega)
    simp only [List.length_cons] at *
    omega
def nextsF (p : Pil) (i : Nat) (st : Int) (left : Nat) : List (Int × Nat) := (List.range 3).filterMap (nextAt (shiftF p i) st left)
/-- What a span behind allows here. -/
def fromF (here wi x : Int × Int) : Option (Int × Int) :=
  let y := meetF here (x.1 - wi.2, x.2 - wi.1)
  if y.1 ≤ y.2 then some y else none
def rawF (p : Pil) (ws : List (Int × Int)) (i : Nat) (st : Int) (left : Nat) (tab : Int → Nat → List (Int × Int)) : List (Int × Int) :=
  (nextsF p i st left).flatMap fun q => (tab q.1 q.2).filterMap (fromF (loadsF p i st) (sp ws i))
/-- d entries lie behind the entry. -/
def chR (p : Pil) (ws : List (Int × Int)) : Nat → Int → Nat → List (Int × Int)
  | 0, st, _ => [loadsF p (p.log.length - 1) st]
  | d + 1, st, left => uniF (rawF p ws (p.log.length - 2 - d) st left (chR p ws d))
def chF (p : Pil) (ws : List (Int × Int)) (i : Nat) (st : Int) (left : Nat) : List (Int × Int) := chR p ws (p.log.length - 1 - i) st left
theorem chF_last (p : Pil) (ws : List (Int × Int)) (i : Nat) (st : Int) (left : Nat) (h : i + 1 = p.log.length) : chF p ws i st left = [loadsF p i st] := by
  unfold chF
  rw [show p.log.length - 1 - i = 0 by omega]
  show [loadsF p (p.log.length - 1) st] = _
  rw [show p.log.length - 1 = i by omega]
theorem chF_step (p : Pil) (ws : List (Int × Int)) (i : Nat) (st : Int) (left : Nat) (h : i + 1 < p.log.length) : chF p ws i st left = uniF (rawF p ws i st left (chF p ws (i + 1))) := by
  unfold chF
  rw [show p.log.length - 1 - i = (p.log.length - 1 - (i + 1)) + 1 by omega]
  show uniF (rawF p ws (p.log.length - 2 - (p.log.length - 1 - (i + 1))) st left _) = _
  rw [show p.log.length - 2 - (p.log.length - 1 - (i + 1)) = i by omega]
/-- A span of loads is never empty. -/
theorem loads_ne (p : Pil) (hp : Ok p) (i : Nat) (st : Int) : (loadsF p i st).1 ≤ (loadsF p i st).2 := by
  have := hp.w i
  have h1 := hp.n0
  have h2 := hp.n1
  have h3 := hp.s0
  have h4 := hp.s1
  change 0 ≤ p.wt i ∧ p.wt i ≤ 65536 at this
  unfold loadsF
  split
  · dsimp only; omega
  · split
    · dsimp only; omega
    · decide
/-- Spans of loads. -/
def WaterS (xs : List (Int × Int)) : Prop := ∀ x ∈ xs, 0 ≤ x.1 ∧ x.1 ≤ x.2 ∧ x.2 ≤ 65536
theorem from_water (p : Pil) (hp : Ok p) (i : Nat) (st : Int) (wi x y : Int × Int) (h : fromF (loadsF p i st) wi x = some y) : 0 ≤ y.1 ∧ y.1 ≤ y.2 ∧ y.2 ≤ 65536 := by
  have := loads_bd p hp i st
  simp only [fromF] at h
  split at h
  · rename_i h1
    injection h with h
    subst h
    simp only [meetF] at *
    omega
  · cases h
theorem raw_water (p : Pil) (ws : List (Int × Int)) (hp : Ok p) (i : Nat) (st : Int) (left : Nat) (tab : Int → Nat → List (Int × Int)) : WaterS (rawF p ws i st left tab) := by
  intro y hy
  obtain ⟨q, _, hq⟩ := List.mem_flatMap.1 hy
  obtain ⟨x, _, hx⟩ := List.mem_filterMap.1 hq
  exact from_water p hp i st _ x y hx
theorem uni_water {xs : List (Int × Int)} (h : WaterS xs) : WaterS (uniF xs) ∧ NFS (uniF xs) := by
  obtain ⟨h1, h2⟩ := uniF_spec xs (fun x hx => (h x hx).2.1)
  refine ⟨fun x hx => ?_, h1⟩
  have hle := h1.ne x hx
  obtain ⟨a, ha, a1, a2⟩ := (h2 x.1).1 ⟨x, hx, Int.le_refl _, hle⟩
  obtain ⟨b, hb, b1, b2⟩ := (h2 x.2).1 ⟨x, hx, hle, Int.le_refl _⟩
  have := h a ha
  have := h b hb
  omega
theorem ch_water (p : Pil) (ws : List (Int × Int)) (hp : Ok p) (d : Nat) (st : Int) (left : Nat) : WaterS (chR p ws d st left) ∧ NFS (chR p ws d st left) := by
  cases d with
  | zero =>
    have h1 := loads_bd p hp (p.log.length - 1) st
    have h2 := loads_ne p hp (p.log.length - 1) st
    refine ⟨fun x hx => ?_, ⟨fun x hx => ?_, List.pairwise_singleton _ _⟩⟩
    · obtain rfl := List.mem_singleton.1 hx; omega
    · obtain rfl := List.mem_singleton.1 hx; exact h2
  | succ d => exact uni_water (raw_water p ws hp _ st left _)
theorem ch_len (p : Pil) (ws : List (Int × Int)) (hp : Ok p) (d : Nat) (st : Int) (left : Nat) : (chR p ws d st left).length ≤ 65537 := by
  obtain ⟨h1, h2⟩ := ch_water p ws hp d st left
  have := NFS.len _ 0 65536 h2 (fun x hx => ⟨(h1 x hx).1, (h1 x hx).2.2⟩) (by omega)
  omega
end Go.Proofs.YtiidkekmklbobaaDoor
set_option linter.unusedVariables false
set_option linter.unusedSimpArgs false
namespace Go.Proofs.YtiidkekmklbobaaDoor
open Go.RowKit Go.Proofs.YtiidkekmklbobaaDoorW.PrintWords
attribute [local go_sem] mx_two mn_two blk_add
/-! ## Worlds: what lay below 'base' stays, but for one block -/
structure Kp (B base : Nat) (w w' : World) : Prop where
  os : w'.os = w.os
  tape : w'.tape = w.tape
  output : w'.output = w.output
  size : w.heap.size ≤ w'.heap.size
  block : ∀ b, b < base → b ≠ B → w'.heap[b]? = w.heap[b]?
theorem Kp.refl (B base : Nat) (w : World) : Kp B base w w := ⟨rfl, rfl, rfl, Nat.le_refl _, fun _ _ _ => rfl⟩
theorem Kp.then {B base : Nat} {w w1 w2 : World} (h : Kp B base w w1) (k : Below base w1 w2) : Kp B base w w2 :=
  ⟨k.os.trans h.os, k.tape.trans h.tape, k.output.trans h.output, Nat.le_trans h.size k.size, fun b hb hne => (k.block b hb).trans (h.block b hb hne)⟩
theorem Kp.trans {B base : Nat} {w w1 w2 : World} (h : Kp B base w w1) (k : Kp B base w1 w2) : Kp B base w w2 :=
  ⟨k.os.trans h.os, k.tape.trans h.tape, k.output.trans h.output, Nat.le_trans h.size k.size, fun b hb hne => (k.block b hb hne).trans (h.block b hb hne)⟩
theorem Kp.set_ {B base : Nat} {w w1 : World} (h : Kp B base w w1) (i : Nat) (u : Value) : Kp B base w (w1.setCell ⟨B, i, none⟩ u) :=
  ⟨h.os, h.tape, h.output, by simpa using h.size, fun b hb hne => (Below.heap_setCell _ _ _ b hne).trans (h.block b hb hne)⟩
theorem Kp.below {B base : Nat} {w w1 : World} (h : Kp B base w w1) (hB : B ≤ base) : Below B w w1 :=
  ⟨h.os, h.tape, h.output, h.size, fun b hb => h.block b (by omega) (by omega)⟩
theorem OwnS.far {w : World} {base : Nat} {v : Value} {xs : List (Int × Int)} (h : OwnS w base v xs) {B : Nat} (hB : B < base) (i : Nat) (u : Value) : OwnS (w.setCell ⟨B, i, none⟩ u) base v xs := by
  refine own_setCell h ?_ u
  intro he
  have := own_base h B he.symm
  omega
set_option maxRecDepth 100000 in
set_option maxHeartbeats 3200000 in
theorem chance1_any (here wi : Int × Int) (i k rest n m gT gR : Nat) (Z : Option Addr) (cz : Nat) (zs : List (Int × Int)) (adw : Addr) (n1 c1 bc bi bh bs B base : Nat) (ls : List (Int × Int)) (lv : Value) (w0 w : World)
    (HF : ∀ w3, Kp B base w0 w3 → w3.cell? ⟨bc, 0, none⟩ = some (.slice (some ⟨gT, 0, none⟩) n n) ∧ w3.cell? ⟨bi, 0, none⟩ = some (.int .i64 i) ∧ w3.cell? ⟨bh, 0, none⟩ = some (.int .i64 here.1) ∧ w3.cell? ⟨bh, 1, none⟩ = some (.int .i64 here.2) ∧
      w3.cell? ⟨bs, 7, none⟩ = some (.slice (some adw) n1 c1) ∧ w3.cell? ⟨gT, (i + 1) * 3 + k, none⟩ = some (.slice (some ⟨gR, 0, none⟩) m m) ∧ w3.cell? ⟨gR, rest, none⟩ = some (.slice Z zs.length cz) ∧
      w3.cell? (adw.add (i * 2)) = some (.int .i64 wi.1) ∧ w3.cell? ⟨adw.block, (adw.add (i * 2)).off + 1, none⟩ = some (.int .i64 wi.2) ∧ Kd.C kSpan w3 Z zs.length zs)
    (hin : i + 1 < n) (hn : n ≤ 32) (hk : k < 3) (hr : rest < m) (hm : m ≤ 1000) (hi1 : i < n1) (hz : WaterS zs) (hh : small here.1 ∧ small here.2) (hwi : small wi.1 ∧ small wi.2) (hlz : zs.length ≤ 100000) (hls : ls.length ≤ 10000000)
    (hw : Kp B base w0 w) (hBb : B < base) (hbase : base ≤ w0.heap.size) (hB : Blk w B 25 [lv]) (hO : OwnS w base lv ls) :
    Calls Tryd.prog 108 #[.int .i64 k, .int .i64 rest, .pointer (some ⟨bc, 0, none⟩), .pointer (some ⟨bi, 0, none⟩), .pointer (some ⟨bh, 0, none⟩), .pointer (some ⟨bs, 0, none⟩), .pointer (some ⟨B, 0, none⟩)] w
      fun e w' => e = .returned (.tuple #[]) ∧ Kp B base w0 w' ∧ ∃ lv', Blk w' B 25 [lv'] ∧ OwnS w' base lv' (ls ++ zs.filterMap (fromF here wi)) := by
  have HT := Lib.hid HF
  have HW := Lib.hid hw
  have HB := Lib.hid hB
  have HO := Lib.hid hO
  have HZ := Lib.hid hz
  obtain ⟨t1, t2, t3, t4, t5, t6, t7, t8, t9, -⟩ := HF w hw
  obtain ⟨⟨x1, x2⟩, x3, x4⟩ := hh
  obtain ⟨⟨y1, y2⟩, y3, y4⟩ := hwi
  clear HF hw hB hO hz
  have j1 : ((i : Int) + 1) < (n : Int) := by omega
  have j2 : (k : Int) < 3 := by omega
  have j3 : (rest : Int) < (m : Int) := by omega
  have j4 : (i : Int) < (n1 : Int) := by omega
  go_enter Tryd.func108, Tryd.ntmps108
  go_wp2
  clear t1 t2 t3 t4 t5 t6 t7 t8 t9 j1 j2 j3
  go_loopw [23] (fun vj wr => ∃ j : Nat, j ≤ zs.length ∧ vj = .int .i64 j ∧ Hid (Kp B base w0 wr) ∧ ∃ lv', Hid (Blk wr B 25 [lv']) ∧ Hid (OwnS wr base lv' (ls ++ (zs.take j).filterMap (fromF here wi))))
    (fun vj _ => zs.length - (intOf vj).toNat)
  case atStart => exact ⟨0, by omega, rfl, HW, lv, HB, by simpa using HO⟩
  case round =>
    obtain ⟨j, hj, rfl, hK, lv', hB', hO'⟩ := hrel
    by_cases hjn : j < zs.length
    · obtain ⟨adz, rfl, z1, z2⟩ := at_span (HT.out wr hK.out).2.2.2.2.2.2.2.2.2 j hjn
      change _ = some (Value.int .i64 (zs.getD j (0, 0)).1) at z1
      change _ = some (Value.int .i64 (zs.getD j (0, 0)).2) at z2
      have hzj := HZ.out (zs.getD j (0, 0)) (by simp [List.getD_eq_getElem?_getD, List.getElem?_eq_getElem hjn])
      have HX := Lib.hid (show (zs.take (j + 1)).filterMap (fromF here wi) = (zs.take j).filterMap (fromF here wi) ++ (fromF here wi (zs.getD j (0, 0))).toList by
        rw [List.take_add_one, List.filterMap_append]
        rw [List.getElem?_eq_getElem hjn]
        simp only [List.getD_eq_getElem?_getD, List.getElem?_eq_getElem hjn, Option.getD_some, Option.toList_some]
        rw [List.filterMap_cons]
        cases fromF here wi zs[j] <;> rfl)
      have HE := Lib.hid (show zs.getD j (0, 0) = ((zs.getD j (0, 0)).1, (zs.getD j (0, 0)).2) from rfl)
      rw [HE.out] at HX
      have hlj : Hid (((zs.take j).filterMap (fromF here wi)).length ≤ 100000) := by
        have := List.length_filterMap_le (fromF here wi) (zs.take j)
        have h2 : (zs.take j).length ≤ j := by simp; omega
        show _ ≤ _
        omega
      generalize (zs.getD j (0, 0)).1 = x1 at *
      generalize (zs.getD j (0, 0)).2 = x2 at *
      generalize (zs.take j).filterMap (fromF here wi) = fs at *
      obtain ⟨v1, v2, v3⟩ := hzj
      have i1 : (j : Int) < (zs.length : Int) := by omega
      have i2 : small x1 ∧ small x2 := by unfold small; omega
      have hbase2 : base ≤ wr.heap.size := Nat.le_trans hbase hK.out.size
      have hT : ∀ w3, Below (wr.heap.size + 1) (wr.alloc (.cells #[.int .i64 x1, .int .i64 x2] 42)) w3 → w3.cell? ⟨bi, 0, none⟩ = some (.int .i64 i) ∧ w3.cell? ⟨bh, 0, none⟩ = some (.int .i64 here.1) ∧ w3.cell? ⟨bh, 1, none⟩ = some (.int .i64 here.2) ∧
          w3.cell? ⟨bs, 7, none⟩ = some (.slice (some adw) n1 c1) ∧ w3.cell? (adw.add (i * 2)) = some (.int .i64 wi.1) ∧ w3.cell? ⟨adw.block, (adw.add (i * 2)).off + 1, none⟩ = some (.int .i64 wi.2) ∧ w3.cell? ⟨wr.heap.size, 0, none⟩ = some (.int .i64 x1) ∧ w3.cell? ⟨wr.heap.size, 1, none⟩ = some (.int .i64 x2) := fun w3 hw3 => by
        have hw4 : Below wr.heap.size wr w3 := ((Below.refl _ wr).alloc (Nat.le_refl _) _).trans (hw3.mono (by omega))
        have hw5 : Below (wr.alloc (.cells #[.int .i64 x1, .int .i64 x2] 42)).heap.size (wr.alloc (.cells #[.int .i64 x1, .int .i64 x2] 42)) w3 := hw3.mono (by simp)
        obtain ⟨-, t2, t3, t4, t5, -, -, t8, t9, -⟩ := HT.out w3 (hK.out.then (hw4.mono hbase2))
        exact ⟨t2, t3, t4, t5, t8, t9, pw_cell_below hw5 (by simp), pw_cell_below hw5 (by simp)⟩
      have HT2 := Lib.hid hT
      clear hT
      have HSZ : Hid (∀ w2, Below (wr.heap.size + 1) (wr.alloc (.cells #[.int .i64 x1, .int .i64 x2] 42)) w2 → wr.heap.size + 1 ≤ w2.heap.size) := fun w2 hb2 => by have := hb2.size; simpa using this
      go_upto_region 3 with fail
      go_cut [11] (fun v11 wc => ∃ g, v11 = .pointer (some ⟨g, 0, none⟩) ∧ wr.heap.size + 1 ≤ g ∧ Hid (Blk wc g 42 (sc [meetF here (x1 - wi.2, x2 - wi.1)])) ∧ Below (wr.heap.size + 1) (wr.alloc (.cells #[.int .i64 x1, .int .i64 x2] 42)) wc)
      case first =>
        go_region_held3 (fun w2 => w2.cell? ⟨bi, 0, none⟩ = some (.int .i64 i) ∧ w2.cell? ⟨bh, 0, none⟩ = some (.int .i64 here.1) ∧ w2.cell? ⟨bh, 1, none⟩ = some (.int .i64 here.2) ∧ w2.cell? ⟨bs, 7, none⟩ = some (.slice (some adw) n1 c1) ∧ w2.cell? (adw.add (i * 2)) = some (.int .i64 wi.1) ∧ w2.cell? ⟨adw.block, (adw.add (i * 2)).off + 1, none⟩ = some (.int .i64 wi.2) ∧ w2.cell? ⟨wr.heap.size, 0, none⟩ = some (.int .i64 x1) ∧ w2.cell? ⟨wr.heap.size, 1, none⟩ = some (.int .i64 x2)) (exact HT2.out _ (by repeat (first | exact Below.refl _ _ | refine below_drew ?_ | refine Below.alloc ?_ (by first | (simp; done) | (simp; omega) | omega) _ | refine Below.setCell ?_ (by first | (simp; done) | (simp; omega) | omega) _ | refine Below.trans ?_ (hb2.mono (by first | (simp; done) | (simp; omega) | omega)) | refine Below.trans ?_ (hb1.mono (by first | (simp; done) | (simp; omega) | omega))))) (first | (go_at_call 83; refine (less_any _ _ _ _ _ i2.1 i2.2 (by unfold small; omega) (by unfold small; omega)).mono ?_; rintro e w1 ⟨rfl, hb1⟩; have hs1 : wr.heap.size + 1 ≤ w1.heap.size := (by have h := hb1.size; first | omega | (simp at h; omega)); have hs1' := hb1.size; (try simp at hs1'); (try have hs1'' : wr.heap.size + 1 < w1.heap.size := (by omega)); obtain ⟨hc1, hf1⟩ := bcell hb1) | (go_at_call 81; refine (meet_any _ _ _ _ _).mono ?_; rintro e w2 ⟨rfl, hb2⟩; have hs2 : wr.heap.size + 1 ≤ w2.heap.size := (by have h := hb2.size; first | omega | (simp at h; omega)); have hs2' := hb2.size; (try simp at hs2'); obtain ⟨hc2, hf2⟩ := bcell hb2))
        all_goals (go_wp2_with fail; go_meet)
        · exact ⟨_, rfl, by omega, Blk.new w2 42 (sc [meetF here (x1 - wi.2, x2 - wi.1)]), (by repeat (first | exact Below.refl _ _ | refine below_drew ?_ | refine Below.alloc ?_ (by first | (simp; done) | (simp; omega) | omega) _ | refine Below.setCell ?_ (by first | (simp; done) | (simp; omega) | omega) _ | refine Below.trans ?_ (hb2.mono (by first | (simp; done) | (simp; omega) | omega)) | refine Below.trans ?_ (hb1.mono (by first | (simp; done) | (simp; omega) | omega))))⟩
        · refine ⟨_, rfl, by omega, ?_, (by repeat (first | exact Below.refl _ _ | refine below_drew ?_ | refine Below.alloc ?_ (by first | (simp; done) | (simp; omega) | omega) _ | refine Below.setCell ?_ (by first | (simp; done) | (simp; omega) | omega) _ | refine Below.trans ?_ (hb2.mono (by first | (simp; done) | (simp; omega) | omega)) | refine Below.trans ?_ (hb1.mono (by first | (simp; done) | (simp; omega) | omega))))⟩
          have h := (Blk.new w1 42 (sc [(0, 0)])).below (w' := w2) ⟨hb2.os, hb2.tape, hb2.output, hb2.size, hb2.block⟩
          have h2 := h.set2 0 (max here.1 (x1 - wi.2)) (min here.2 (x2 - wi.1))
          show Blk _ _ _ _
          simpa [meetF] using h2
        · refine ⟨_, rfl, by omega, ?_, (by repeat (first | exact Below.refl _ _ | refine below_drew ?_ | refine Below.alloc ?_ (by first | (simp; done) | (simp; omega) | omega) _ | refine Below.setCell ?_ (by first | (simp; done) | (simp; omega) | omega) _ | refine Below.trans ?_ (hb2.mono (by first | (simp; done) | (simp; omega) | omega)) | refine Below.trans ?_ (hb1.mono (by first | (simp; done) | (simp; omega) | omega))))⟩
          have h := ((Blk.new (wr.alloc (.cells #[.int .i64 x1, .int .i64 x2] 42)) 42 (sc [(0, 0)])).below (w' := w1) ⟨hb1.os, hb1.tape, hb1.output, hb1.size, hb1.block⟩).below hb2
          have h2 := h.set2 0 (max here.1 (x1 - wi.2)) (min here.2 (x2 - wi.1))
          show Blk _ _ _ _
          simpa [meetF] using h2
      case rest =>
        obtain ⟨g, rfl, hg, hblk, hb⟩ := hcut
        have hbw : Hid (Below wr.heap.size wr wc) := ((Below.refl _ wr).alloc (Nat.le_refl _) _).trans (hb.mono (by omega))
        have hKc : Hid (Kp B base w0 wc) := hK.out.then (hbw.out.mono hbase2)
        have hBc : Hid (Blk wc B 25 [lv']) := hB'.out.below hbw.out
        have hOc : Hid (OwnS wc base lv' (ls ++ fs)) := hO'.out.below hbw.out
        have hgz := hbw.out.size
        have hM := Lib.hid (show fromF here wi (x1, x2) = (if (meetF here (x1 - wi.2, x2 - wi.1)).1 ≤ (meetF here (x1 - wi.2, x2 - wi.1)).2 then some ((meetF here (x1 - wi.2, x2 - wi.1)).1, (meetF here (x1 - wi.2, x2 - wi.1)).2) else none) from rfl)
        have b1 : wc.cell? ⟨g, 0, none⟩ = some (.int .i64 (meetF here (x1 - wi.2, x2 - wi.1)).1) := hblk.out.cell 0
        have b2 : wc.cell? ⟨g, 1, none⟩ = some (.int .i64 (meetF here (x1 - wi.2, x2 - wi.1)).2) := hblk.out.cell 1
        have b3 : wc.cell? ⟨B, 0, none⟩ = some lv' := hBc.out.cell 0
        have hgl := hblk.out.lt
        clear hb hblk hB' hO' hK HT2 HSZ hbw
        generalize (meetF here (x1 - wi.2, x2 - wi.1)).1 = Y1 at *
        generalize (meetF here (x1 - wi.2, x2 - wi.1)).2 = Y2 at *
        by_cases hy : Y2 < Y1
        · have hd : decide (Y2 < Y1) = true := by simpa using hy
          have HF := Lib.hid (show fromF here wi (x1, x2) = none by rw [hM.out, if_neg (by omega)])
          go_wp2_with (go_at_call 91; refine (none_any _ _ _).mono ?_; rintro e w3 ⟨rfl, hb3⟩)
          go_roundw
          case rel =>
            refine ⟨j + 1, by omega, by go_num, hKc.out.then (hb3.mono (by have := hKc.out.size; omega)), lv', hBc.out.below hb3, ?_⟩
            rw [HX.out, HF.out]
            show OwnS _ _ _ _
            simpa using hOc.out.below hb3
          case measure => simp [intOf]; omega
        · have hd : decide (Y2 < Y1) = false := by simpa using hy
          have HF := Lib.hid (show fromF here wi (x1, x2) = some (Y1, Y2) by rw [hM.out, if_pos (by omega)])
          have hBl : B < wc.heap.size := hBc.out.lt
          go_wp2_with (first | (go_at_call 91; refine (none_any _ _ _).mono ?_; rintro e w3 ⟨rfl, hb3⟩; obtain ⟨hc3, hf3⟩ := bcell hb3; have hs3 := hb3.size) | (at_builtin; refine append_span (w0 := w3) (W0 := w3) (W := w3) base lv' Y1 Y2 (ls ++ fs) rfl (.tmp 39) (.tmp 41) rfl rfl rfl (hOc.out.below hb3) (Below.refl _ _) (Below.refl _ _) (by have := hKc.out.size; omega) (by have := hlj.out; simp; omega) ?_; intro v1 w4 hown hb4 hg4 hat4; obtain ⟨A4, c4, rfl⟩ := own_slice hown; have hB4 : Blk w4 B 25 [lv'] := (hb4.block B hBb).trans (hBc.out.below hb3); have b4 := hB4.cell 0; have f4 := hB4.frozen 0))
          go_roundw
          case rel =>
            refine ⟨j + 1, by omega, by go_num, ?_, _, hB4.set_ 0 _, ?_⟩
            · exact ((hKc.out.then (hb3.mono (by have := hKc.out.size; omega))).then hb4).set_ 0 _
            · rw [HX.out, HF.out]
              show OwnS _ _ _ _
              have h2 := OwnS.far hown hBb 0 (.slice A4 ((ls ++ fs) ++ [(Y1, Y2)]).length c4)
              rw [List.append_assoc] at h2
              simpa using h2
          case measure => simp [intOf]; omega
    · have i1 : ¬ (j : Int) < (zs.length : Int) := by omega
      have hje : Hid (j = zs.length) := by show _ = _; omega
      go_wp2
      go_end0
      refine ⟨rfl, hK.out, lv', hB'.out, ?_⟩
      have := hO'.out
      rwa [hje.out, List.take_length] at this
end Go.Proofs.YtiidkekmklbobaaDoor
set_option linter.unusedVariables false
set_option linter.unusedSimpArgs false
namespace Go.Proofs.YtiidkekmklbobaaDoor
open Go.RowKit Go.Proofs.YtiidkekmklbobaaDoorW.PrintWords
attribute [local go_sem] mx_two mn_two blk_add
/-! ## One entry's rows of the table -/
def TabAt (w : World) (gT i m : Nat) (f : Int → Nat → List (Int × Int)) : Prop :=
  ∀ k, k < 3 → ∃ gR, w.cell? ⟨gT, i * 3 + k, none⟩ = some (.slice (some ⟨gR, 0, none⟩) m m) ∧ ∀ r, r < m → ∃ Z cz, w.cell? ⟨gR, r, none⟩ = some (.slice Z (f k r).length cz) ∧ Kd.C kSpan w Z (f k r).length (f k r)
theorem TabAt.below {w w1 : World} {gT i m : Nat} {f : Int → Nat → List (Int × Int)} (h : TabAt w gT i m f) (hb : Below w.heap.size w w1) : TabAt w1 gT i m f := fun k hk => by
  obtain ⟨gR, h1, h2⟩ := h k hk
  refine ⟨gR, pw_cell_below hb h1, fun r hr => ?_⟩
  obtain ⟨Z, cz, h3, h4⟩ := h2 r hr
  exact ⟨Z, cz, pw_cell_below hb h3, Kd.C_below h4 hb⟩
theorem nextAt_some {sh : Bool} {st : Int} {left k : Nat} {z : Int} {rest : Nat} (h : nextAt sh st left k = some (z, rest)) : z = (k : Int) ∧ rest ≤ left := by
  unfold nextAt at h
  split at h
  · cases h
  · split at h
    · split at h
      · injection h with h; injection h with h1 h2; exact ⟨h1.symm, by omega⟩
      · cases h
    · injection h with h; injection h with h1 h2; exact ⟨h1.symm, by omega⟩
def pieceF (p : Pil) (ws : List (Int × Int)) (i : Nat) (st : Int) (tab : Int → Nat → List (Int × Int)) (q : Option (Int × Nat)) : List (Int × Int) :=
  match q with
  | none => []
  | some q => (tab q.1 q.2).filterMap (fromF (loadsF p i st) (sp ws i))
def gathF (p : Pil) (ws : List (Int × Int)) (i : Nat) (st : Int) (left : Nat) (tab : Int → Nat → List (Int × Int)) : Nat → List (Int × Int)
  | 0 => []
  | k + 1 => gathF p ws i st left tab k ++ pieceF p ws i st tab (nextAt (shiftF p i) st left k)
theorem gath_raw (p : Pil) (ws : List (Int × Int)) (i : Nat) (st : Int) (left : Nat) (tab : Int → Nat → List (Int × Int)) : gathF p ws i st left tab 3 = rawF p ws i st left tab := by
  have h : ∀ l : List Nat, (l.filterMap (nextAt (shiftF p i) st left)).flatMap (fun q => (tab q.1 q.2).filterMap (fromF (loadsF p i st) (sp ws i))) = l.flatMap (fun k => pieceF p ws i st tab (nextAt (shiftF p i) st left k)) := by
    intro l
    induction l with
    | nil => rfl
    | cons x l ih =>
      rw [List.filterMap_cons, List.flatMap_cons, ← ih]
      cases nextAt (shiftF p i) st left x with
      | none => simp [pieceF]
      | some q => simp [pieceF]
  unfold rawF nextsF
  rw [h]
  have e : List.range 3 = [0, 1, 2] := rfl
  rw [e]
  simp [gathF]
theorem piece_len (p : Pil) (ws : List (Int × Int)) (i : Nat) (st : Int) (tab : Int → Nat → List (Int × Int)) (ht : ∀ z r, (tab z r).length ≤ 65537) (q : Option (Int × Nat)) : (pieceF p ws i st tab q).length ≤ 65537 := by
  cases q with
  | none => simp [pieceF]
  | some q => exact Nat.le_trans (List.length_filterMap_le _ _) (ht _ _)
theorem gath_len (p : Pil) (ws : List (Int × Int)) (i : Nat) (st : Int) (left : Nat) (tab : Int → Nat → List (Int × Int)) (ht : ∀ z r, (tab z r).length ≤ 65537) (k : Nat) : (gathF p ws i st left tab k).length ≤ k * 65537 := by
  induction k with
  | zero => simp [gathF]
  | succ k ih => have := piece_len p ws i st tab ht (nextAt (shiftF p i) st left k); simp only [gathF, List.length_append]; omega
set_option maxHeartbeats 1600000 in
theorem chance_next (p : Pil) (A : Option Addr) (c : Nat) (A1 : Option Addr) (c1 : Nat) (ws : List (Int × Int)) (i k0 left m gT bc bi bh bs : Nat) (W : World)
    (hp : Ok p) (hwe : weatherB p ws = true) (hi : i + 1 < p.log.length) (hl : left < m) (hm : m ≤ 1000)
    (h1 : W.cell? ⟨bc, 0, none⟩ = some (.slice (some ⟨gT, 0, none⟩) p.log.length p.log.length)) (h2 : W.cell? ⟨bi, 0, none⟩ = some (.int .i64 i))
    (h3 : W.cell? ⟨bh, 0, none⟩ = some (.int .i64 (loadsF p i (k0 : Int)).1)) (h4 : W.cell? ⟨bh, 1, none⟩ = some (.int .i64 (loadsF p i (k0 : Int)).2)) (h5 : W.cell? ⟨bs, 7, none⟩ = some (.slice A1 ws.length c1))
    (hT : TabAt W gT (i + 1) m (chF p ws (i + 1))) (hA : Kd.C kSpan W A p.log.length p.log) (hw : Kd.C kSpan W A1 ws.length ws) :
    Calls Tryd.prog 93 #[storyv p A c A1 ws.length c1, .int .i64 i, .int .i64 (k0 : Int), .int .i64 left, .func (.func 108) #[] #[.pointer (some ⟨bc, 0, none⟩), .pointer (some ⟨bi, 0, none⟩), .pointer (some ⟨bh, 0, none⟩), .pointer (some ⟨bs, 0, none⟩), .pointer (some ⟨W.heap.size, 0, none⟩)]] (W.alloc (.cells #[.slice none 0 0] 25))
      fun e w' => e = .returned (.tuple #[]) ∧ Below W.heap.size W w' ∧ W.heap.size + 2 ≤ w'.heap.size ∧ ∃ lv, Blk w' W.heap.size 25 [lv] ∧ OwnS w' (W.heap.size + 2) lv (rawF p ws i k0 left (chF p ws (i + 1))) := by
  have hL := hp.l
  have hwl : ws.length = p.log.length - 1 := by
    simp only [weatherB, Bool.and_eq_true, beq_iff_eq] at hwe
    exact hwe.1
  have eg : ∀ args w, (callFunc 108 args).run Tryd.prog w = .ok (.enter 108 args) w := enters_of Tryd.func108 (by kernel_rfl) rfl
  obtain ⟨adw, rfl, q1, q2⟩ := at_span hw i (by omega)
  change _ = some (Value.int .i64 (sp ws i).1) at q1
  change _ = some (Value.int .i64 (sp ws i).2) at q2
  have hsz : (W.alloc (.cells #[.slice none 0 0] 25)).heap.size = W.heap.size + 1 := by simp
  have hW0 : ∀ w', Kp W.heap.size (W.heap.size + 2) ((W.alloc (.cells #[.slice none 0 0] 25)).alloc (boxS p A c (some adw) ws.length c1)) w' → Below W.heap.size W w' := fun w' hk =>
    (((Below.refl _ W).alloc (Nat.le_refl _) _).alloc (by simp) _).trans (hk.below (by omega))
  refine (next_any p A c (some adw) ws.length c1 i k0 left 108 _ (W.alloc (.cells #[.slice none 0 0] 25)) hp hi (by omega) eg
    (fun k w' => Kp W.heap.size (W.heap.size + 2) ((W.alloc (.cells #[.slice none 0 0] 25)).alloc (boxS p A c (some adw) ws.length c1)) w' ∧ ∃ lv, Blk w' W.heap.size 25 [lv] ∧ OwnS w' (W.heap.size + 2) lv (gathF p ws i k0 left (chF p ws (i + 1)) k))
    ⟨Kp.refl _ _ _, .slice none 0 0, (Blk.new W 25 [.slice none 0 0]).below ((Below.refl _ _).alloc (Nat.le_refl _) _), own_nil _ _ _ _⟩ ?_ ?_ ?_ ?_ ?_).mono ?_
  · rintro k w' ⟨hk, -⟩
    rw [hsz]
    rw [hk.block _ (by omega) (by omega)]
    have := heap_alloc_new (W.alloc (.cells #[.slice none 0 0] 25)) (boxS p A c (some adw) ws.length c1)
    rwa [hsz] at this
  · rintro k w' ⟨hk, -⟩
    exact Kd.C_below hA (hW0 w' hk)
  · rintro k w' w'' ⟨hk, lv, hb, ho⟩ hbw
    have hz : W.heap.size + 2 ≤ w'.heap.size := by have := hk.size; simpa using this
    exact ⟨hk.then (hbw.mono hz), lv, hb.below hbw, ho.below hbw⟩
  · rintro k w' hk3 hn ⟨hk, lv, hb, ho⟩
    refine ⟨hk, lv, hb, ?_⟩
    simpa [gathF, hn, pieceF] using ho
  · rintro k w' z rest hk3 hn ⟨hk, lv, hb, ho⟩
    obtain ⟨rfl, hrest⟩ := nextAt_some hn
    obtain ⟨gR, g1, g2⟩ := hT k hk3
    obtain ⟨Z, cz, g3, g4⟩ := g2 rest (by omega)
    have hld := loads_bd p hp i (k0 : Int)
    have hsb := weather_at hwe i
    have hgl := gath_len p ws i k0 left (chF p ws (i + 1)) (fun z r => ch_len p ws hp _ z r) k
    have hcl := ch_len p ws hp (p.log.length - 1 - (i + 1)) (k : Int) rest
    refine (chance1_any (loadsF p i (k0 : Int)) (sp ws i) i k rest p.log.length m gT gR Z cz (chF p ws (i + 1) k rest) adw ws.length c1 bc bi bh bs W.heap.size (W.heap.size + 2) _ lv _ w' ?_ (by omega) (by omega) hk3 (by omega) hm (by omega)
      (ch_water p ws hp _ _ _).1 (by unfold small; omega) (by unfold small; omega) (by unfold chF; omega) (by omega) hk (by omega) (by simp) hb ho).mono ?_
    · intro w3 hk3'
      have hb3 := hW0 w3 hk3'
      exact ⟨pw_cell_below hb3 h1, pw_cell_below hb3 h2, pw_cell_below hb3 h3, pw_cell_below hb3 h4, pw_cell_below hb3 h5, pw_cell_below hb3 g1, pw_cell_below hb3 g3, pw_cell_below hb3 q1, pw_cell_below hb3 q2, Kd.C_below g4 hb3⟩
    · rintro e w'' ⟨rfl, hk2, lv2, hb2, ho2⟩
      refine ⟨rfl, hk2, lv2, hb2, ?_⟩
      simpa [gathF, hn, pieceF] using ho2
  · rintro e w' ⟨rfl, hk, lv, hb, ho⟩
    have hz : W.heap.size + 2 ≤ w'.heap.size := by have := hk.size; simpa using this
    rw [gath_raw] at ho
    exact ⟨rfl, hW0 w' hk, hz, lv, hb, ho⟩
end Go.Proofs.YtiidkekmklbobaaDoor
set_option linter.unusedVariables false
set_option linter.unusedSimpArgs false
namespace Go.Proofs.YtiidkekmklbobaaDoor
open Go.RowKit Go.Proofs.YtiidkekmklbobaaDoorW.PrintWords
attribute [local go_sem] mx_two mn_two blk_add
theorem OwnS.one (w : World) (x : Int × Int) : OwnS (w.alloc (.cells #[.int .i64 x.1, .int .i64 x.2] 42)) w.heap.size (.slice (some ⟨w.heap.size, 0, none⟩) 1 1) [x] :=
  ⟨rfl, .inr ⟨w.heap.size, 1, _, rfl, Nat.le_refl _, heap_alloc_new w _, by simp, by decide, rfl, rfl⟩⟩
abbrev boxT (gT n : Nat) : Obj := .cells #[.slice (some ⟨gT, 0, none⟩) n n] 119
abbrev boxI (i : Nat) : Obj := .cells #[.int .i64 i] 3
set_option maxRecDepth 100000 in
set_option maxHeartbeats 3200000 in
theorem chance_any (p : Pil) (A : Option Addr) (c : Nat) (A1 : Option Addr) (c1 : Nat) (ws : List (Int × Int)) (i k0 left m gT : Nat) (w : World)
    (hp : Ok p) (hwe : weatherB p ws = true) (hi : i < p.log.length) (hl : left < m) (hm : m ≤ 1000)
    (hT : i + 1 < p.log.length → TabAt w gT (i + 1) m (chF p ws (i + 1))) (hA : Kd.C kSpan w A p.log.length p.log) (hw : Kd.C kSpan w A1 ws.length ws) :
    Calls Tryd.prog 102 #[storyv p A c A1 ws.length c1, .slice (some ⟨gT, 0, none⟩) p.log.length p.log.length, .int .i64 i, .int .i64 (k0 : Int), .int .i64 left] w
      fun e w' => ∃ v', e = .returned v' ∧ OwnS w' w.heap.size v' (chF p ws i (k0 : Int) left) ∧ Below w.heap.size w w' := by
  have hL := hp.l
  have hbox : Below w.heap.size w (((w.alloc (boxS p A c A1 ws.length c1)).alloc (boxT gT p.log.length)).alloc (boxI i)) := (((Below.refl _ _).alloc (Nat.le_refl _) _).alloc (by simp) _).alloc (by simp; omega) _
  have HBX := Lib.hid hbox
  have HA := Lib.hid (Kd.C_below hA hbox)
  have HW := Lib.hid (Kd.C_below hw hbox)
  have HT : Hid (i + 1 < p.log.length → TabAt (((w.alloc (boxS p A c A1 ws.length c1)).alloc (boxT gT p.log.length)).alloc (boxI i)) gT (i + 1) m (chF p ws (i + 1))) := fun h => (hT h).below hbox
  have HP := Lib.hid hp
  have HWE := Lib.hid hwe
  clear hT hA hw hp hwe hbox
  have HLO := Lib.hid (loads_any p A c i (k0 : Int) (((w.alloc (boxS p A c A1 ws.length c1)).alloc (boxT gT p.log.length)).alloc (boxI i)) HP.out HA.out hi)
  have i2 : i < p.log.length := hi
  by_cases hlast : i + 1 = p.log.length
  · have hF := Lib.hid (chF_last p ws i (k0 : Int) left hlast)
    have e1 : ((i : Int) == (p.log.length : Int) - 1) = true := by simp; omega
    go_enter Tryd.func102, Tryd.ntmps102
    go_wp2_with (go_at_call 72; refine HLO.out.mono ?_; rintro e w1 ⟨rfl, hb⟩; obtain ⟨hc, hf⟩ := bcell hb; have hs1 := hb.size; simp at hs1; have hl0 : w.heap.size < w1.heap.size := (by omega); have hl1 : w.heap.size + 1 < w1.heap.size := (by omega); have hl2 : w.heap.size + 1 + 1 < w1.heap.size := (by omega))
    go_ret
    refine ⟨_, rfl, ?_, HBX.out.trans ((((hb.alloc hb.size _).alloc (by simp; omega) _)).mono (by simp; omega))⟩
    rw [hF.out]
    have h := OwnS.one (w1.alloc (.cells #[.int .i64 (loadsF p i ↑k0).1, .int .i64 (loadsF p i ↑k0).2] 42)) (loadsF p i ↑k0)
    rw [show (w1.alloc (.cells #[.int .i64 (loadsF p i ↑k0).1, .int .i64 (loadsF p i ↑k0).2] 42)).heap.size = w1.heap.size + 1 by simp] at h
    exact own_weaken h (by omega)
  · have e1 : ((i : Int) == (p.log.length : Int) - 1) = false := by simp; omega
    have hi2 : i + 1 < p.log.length := by omega
    have hF := Lib.hid (chF_step p ws i (k0 : Int) left hi2)
    go_enter Tryd.func102, Tryd.ntmps102
    have hraw := Lib.hid (raw_water p ws HP.out i k0 left (chF p ws (i + 1)))
    have hrl : Hid ((rawF p ws i k0 left (chF p ws (i + 1))).length ≤ 1000000000) := by
      have := gath_len p ws i k0 left (chF p ws (i + 1)) (fun z r => ch_len p ws HP.out _ z r) 3
      rw [gath_raw] at this
      show _ ≤ _
      omega
    have HCN : Hid (∀ w1, Below (((w.alloc (boxS p A c A1 ws.length c1)).alloc (boxT gT p.log.length)).alloc (boxI i)).heap.size (((w.alloc (boxS p A c A1 ws.length c1)).alloc (boxT gT p.log.length)).alloc (boxI i)) w1 →
        Calls Tryd.prog 93 #[storyv p A c A1 ws.length c1, .int .i64 i, .int .i64 (k0 : Int), .int .i64 left, .func (.func 108) #[] #[.pointer (some ⟨w.heap.size + 1, 0, none⟩), .pointer (some ⟨w.heap.size + 1 + 1, 0, none⟩), .pointer (some ⟨w1.heap.size, 0, none⟩), .pointer (some ⟨w.heap.size, 0, none⟩), .pointer (some ⟨w1.heap.size + 1, 0, none⟩)]] ((w1.alloc (.cells #[.int .i64 (loadsF p i ↑k0).1, .int .i64 (loadsF p i ↑k0).2] 42)).alloc (.cells #[.slice none 0 0] 25))
          fun e w' => e = .returned (.tuple #[]) ∧ Below w1.heap.size w1 w' ∧ w1.heap.size + 1 + 2 ≤ w'.heap.size ∧ ∃ lv, Blk w' (w1.heap.size + 1) 25 [lv] ∧ OwnS w' (w1.heap.size + 1 + 2) lv (rawF p ws i k0 left (chF p ws (i + 1)))) := fun w1 hb => by
      have hb2 : Below (((w.alloc (boxS p A c A1 ws.length c1)).alloc (boxT gT p.log.length)).alloc (boxI i)).heap.size (((w.alloc (boxS p A c A1 ws.length c1)).alloc (boxT gT p.log.length)).alloc (boxI i)) (w1.alloc (.cells #[.int .i64 (loadsF p i ↑k0).1, .int .i64 (loadsF p i ↑k0).2] 42)) := hb.alloc hb.size _
      have h := chance_next p A c A1 c1 ws i k0 left m gT (w.heap.size + 1) (w.heap.size + 1 + 1) w1.heap.size w.heap.size (w1.alloc (.cells #[.int .i64 (loadsF p i ↑k0).1, .int .i64 (loadsF p i ↑k0).2] 42)) HP.out HWE.out hi2 hl hm
        (pw_cell_below hb2 (by first | (simp [go_sem]; done) | (go_simp; done))) (pw_cell_below hb2 (by first | (simp [go_sem]; done) | (go_simp; done))) (by simp) (by simp) (pw_cell_below hb2 (by first | (simp [go_sem]; done) | (go_simp; done))) ((HT.out hi2).below hb2) (Kd.C_below HA.out hb2) (Kd.C_below HW.out hb2)
      rw [show (w1.alloc (.cells #[.int .i64 (loadsF p i ↑k0).1, .int .i64 (loadsF p i ↑k0).2] 42)).heap.size = w1.heap.size + 1 by simp] at h
      refine h.mono ?_
      rintro e w' ⟨h1, h2, h3, h4⟩
      exact ⟨h1, ((Below.refl _ w1).alloc (Nat.le_refl _) _).trans (h2.mono (by omega)), h3, h4⟩
    go_wp2_with (first | (go_at_call 72; refine HLO.out.mono ?_; rintro e w1 ⟨rfl, hb⟩; obtain ⟨hc, hf⟩ := bcell hb; have hs1 := hb.size; simp at hs1; have hl0 : w.heap.size < w1.heap.size := (by omega); have hl1 : w.heap.size + 1 < w1.heap.size := (by omega); have hl2 : w.heap.size + 1 + 1 < w1.heap.size := (by omega)) | (go_at_call 93; refine (HCN.out w1 hb).mono ?_; rintro e w2 ⟨rfl, hb2, hz2, lv, hB2, hO2⟩; have b2 := hB2.cell 0; obtain ⟨Al, cl, rfl⟩ := own_slice hO2) | (go_at_call 66; refine (united_eq _ _ (w1.heap.size + 1 + 2) w2 (fun x hx => by have := hraw.out x hx; unfold small; omega) hrl.out hO2 hz2).mono ?_; rintro e w3 ⟨v', rfl, hO3, hb3⟩))
    go_ret
    refine ⟨v', rfl, ?_, ?_⟩
    · rw [hF.out]
      exact own_weaken hO3 (by omega)
    · exact HBX.out.trans (((hb.mono (by simp; omega)).trans (hb2.mono (by omega))).trans (hb3.mono (by omega)))
end Go.Proofs.YtiidkekmklbobaaDoor
