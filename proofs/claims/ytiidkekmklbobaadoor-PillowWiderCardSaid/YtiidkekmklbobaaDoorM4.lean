/- Contracts: chances, IndexFunc, Clone, onward, a stopped visit. -/
import Derived.Test.YtiidkekmklbobaaDoorM3
set_option linter.unusedVariables false
set_option linter.unusedSimpArgs false
namespace Go.Proofs.YtiidkekmklbobaaDoor
open Go.RowKit Go.Proofs.YtiidkekmklbobaaDoorW.PrintWords
attribute [local go_sem] mx_two mn_two blk_add
/-! ## The table of 'chances': what is made, what stays -/
theorem info25 : (Tryd.prog.info? 25).map (fun i => (i.zero, i.size, i.bytes)) = some (some (.slice none 0 0), 1, 24) := by kernel_rfl
theorem info124 : (Tryd.prog.info? 124).map (fun i => (i.zero, i.size, i.bytes)) = some (some (.agg #[.slice none 0 0, .slice none 0 0, .slice none 0 0]), 3, 72) := by kernel_rfl
theorem made_same (z : Array Value) (v : Value) (hz : 0 < z.size) (h : ∀ i, i < z.size → z[i]! = v) (n : Nat) : madeCells z n = (List.replicate n v).toArray := by
  apply Array.ext
  · simp [madeCells]
  · intro i h1 h2
    simp only [madeCells, Array.getElem_map, Array.getElem_range, List.getElem_toArray, List.getElem_replicate]
    exact h _ (Nat.mod_lt _ hz)
theorem mk_rows (m : Nat) (hm : m ≤ 1000000) (W : World) : (Instr.makeSlice 123 (.int .i64 (m : Int)) (.int .i64 (m : Int))).run Tryd.prog W = .ok (.slice (some ⟨W.heap.size, 0, none⟩) m m) (W.alloc (.cells (List.replicate m (.slice none 0 0)).toArray 25)) := by
  obtain ⟨i0, hi, hz0, hz1, hz2⟩ := info_parts info25
  have := run_make (P := Tryd.prog) W 123 25 i0 _ Tryd.underlying123 hi hz0 .i64 .i64 (m : Int) (m : Int) (by omega) (by omega) (by rw [hz2]; omega) (by omega)
  rw [this]
  simp only [Int.toNat_natCast, hz1, Nat.mul_one]
  rw [made_same _ (.slice none 0 0) (by simp [Value.cells]) (fun i hi => by simp [Value.cells] at hi ⊢; subst hi; rfl)]
theorem mk_tab (n : Nat) (hn : n ≤ 1000000) (W : World) : (Instr.makeSlice 119 (.int .i64 (n : Int)) (.int .i64 (n : Int))).run Tryd.prog W = .ok (.slice (some ⟨W.heap.size, 0, none⟩) n n) (W.alloc (.cells (List.replicate (n * 3) (.slice none 0 0)).toArray 124)) := by
  obtain ⟨i0, hi, hz0, hz1, hz2⟩ := info_parts info124
  have := run_make (P := Tryd.prog) W 119 124 i0 _ Tryd.underlying119 hi hz0 .i64 .i64 (n : Int) (n : Int) (by omega) (by omega) (by rw [hz2]; omega) (by omega)
  rw [this]
  simp only [Int.toNat_natCast, hz1]
  rw [made_same _ (.slice none 0 0) (by simp [Value.cells]) (fun i hi => by
    simp [Value.cells] at hi ⊢
    obtain rfl | rfl | rfl : i = 0 ∨ i = 1 ∨ i = 2 := by omega
    all_goals rfl)]
/-- A row of rows of spans (block gR of m cells), of which the first q are as they shall be. -/
def RowO (w : World) (base gR m q : Nat) (f : Nat → List (Int × Int)) : Prop :=
  ∃ cs : List Value, Blk w gR 25 cs ∧ cs.length = m ∧ ∀ r, r < q → ∃ v, cs[r]? = some v ∧ OwnS w base v (f r)
/-- The table (block gT, of n entries), of which the entries and states in D are done; their rows lie below 'lim'. -/
def TabO (w : World) (base gT n m lim : Nat) (D : Nat → Nat → Prop) (f : Nat → Nat → Nat → List (Int × Int)) : Prop :=
  ∃ T : List Value, Blk w gT 124 T ∧ T.length = n * 3 ∧ ∀ i k, D i k → ∃ gR, T[i * 3 + k]? = some (.slice (some ⟨gR, 0, none⟩) m m) ∧ gR < lim ∧ RowO w base gR m m (f i k)
theorem RowO.below {w w1 : World} {base gR m q : Nat} {f : Nat → List (Int × Int)} (h : RowO w base gR m q f) (hb : Below w.heap.size w w1) : RowO w1 base gR m q f := by
  obtain ⟨cs, h1, h2, h3⟩ := h
  refine ⟨cs, h1.below hb, h2, fun r hr => ?_⟩
  obtain ⟨v, h4, h5⟩ := h3 r hr
  exact ⟨v, h4, h5.below hb⟩
theorem TabO.below {w w1 : World} {base gT n m lim : Nat} {D : Nat → Nat → Prop} {f : Nat → Nat → Nat → List (Int × Int)} (h : TabO w base gT n m lim D f) (hb : Below w.heap.size w w1) : TabO w1 base gT n m lim D f := by
  obtain ⟨T, h1, h2, h3⟩ := h
  refine ⟨T, h1.below hb, h2, fun i k hD => ?_⟩
  obtain ⟨gR, h4, h5, h6⟩ := h3 i k hD
  exact ⟨gR, h4, h5, h6.below hb⟩
theorem OwnS.set_type {w : World} {base g : Nat} {t : TypeId} {cs : List Value} {v : Value} {xs : List (Int × Int)} (h : OwnS w base v xs) (hg : Blk w g t cs) (ht : 42 ≠ t) (i : Nat) (u : Value) : OwnS (w.setCell ⟨g, i, none⟩ u) base v xs := by
  have h2 : some g ≠ v.ownBlock := own_ne h (show w.heap[g]? = some (.cells cs.toArray t (0, 0)) from hg) ht
  exact own_setCell h (p := ⟨g, i, none⟩) h2 u
theorem RowO.set_far {w : World} {base gR m q g : Nat} {t : TypeId} {cs : List Value} {f : Nat → List (Int × Int)} (h : RowO w base gR m q f) (hg : Blk w g t cs) (ht : 42 ≠ t) (hne : gR ≠ g) (i : Nat) (u : Value) : RowO (w.setCell ⟨g, i, none⟩ u) base gR m q f := by
  obtain ⟨cs', h1, h2, h3⟩ := h
  refine ⟨cs', ?_, h2, fun r hr => ?_⟩
  · exact (Below.heap_setCell _ _ _ _ hne).trans h1
  · obtain ⟨v, h4, h5⟩ := h3 r hr
    exact ⟨v, h4, h5.set_type hg ht i u⟩
/-- One more row of the row is as it shall be. -/
theorem RowO.set_ {w : World} {base gR m q : Nat} {f : Nat → List (Int × Int)} (h : RowO w base gR m q f) (v : Value) (hv : OwnS w base v (f q)) (hq : q < m) : RowO (w.setCell ⟨gR, q, none⟩ v) base gR m (q + 1) f := by
  obtain ⟨cs, h1, h2, h3⟩ := h
  refine ⟨cs.set q v, h1.set_ q v, by simpa using h2, fun r hr => ?_⟩
  by_cases hrq : r = q
  · subst hrq
    exact ⟨v, by simp [List.getElem?_set, h2, hq], hv.set_type h1 (by decide) _ _⟩
  · obtain ⟨u, h4, h5⟩ := h3 r (by omega)
    exact ⟨u, by rw [List.getElem?_set_ne (Ne.symm hrq)]; exact h4, h5.set_type h1 (by decide) _ _⟩
theorem RowO.new {w : World} {base m : Nat} (f : Nat → List (Int × Int)) : RowO (w.alloc (.cells (List.replicate m (.slice none 0 0)).toArray 25)) base w.heap.size m 0 f :=
  ⟨_, Blk.new w 25 _, by simp, fun r hr => absurd hr (Nat.not_lt_zero _)⟩
theorem TabO.new {w : World} {base n m lim : Nat} (f : Nat → Nat → Nat → List (Int × Int)) : TabO (w.alloc (.cells (List.replicate (n * 3) (.slice none 0 0)).toArray 124)) base w.heap.size n m lim (fun _ _ => False) f :=
  ⟨_, Blk.new w 124 _, by simp, fun _ _ h => h.elim⟩
theorem TabO.lim {w : World} {base gT n m lim lim' : Nat} {D : Nat → Nat → Prop} {f : Nat → Nat → Nat → List (Int × Int)} (h : TabO w base gT n m lim D f) (hl : lim ≤ lim') : TabO w base gT n m lim' D f := by
  obtain ⟨T, h1, h2, h3⟩ := h
  refine ⟨T, h1, h2, fun i k hD => ?_⟩
  obtain ⟨gR, h4, h5, h6⟩ := h3 i k hD
  exact ⟨gR, h4, by omega, h6⟩
/-- The row blocks (type 25) are stored into; the table's own rows lie elsewhere. -/
theorem TabO.set_row {w : World} {base gT n m lim g : Nat} {cs : List Value} {D : Nat → Nat → Prop} {f : Nat → Nat → Nat → List (Int × Int)} (h : TabO w base gT n m lim D f) (hg : Blk w g 25 cs) (hl : lim ≤ g) (i : Nat) (u : Value) : TabO (w.setCell ⟨g, i, none⟩ u) base gT n m lim D f := by
  obtain ⟨T, h1, h2, h3⟩ := h
  have hne : gT ≠ g := fun e => by subst e; unfold Blk at h1 hg; rw [h1] at hg; simp at hg
  refine ⟨T, (Below.heap_setCell _ _ _ _ hne).trans h1, h2, fun i' k hD => ?_⟩
  obtain ⟨gR, h4, h5, h6⟩ := h3 i' k hD
  exact ⟨gR, h4, h5, h6.set_far hg (by decide) (by omega) i u⟩
/-- A new row is hung into the table; what is done stays. -/
theorem TabO.hang {w : World} {base gT n m lim : Nat} {D : Nat → Nat → Prop} {f : Nat → Nat → Nat → List (Int × Int)} (h : TabO w base gT n m lim D f) (i k : Nat) (hD : ∀ i' k', D i' k' → i' * 3 + k' ≠ i * 3 + k) (u : Value) : TabO (w.setCell ⟨gT, i * 3 + k, none⟩ u) base gT n m lim D f := by
  obtain ⟨T, h1, h2, h3⟩ := h
  refine ⟨T.set (i * 3 + k) u, h1.set_ _ _, by simpa using h2, fun i' k' hD' => ?_⟩
  obtain ⟨gR, h4, h5, h6⟩ := h3 i' k' hD'
  refine ⟨gR, by rw [List.getElem?_set_ne (Ne.symm (hD i' k' hD'))]; exact h4, h5, ?_⟩
  have hne : gR ≠ gT := by
    obtain ⟨cs, g1, _⟩ := h6
    intro e; subst e; unfold Blk at h1 g1; rw [h1] at g1; simp at g1
  exact h6.set_far h1 (by decide) hne _ u
theorem TabO.at_ {w : World} {base gT n m lim i : Nat} {D : Nat → Nat → Prop} {f : Nat → Nat → Nat → List (Int × Int)} (h : TabO w base gT n m lim D f) (hD : ∀ k, k < 3 → D i k) (F : Int → Nat → List (Int × Int)) (hF : ∀ k r : Nat, F (k : Int) r = f i k r) : TabAt w gT i m F := fun k hk => by
  obtain ⟨T, h1, h2, h3⟩ := h
  obtain ⟨gR, h4, h5, cs, h6, h7, h8⟩ := h3 i k (hD k hk)
  refine ⟨gR, (h1.cell _).trans h4, fun r hr => ?_⟩
  obtain ⟨v, h9, h10⟩ := h8 r hr
  obtain ⟨Z, cz, rfl, h11, _⟩ := h10.reads
  rw [hF]
  exact ⟨Z, cz, (h6.cell _).trans h9, h11⟩
end Go.Proofs.YtiidkekmklbobaaDoor
set_option linter.unusedVariables false
set_option linter.unusedSimpArgs false
namespace Go.Proofs.YtiidkekmklbobaaDoor
open Go.RowKit Go.Proofs.YtiidkekmklbobaaDoorW.PrintWords
attribute [local go_sem] mx_two mn_two blk_add
theorem TabO.done {w : World} {base gT n m lim lim' gR i k : Nat} {D : Nat → Nat → Prop} {f : Nat → Nat → Nat → List (Int × Int)} (h : TabO w base gT n m lim D f) (hc : w.cell? ⟨gT, i * 3 + k, none⟩ = some (.slice (some ⟨gR, 0, none⟩) m m)) (hr : RowO w base gR m m (f i k)) (hl : lim ≤ lim') (hg : gR < lim') :
    TabO w base gT n m lim' (fun i' k' => D i' k' ∨ (i' = i ∧ k' = k)) f := by
  obtain ⟨T, h1, h2, h3⟩ := h
  refine ⟨T, h1, h2, fun i' k' hD => ?_⟩
  rcases hD with hD | ⟨rfl, rfl⟩
  · obtain ⟨g, h4, h5, h6⟩ := h3 i' k' hD
    exact ⟨g, h4, by omega, h6⟩
  · exact ⟨gR, (h1.cell _).symm.trans hc, hg, hr⟩
theorem TabO.imp {w : World} {base gT n m lim : Nat} {D D' : Nat → Nat → Prop} {f : Nat → Nat → Nat → List (Int × Int)} (h : TabO w base gT n m lim D f) (hD : ∀ i k, D' i k → D i k) : TabO w base gT n m lim D' f := by
  obtain ⟨T, h1, h2, h3⟩ := h
  exact ⟨T, h1, h2, fun i k hd => h3 i k (hD i k hd)⟩
def fO (p : Pil) (ws : List (Int × Int)) (i k r : Nat) : List (Int × Int) := chF p ws i (k : Int) r
set_option maxRecDepth 100000 in
set_option maxHeartbeats 3200000 in
theorem chances_any (p : Pil) (A : Option Addr) (c : Nat) (A1 : Option Addr) (c1 : Nat) (ws : List (Int × Int)) (w : World) (hp : Ok p) (hwe : weatherB p ws = true) (F : Nat) (hF : p.faults = (F : Int)) (hA : Kd.C kSpan w A p.log.length p.log) (hw : Kd.C kSpan w A1 ws.length ws) :
    Calls Tryd.prog 87 #[storyv p A c A1 ws.length c1] w
      fun e w' => ∃ gT, e = .returned (.slice (some ⟨gT, 0, none⟩) p.log.length p.log.length) ∧ Below w.heap.size w w' ∧ TabO w' w.heap.size gT p.log.length (F + 1) w'.heap.size (fun i k => i < p.log.length ∧ k < 3) (fO p ws) := by
  have hL := hp.l
  have hF32 : F ≤ 32 := by have := hp.f1; omega
  have hbox : Below w.heap.size w (w.alloc (boxS p A c A1 ws.length c1)) := (Below.refl _ _).alloc (Nat.le_refl _) _
  have HBX := Lib.hid hbox
  have HA := Lib.hid (Kd.C_below hA hbox)
  have HW := Lib.hid (Kd.C_below hw hbox)
  have HP := Lib.hid hp
  have HWE := Lib.hid hwe
  have HF := Lib.hid hF
  clear hA hw hp hwe hbox hF
  have hmk := mk_tab p.log.length (by omega)
  have hHS : Hid (∀ w2, Below (w.heap.size + 1) (w.alloc (boxS p A c A1 ws.length c1)) w2 → w.heap.size + 1 ≤ w2.heap.size) := fun w2 hb2 => by have := hb2.size; simpa using this
  go_enter Tryd.func87, Tryd.ntmps87
  go_wp2
  go_loopw [5] (fun v5 wr => ∃ z : Int, v5 = .int .i64 z ∧ -1 ≤ z ∧ z + 1 ≤ (p.log.length : Int) ∧ Below (w.heap.size + 1) (w.alloc (boxS p A c A1 ws.length c1)) wr ∧ Hid (TabO wr w.heap.size (w.heap.size + 1) p.log.length (F + 1) wr.heap.size (fun i k => z < (i : Int) ∧ i < p.log.length ∧ k < 3) (fO p ws)))
    (fun v5 _ => (intOf v5 + 1).toNat)
  case atStart =>
    refine ⟨_, rfl, by omega, by omega, ?_, ?_⟩
    · exact (Below.refl (w.heap.size + 1) (w.alloc (boxS p A c A1 ws.length c1))).alloc (by simp) _
    · have h := TabO.new (w := w.alloc (boxS p A c A1 ws.length c1)) (base := w.heap.size) (n := p.log.length) (m := F + 1) (lim := ((w.alloc (boxS p A c A1 ws.length c1)).alloc (.cells (List.replicate (p.log.length * 3) (.slice none 0 0)).toArray 124)).heap.size) (fO p ws)
      rw [show (w.alloc (boxS p A c A1 ws.length c1)).heap.size = w.heap.size + 1 by simp] at h
      rw [List.toArray_replicate] at h
      exact h.imp (fun i k hd => by omega)
  case round =>
    obtain ⟨z, rfl, hz1, hz2, hb, hT⟩ := hrel
    by_cases hz : 0 ≤ z
    · obtain ⟨i, rfl⟩ : ∃ i : Nat, z = (i : Int) := ⟨z.toNat, by omega⟩
      clear hz hz1
      have hi : i < p.log.length := by omega
      have iz : (0 : Int) ≤ (i : Int) := by omega
      have hHS2 : Hid (∀ w2, Below (w.heap.size + 1) (w.alloc (boxS p A c A1 ws.length c1)) w2 → ∀ j, j < 8 → w2.cell? ⟨w.heap.size, j, none⟩ = #[.int .i64 p.no, .int .i64 p.cell, .int .i64 p.noise, .int .i64 p.slab, .int .i64 p.jump, .int .i64 p.faults, .slice A p.log.length c, .slice A1 ws.length c1][j]?) := fun w2 hb2 j hj => by
        rw [hb2.cell (p := ⟨w.heap.size, j, none⟩) (by simp)]
        simp
      obtain ⟨wo, rfl⟩ : ∃ wo : World, wo = wr := ⟨_, rfl⟩
      go_wp2
      go_loopw [21] (fun v21 wr => ∃ k : Nat, k ≤ 3 ∧ v21 = .int .i64 k ∧ Below (w.heap.size + 1) (w.alloc (boxS p A c A1 ws.length c1)) wr ∧ Hid (TabO wr w.heap.size (w.heap.size + 1) p.log.length (F + 1) wr.heap.size (fun i' k' => ((i : Int) < (i' : Int) ∨ (i' = i ∧ k' < k)) ∧ i' < p.log.length ∧ k' < 3) (fO p ws)))
        (fun v21 _ => 3 - (intOf v21).toNat)
      case atStart => exact ⟨0, by omega, rfl, hb, hT.out.imp (fun i' k' hd => by omega)⟩
      case round =>
        clear hb hT
        obtain ⟨k, hk, rfl, hb, hT⟩ := hrel
        by_cases hk3 : k < 3
        · have k3 : (k : Int) < 3 := by omega
          have hz0 : w.heap.size + 1 ≤ wr.heap.size := hHS.out _ hb
          have hz1 : w.heap.size < wr.heap.size := by omega
          have hgT : Hid (w.heap.size + 1 < wr.heap.size) := by obtain ⟨T, h1, _⟩ := hT.out; exact h1.lt
          have hgT2 := hgT.out
          have b5 : wr.cell? ⟨w.heap.size, 5, none⟩ = some (.int .i64 (F : Int)) := by rw [hHS2.out wr hb 5 (by omega), ← HF.out]; rfl
          have hfz : ∀ j, wr.frozen? ⟨w.heap.size + 1, j, none⟩ = false := by obtain ⟨T, h1, _⟩ := hT.out; exact h1.frozen
          have hct : ∃ u, wr.cell? ⟨w.heap.size + 1, i * 3 + k, none⟩ = some u := by
            obtain ⟨T, h1, h2, _⟩ := hT.out
            exact ⟨_, (h1.cell _).trans (List.getElem?_eq_getElem (by omega))⟩
          obtain ⟨u, hu⟩ := hct
          have hmk2 : ∀ W : World, (Instr.makeSlice 123 (.int .i64 ((F : Int) + 1)) (.int .i64 ((F : Int) + 1))).run Tryd.prog W = .ok (.slice (some ⟨W.heap.size, 0, none⟩) (F + 1) (F + 1)) (W.alloc (.cells (Array.replicate (F + 1) (.slice none 0 0)) 25)) := fun W => by
            have := mk_rows (F + 1) (by omega) W
            simpa using this
          have fw : IntKind.i64.wrap ((F : Int) + 1) = (F : Int) + 1 := by rw [IntKind.wrap_i64]; omega
          have i3 : (i : Int) < (p.log.length : Int) := by omega
          go_wp2
          go_region
          have H2 : Hid (Below (w.heap.size + 1) (w.alloc (boxS p A c A1 ws.length c1)) ((wr.setCell ⟨w.heap.size + 1, i * 3 + k, none⟩ (.slice (some ⟨wr.heap.size, 0, none⟩) (F + 1) (F + 1))).alloc (.cells (Array.replicate (F + 1) (.slice none 0 0)) 25)).drew ∧ TabO ((wr.setCell ⟨w.heap.size + 1, i * 3 + k, none⟩ (.slice (some ⟨wr.heap.size, 0, none⟩) (F + 1) (F + 1))).alloc (.cells (Array.replicate (F + 1) (.slice none 0 0)) 25)).drew w.heap.size (w.heap.size + 1) p.log.length (F + 1) wr.heap.size (fun i' k' => ((i : Int) < (i' : Int) ∨ (i' = i ∧ k' < k)) ∧ i' < p.log.length ∧ k' < 3) (fO p ws) ∧ RowO ((wr.setCell ⟨w.heap.size + 1, i * 3 + k, none⟩ (.slice (some ⟨wr.heap.size, 0, none⟩) (F + 1) (F + 1))).alloc (.cells (Array.replicate (F + 1) (.slice none 0 0)) 25)).drew w.heap.size wr.heap.size (F + 1) 0 (fO p ws i k) ∧ ((wr.setCell ⟨w.heap.size + 1, i * 3 + k, none⟩ (.slice (some ⟨wr.heap.size, 0, none⟩) (F + 1) (F + 1))).alloc (.cells (Array.replicate (F + 1) (.slice none 0 0)) 25)).drew.cell? ⟨w.heap.size + 1, i * 3 + k, none⟩ = some (.slice (some ⟨wr.heap.size, 0, none⟩) (F + 1) (F + 1)) ∧ wr.heap.size < ((wr.setCell ⟨w.heap.size + 1, i * 3 + k, none⟩ (.slice (some ⟨wr.heap.size, 0, none⟩) (F + 1) (F + 1))).alloc (.cells (Array.replicate (F + 1) (.slice none 0 0)) 25)).drew.heap.size) := by
            have hbs : Below (wr.setCell ⟨w.heap.size + 1, i * 3 + k, none⟩ (.slice (some ⟨wr.heap.size, 0, none⟩) (F + 1) (F + 1))).heap.size (wr.setCell ⟨w.heap.size + 1, i * 3 + k, none⟩ (.slice (some ⟨wr.heap.size, 0, none⟩) (F + 1) (F + 1))) ((wr.setCell ⟨w.heap.size + 1, i * 3 + k, none⟩ (.slice (some ⟨wr.heap.size, 0, none⟩) (F + 1) (F + 1))).alloc (.cells (Array.replicate (F + 1) (.slice none 0 0)) 25)).drew := below_drew ((Below.refl _ _).alloc (Nat.le_refl _) _)
            refine ⟨below_drew ((hb.setCell (by simp) _).alloc (by simp; omega) _), (hT.out.hang i k (fun i' k' hd => by omega) _).below hbs, ?_, ?_, by simp⟩
            · have h := RowO.new (w := wr.setCell ⟨w.heap.size + 1, i * 3 + k, none⟩ (.slice (some ⟨wr.heap.size, 0, none⟩) (F + 1) (F + 1))) (base := w.heap.size) (m := F + 1) (fO p ws i k)
              rw [List.toArray_replicate, show (wr.setCell ⟨w.heap.size + 1, i * 3 + k, none⟩ (.slice (some ⟨wr.heap.size, 0, none⟩) (F + 1) (F + 1))).heap.size = wr.heap.size by simp] at h
              exact h
            · refine pw_cell_below hbs ?_
              obtain ⟨T, h1, h2, _⟩ := hT.out
              have hlt : i * 3 + k < T.length := by omega
              rw [(h1.set_ _ _).cell, List.getElem?_set_self hlt]
          go_wp2
          generalize ((wr.setCell ⟨w.heap.size + 1, i * 3 + k, none⟩ (.slice (some ⟨wr.heap.size, 0, none⟩) (F + 1) (F + 1))).alloc (.cells (Array.replicate (F + 1) (.slice none 0 0)) 25)).drew = W2 at H2 ⊢
          obtain ⟨wq, rfl⟩ : ∃ wq : World, wq = wr := ⟨_, rfl⟩
          clear hb hT hfz hu b5
          go_loopw [40] (fun v40 wr => ∃ q : Nat, q ≤ F + 1 ∧ v40 = .int .i64 q ∧ Below (w.heap.size + 1) (w.alloc (boxS p A c A1 ws.length c1)) wr ∧ Hid (TabO wr w.heap.size (w.heap.size + 1) p.log.length (F + 1) wq.heap.size (fun i' k' => ((i : Int) < (i' : Int) ∨ (i' = i ∧ k' < k)) ∧ i' < p.log.length ∧ k' < 3) (fO p ws)) ∧ Hid (RowO wr w.heap.size wq.heap.size (F + 1) q (fO p ws i k)) ∧ Hid (wr.cell? ⟨w.heap.size + 1, i * 3 + k, none⟩ = some (.slice (some ⟨wq.heap.size, 0, none⟩) (F + 1) (F + 1))) ∧ wq.heap.size < wr.heap.size)
            (fun v40 _ => F + 1 - (intOf v40).toNat)
          case atStart => exact ⟨0, by omega, rfl, H2.out.1, H2.out.2.1, H2.out.2.2.1, H2.out.2.2.2.1, H2.out.2.2.2.2⟩
          case round =>
            clear H2
            obtain ⟨q, hq, rfl, hb, hT, hR, hC, hlt⟩ := hrel
            by_cases hq1 : q < F + 1
            · have q3 : (q : Int) < (F : Int) + 1 := by omega
              have hz2 : w.heap.size + 1 ≤ wr.heap.size := hHS.out _ hb
              have hz3 : w.heap.size < wr.heap.size := by omega
              have hbs := hHS2.out wr hb
              have b0 := hbs 0 (by omega)
              have b1 := hbs 1 (by omega)
              have b2 := hbs 2 (by omega)
              have b3 := hbs 3 (by omega)
              have b4 := hbs 4 (by omega)
              have b5 := hbs 5 (by omega)
              have b6 := hbs 6 (by omega)
              have b7 := hbs 7 (by omega)
              simp at b0 b1 b2 b3 b4 b5 b6 b7
              have hc0 := hC.out
              have hcR : ∃ u, wr.cell? ⟨wq.heap.size, q, none⟩ = some u := by
                obtain ⟨cs, h1, h2, _⟩ := hR.out
                exact ⟨_, (h1.cell _).trans (List.getElem?_eq_getElem (by omega))⟩
              have hfR : ∀ j, wr.frozen? ⟨wq.heap.size, j, none⟩ = false := by obtain ⟨cs, h1, _⟩ := hR.out; exact h1.frozen
              have HCH : Hid (∀ w2, Below wr.heap.size wr w2 → Calls Tryd.prog 102 #[storyv p A c A1 ws.length c1, .slice (some ⟨w.heap.size + 1, 0, none⟩) p.log.length p.log.length, .int .i64 i, .int .i64 (k : Int), .int .i64 q] w2
                  fun e w' => ∃ v', e = .returned v' ∧ OwnS w' w2.heap.size v' (chF p ws i (k : Int) q) ∧ Below w2.heap.size w2 w') := fun w2 hb2 => by
                have hb3 : Below (w.heap.size + 1) (w.alloc (boxS p A c A1 ws.length c1)) w2 := hb.trans (hb2.mono hz2)
                exact chance_any p A c A1 c1 ws i k q (F + 1) (w.heap.size + 1) w2 HP.out HWE.out hi hq1 (by omega) (fun h => (hT.out.below hb2).at_ (fun k' hk' => by omega) _ (fun _ _ => rfl)) (Kd.C_below HA.out (hb3.mono (by simp))) (Kd.C_below HW.out (hb3.mono (by simp)))
              have hT3 : Hid (∀ w2, Below wq.heap.size wr w2 → w2.cell? ⟨w.heap.size, 0, none⟩ = some (.int .i64 p.no) ∧ w2.cell? ⟨w.heap.size, 1, none⟩ = some (.int .i64 p.cell) ∧ w2.cell? ⟨w.heap.size, 2, none⟩ = some (.int .i64 p.noise) ∧ w2.cell? ⟨w.heap.size, 3, none⟩ = some (.int .i64 p.slab) ∧ w2.cell? ⟨w.heap.size, 4, none⟩ = some (.int .i64 p.jump) ∧ w2.cell? ⟨w.heap.size, 5, none⟩ = some (.int .i64 p.faults) ∧ w2.cell? ⟨w.heap.size, 6, none⟩ = some (.slice A p.log.length c) ∧ w2.cell? ⟨w.heap.size, 7, none⟩ = some (.slice A1 ws.length c1) ∧ w2.cell? ⟨w.heap.size + 1, i * 3 + k, none⟩ = some (.slice (some ⟨wq.heap.size, 0, none⟩) (F + 1) (F + 1))) := fun w2 hb2 =>
                ⟨(hb2.cell (p := ⟨_, 0, none⟩) hz1).trans b0, (hb2.cell (p := ⟨_, 1, none⟩) hz1).trans b1, (hb2.cell (p := ⟨_, 2, none⟩) hz1).trans b2, (hb2.cell (p := ⟨_, 3, none⟩) hz1).trans b3, (hb2.cell (p := ⟨_, 4, none⟩) hz1).trans b4, (hb2.cell (p := ⟨_, 5, none⟩) hz1).trans b5, (hb2.cell (p := ⟨_, 6, none⟩) hz1).trans b6, (hb2.cell (p := ⟨_, 7, none⟩) hz1).trans b7, (hb2.cell (p := ⟨_, i * 3 + k, none⟩) hgT2).trans hc0⟩
              obtain ⟨uR, huR⟩ := hcR
              go_wp2
              go_region_held3 (fun w2 => w2.cell? ⟨w.heap.size, 0, none⟩ = some (.int .i64 p.no) ∧ w2.cell? ⟨w.heap.size, 1, none⟩ = some (.int .i64 p.cell) ∧ w2.cell? ⟨w.heap.size, 2, none⟩ = some (.int .i64 p.noise) ∧ w2.cell? ⟨w.heap.size, 3, none⟩ = some (.int .i64 p.slab) ∧ w2.cell? ⟨w.heap.size, 4, none⟩ = some (.int .i64 p.jump) ∧ w2.cell? ⟨w.heap.size, 5, none⟩ = some (.int .i64 p.faults) ∧ w2.cell? ⟨w.heap.size, 6, none⟩ = some (.slice A p.log.length c) ∧ w2.cell? ⟨w.heap.size, 7, none⟩ = some (.slice A1 ws.length c1) ∧ w2.cell? ⟨w.heap.size + 1, i * 3 + k, none⟩ = some (.slice (some ⟨wq.heap.size, 0, none⟩) (F + 1) (F + 1))) (exact hT3.out _ (by repeat (first | exact Below.refl _ _ | refine below_drew ?_ | refine Below.setCell ?_ (by first | (simp; done) | (simp; omega) | omega) _ | refine Below.trans ?_ (hb2.mono (by omega))))) (first | (go_at_call 102; refine (HCH.out _ (by repeat (first | exact Below.refl _ _ | refine below_drew ?_))).mono ?_; rintro e w1 ⟨v', rfl, hO1, hb1⟩; have hb2 : Below wr.heap.size wr w1 := ⟨hb1.os, hb1.tape, hb1.output, hb1.size, hb1.block⟩; have g1 : w1.cell? ⟨wq.heap.size, q, none⟩ = some uR := pw_cell_below hb2 huR; have g2 : ∀ j, w1.frozen? ⟨wq.heap.size, j, none⟩ = false := (fun j => by obtain ⟨cs, h1, _⟩ := hR.out.below hb2; exact h1.frozen j); have hO2 := Lib.hid hO1; obtain ⟨A', c', rfl, hK1, hcl1⟩ := hO1.reads; clear hO1 hK1))
              go_wp2
              go_roundw
              case rel =>
                have hO3 : OwnS w1 w.heap.size (.slice A' (chF p ws i (k : Int) q).length c') (fO p ws i k q) := own_weaken hO2.out (by simp; omega)
                have hT4 := hT.out.below hb2
                have hR4 := hR.out.below hb2
                have hb4 : Below (w.heap.size + 1) (w.alloc (boxS p A c A1 ws.length c1)) w1 := hb.trans (hb2.mono hz2)
                have hC4 := pw_cell_below hb2 hC.out
                refine ⟨q + 1, by omega, by go_num, hb4.setCell (by simp; omega) _, ?_, hR4.set_ _ hO3 hq1, ?_, by simp; have := hb2.size; omega⟩
                · obtain ⟨cs, h1, _⟩ := hR4
                  exact hT4.set_row h1 (Nat.le_refl _) q _
                · show World.cell? _ _ = _
                  refine (World.cell?_setCell_other _ _ _ _ (h := fun e => ?_)).trans hC4
                  injection e with e1
                  omega
              case measure => first | (simp [intOf]; done) | (simp [intOf]; omega)
            · obtain rfl : q = F + 1 := by omega
              have q3 : ¬ (((F + 1 : Nat) : Int) < (F : Int) + 1) := by omega
              go_wp2
              go_roundw
              case rel => exact ⟨k + 1, by omega, by go_num, hb, (hT.out.done hC.out hR.out (by omega) hlt).imp (fun i' k' hd => by omega)⟩
              case measure => first | (simp [intOf]; done) | (simp [intOf]; omega)
        · obtain rfl : k = 3 := by omega
          have k3 : ¬ ((3 : Nat) : Int) < 3 := by omega
          have iw : IntKind.i64.wrap ((i : Int) - 1) = (i : Int) - 1 := by rw [IntKind.wrap_i64]; omega
          go_wp2
          go_roundw
          case rel => exact ⟨_, by go_num, by omega, by omega, hb, hT.out.imp (fun i' k' hd => by omega)⟩
          case measure => first | (simp [intOf]; done) | (simp [intOf]; omega)
    · obtain rfl : z = -1 := by omega
      go_wp2
      go_ret
      exact ⟨_, rfl, HBX.out.trans (hb.mono (by omega)), hT.out.imp (fun i k hd => by omega)⟩
end Go.Proofs.YtiidkekmklbobaaDoor
set_option linter.unusedVariables false
set_option linter.unusedSimpArgs false
namespace Go.Proofs.YtiidkekmklbobaaDoor
open Go.RowKit Go.Proofs.YtiidkekmklbobaaDoorW.PrintWords
attribute [local go_sem] mx_two mn_two blk_add
def meetsB (x y : Int × Int) : Bool := !decide (min x.2 y.2 < max x.1 y.1)
def encP (x : Int × Int) : List Value := [.int .i64 x.1, .int .i64 x.2]
theorem pred90 (x : Int × Int) (B : Nat) (w : World) (hB : B < w.heap.size) (h1 : w.cell? ⟨B, 0, none⟩ = some (.int .i64 x.1)) (h2 : w.cell? ⟨B, 1, none⟩ = some (.int .i64 x.2)) :
    PredBelow Tryd.prog 90 #[.pointer (some ⟨B, 0, none⟩)] (fun y => .agg (encP y).toArray) (meetsB x) w := fun W y hb => by
  have hc1 : W.cell? ⟨B, 0, none⟩ = some (.int .i64 x.1) := (hb.cell (p := ⟨B, 0, none⟩) hB).trans h1
  have hc2 : W.cell? ⟨B, 1, none⟩ = some (.int .i64 x.2) := (hb.cell (p := ⟨B, 1, none⟩) hB).trans h2
  have hBW : B < W.heap.size := Nat.lt_of_lt_of_le hB hb.size
  have hm := meet_any x.1 x.2 y.1 y.2 (W.alloc (.cells #[.int .i64 y.1, .int .i64 y.2] 42))
  have hn := fun w1 => none_any (max x.1 y.1) (min x.2 y.2) w1
  show Calls Tryd.prog 90 #[.agg #[.int .i64 y.1, .int .i64 y.2], .pointer (some ⟨B, 0, none⟩)] W _
  unfold meetsB
  go_enter Tryd.func90, Tryd.ntmps90
  go_wp2_with (first | (go_at_call 81; refine hm.mono ?_; rintro e w1 ⟨rfl, hb1⟩) | (go_at_call 91; refine (hn _).mono ?_; rintro e w2 ⟨rfl, hb2⟩))
  go_ret
  exact ⟨rfl, ((hb.alloc hb.size _).trans (hb1.mono (by have := hb.size; simp; omega))).trans (hb2.mono (by have := hb1.size; have := hb.size; simp at *; omega))⟩
theorem index_none (v : Option Addr) (c : Nat) (f : Value) (w : World) : Calls Tryd.prog 103 #[.slice v 0 c, f] w fun e w' => e = .returned (.int .i64 (-1)) ∧ w' = w := by
  go_enter Tryd.func103, Tryd.ntmps103
  go_wp2
  go_loopw [8] (fun v8 wr => v8 = .int .i64 0 ∧ wr = w) (fun _ _ => 0)
  case atStart => exact ⟨rfl, rfl⟩
  case round =>
    obtain ⟨rfl, rfl⟩ := hrel
    go_wp2
    go_ret
    exact ⟨rfl, rfl⟩
theorem contains_none (v : Option Addr) (c : Nat) (f : Value) (w : World) : Calls Tryd.prog 89 #[.slice v 0 c, f] w fun e w' => e = .returned (.bool false) ∧ Below w.heap.size w w' := by
  have h := index_none v c f w
  go_enter Tryd.func89, Tryd.ntmps89
  go_wp2_with (go_at_call 103; refine h.mono ?_; rintro e w1 ⟨rfl, rfl⟩)
  go_ret
  exact ⟨rfl, Below.refl _ _⟩
theorem contains_any (x : Int × Int) (B : Nat) (zs : List (Int × Int)) (v : Value) (base : Nat) (w : World) (hB : B < w.heap.size) (h1 : w.cell? ⟨B, 0, none⟩ = some (.int .i64 x.1)) (h2 : w.cell? ⟨B, 1, none⟩ = some (.int .i64 x.2)) (hv : OwnS w base v zs) (hl : zs.length ≤ 1000000000) :
    Calls Tryd.prog 89 #[v, .func (.func 90) #[] #[.pointer (some ⟨B, 0, none⟩)]] w fun e w' => e = .returned (.bool (zs.any (meetsB x))) ∧ Below w.heap.size w w' := by
  rcases hv.form with ⟨rfl, rfl⟩ | ⟨g, c, rfl, hc⟩
  · exact contains_none _ _ _ _
  · have eg : ∀ args w, (callFunc 90 args).run Tryd.prog w = .ok (.enter 90 args) w := enters_of Tryd.func90 (by kernel_rfl) rfl
    have h := AnyQ.slices_ContainsFunc (P := Tryd.prog) (ρ := Tryd.containsSpan_ren) Tryd.containsSpan 2 Tryd.isAgg42 Tryd.sizeOf42 encP (fun _ => rfl) (meetsB x) 90 #[.pointer (some ⟨B, 0, none⟩)] eg g 0 zs.length c zs w (pred90 x B w hB h1 h2) (Nat.le_refl _) (by omega) hv.lt.2 (fun j hj i u hi => by
      obtain ⟨g1, g2⟩ := hv.cell j hj
      have e : zs[j]! = zs.getD j (0, 0) := by simp [List.getD_eq_getElem?_getD, List.getElem?_eq_getElem hj, getElem!_pos zs j hj]
      rw [e] at hi
      rw [Nat.zero_add]
      match i, hi with
      | 0, hi => simp [encP] at hi; rw [← hi]; exact g1
      | 1, hi => simp [encP] at hi; rw [← hi]; exact g2
      | i + 2, hi => simp [encP] at hi)
    rw [List.take_length] at h
    exact h
end Go.Proofs.YtiidkekmklbobaaDoor
set_option linter.unusedVariables false
set_option linter.unusedSimpArgs false
namespace Go.Proofs.YtiidkekmklbobaaDoor
open Go.RowKit Go.Proofs.YtiidkekmklbobaaDoorW.PrintWords
attribute [local go_sem] mx_two mn_two blk_add
/-! ## Pure: the walk of 'cases' -/
def goesB (p : Pil) (ws : List (Int × Int)) (i : Nat) (st : Int) (left : Nat) (x : Int × Int) : Bool := (chF p ws i st left).any (meetsB (meetF x (loadsF p i st)))
def goF (p : Pil) (ws : List (Int × Int)) (i : Nat) (st : Int) (x : Int × Int) : Int × Int := ((meetF x (loadsF p i st)).1 + (sp ws i).1, (meetF x (loadsF p i st)).2 + (sp ws i).2)
/-- d entries lie behind entry i; l: the states before it; out: what has been found. -/
def visF (p : Pil) (ws : List (Int × Int)) (most : Nat) : Nat → Nat → Int → Nat → Int × Int → List Int → List (List Int) → List (List Int)
  | 0, i, st, left, x, l, out => if !goesB p ws i st left x || decide (most < out.length) then out else out ++ [l ++ [st]]
  | d + 1, i, st, left, x, l, out =>
    if !goesB p ws i st left x || decide (most < out.length) then out
    else (nextsF p i st left).foldl (fun o q => visF p ws most d (i + 1) q.1 q.2 (goF p ws i st x) (l ++ [st]) o) out
def casesF (p : Pil) (ws : List (Int × Int)) (most F : Nat) : List (List Int) :=
  if p.log.length = 0 then [[]]
  else visF p ws most (p.log.length - 1) 0 1 F (0, 65536) [] (visF p ws most (p.log.length - 1) 0 0 F (0, 65536) [] [])
theorem foldl_pred {α β : Type} (P : β → Prop) (f : β → α → β) (h : ∀ b a, P b → P (f b a)) : ∀ (l : List α) (b : β), P b → P (l.foldl f b)
  | [], _, hb => hb
  | a :: l, b, hb => foldl_pred P f h l _ (h b a hb)
/-- Never more than one above 'most'. -/
theorem vis_len (p : Pil) (ws : List (Int × Int)) (most : Nat) : ∀ (d i : Nat) (st : Int) (left : Nat) (x : Int × Int) (l : List Int) (out : List (List Int)), out.length ≤ most + 1 → (visF p ws most d i st left x l out).length ≤ most + 1 := by
  intro d
  induction d with
  | zero =>
    intro i st left x l out h
    unfold visF
    split
    · exact h
    · rename_i hc
      simp only [Bool.or_eq_true, decide_eq_true_eq, not_or] at hc
      simp only [List.length_append, List.length_cons, List.length_nil]
      omega
  | succ d ih =>
    intro i st left x l out h
    unfold visF
    split
    · exact h
    · exact foldl_pred (fun o : List (List Int) => o.length ≤ most + 1) _ (fun o q ho => ih _ _ _ _ _ o ho) _ _ h
end Go.Proofs.YtiidkekmklbobaaDoor
set_option linter.unusedVariables false
set_option linter.unusedSimpArgs false
namespace Go.Proofs.YtiidkekmklbobaaDoor
open Go.RowKit Go.Proofs.YtiidkekmklbobaaDoorW.PrintWords
attribute [local go_sem] mx_two mn_two blk_add
/-! ## Rows of numbers, rows of such rows, of the call's own -/
def OwnI (w : World) (base : Nat) (v : Value) (xs : List Int) : Prop := w.ownsRow base 3 1 v xs.length (nums .i64 xs)
def OutO (w : World) (base : Nat) (ov : Value) (outs : List (List Int)) (avoid : Option Nat) : Prop :=
  ∃ vs : List Value, w.ownsRow base 26 1 ov outs.length vs ∧ ∀ (j : Nat) (xs : List Int), outs[j]? = some xs → ∃ v, vs[j]? = some v ∧ OwnI w base v xs ∧ ∀ k, v.ownBlock = some k → avoid ≠ some k
/-- What a call of 'visit' leaves: but for the two variables and the rows, what lay there lies there. -/
structure Kv (bl bo : Nat) (lv ov : Value) (w w' : World) : Prop where
  os : w'.os = w.os
  tape : w'.tape = w.tape
  output : w'.output = w.output
  size : w.heap.size ≤ w'.heap.size
  block : ∀ b, b < w.heap.size → b ≠ bl → b ≠ bo → some b ≠ lv.ownBlock → some b ≠ ov.ownBlock → w'.heap[b]? = w.heap[b]?
def Later (w : World) (v v' : Value) : Prop := v'.ownBlock = v.ownBlock ∨ ∃ b, v'.ownBlock = some b ∧ w.heap.size ≤ b
theorem Kv.refl (bl bo : Nat) (lv ov : Value) (w : World) : Kv bl bo lv ov w w := ⟨rfl, rfl, rfl, Nat.le_refl _, fun _ _ _ _ _ _ => rfl⟩
theorem Kv.then {bl bo : Nat} {lv ov : Value} {w w1 w2 : World} (h : Kv bl bo lv ov w w1) (k : Below w1.heap.size w1 w2) : Kv bl bo lv ov w w2 :=
  ⟨k.os.trans h.os, k.tape.trans h.tape, k.output.trans h.output, Nat.le_trans h.size k.size, fun b hb h1 h2 h3 h4 => (k.block b (Nat.lt_of_lt_of_le hb h.size)).trans (h.block b hb h1 h2 h3 h4)⟩
theorem Kv.trans {bl bo : Nat} {lv ov lv1 ov1 : Value} {w w1 w2 : World} (h : Kv bl bo lv ov w w1) (k : Kv bl bo lv1 ov1 w1 w2) (hl : Later w lv lv1) (ho : Later w ov ov1) : Kv bl bo lv ov w w2 :=
  ⟨k.os.trans h.os, k.tape.trans h.tape, k.output.trans h.output, Nat.le_trans h.size k.size, fun b hb h1 h2 h3 h4 => by
    refine (k.block b (Nat.lt_of_lt_of_le hb h.size) h1 h2 ?_ ?_).trans (h.block b hb h1 h2 h3 h4)
    · rcases hl with e | ⟨g, e, hg⟩
      · rw [e]; exact h3
      · rw [e]; intro e2; injection e2 with e2; omega
    · rcases ho with e | ⟨g, e, hg⟩
      · rw [e]; exact h4
      · rw [e]; intro e2; injection e2 with e2; omega⟩
theorem OwnI.below {w w1 : World} {base : Nat} {v : Value} {xs : List Int} (h : OwnI w base v xs) (hb : Below w.heap.size w w1) : OwnI w1 base v xs := pw_own_below h hb
theorem OutO.below {w w1 : World} {base : Nat} {ov : Value} {outs : List (List Int)} {a : Option Nat} (h : OutO w base ov outs a) (hb : Below w.heap.size w w1) : OutO w1 base ov outs a := by
  obtain ⟨vs, h1, h2⟩ := h
  refine ⟨vs, pw_own_below h1 hb, fun j xs hj => ?_⟩
  obtain ⟨v, h3, h4, h5⟩ := h2 j xs hj
  exact ⟨v, h3, h4.below hb, h5⟩
theorem OwnI.far {w : World} {base : Nat} {v : Value} {xs : List Int} (h : OwnI w base v xs) {B : Nat} (hB : B < base) (i : Nat) (u : Value) : OwnI (w.setCell ⟨B, i, none⟩ u) base v xs := by
  refine own_setCell h ?_ u
  intro he
  have := own_base h B he.symm
  omega
theorem OutO.far {w : World} {base : Nat} {ov : Value} {outs : List (List Int)} {a : Option Nat} (h : OutO w base ov outs a) {B : Nat} (hB : B < base) (i : Nat) (u : Value) : OutO (w.setCell ⟨B, i, none⟩ u) base ov outs a := by
  obtain ⟨vs, h1, h2⟩ := h
  refine ⟨vs, own_setCell h1 ?_ u, fun j xs hj => ?_⟩
  · intro he
    have := own_base h1 B he.symm
    omega
  · obtain ⟨v, h3, h4, h5⟩ := h2 j xs hj
    exact ⟨v, h3, h4.far hB i u, h5⟩
/-- The slice cut back by its last element. -/
theorem OwnI.cut {w : World} {base g n c : Nat} {xs : List Int} {z : Int} (h : OwnI w base (.slice (some ⟨g, 0, none⟩) n c) (xs ++ [z])) : OwnI w base (.slice (some ⟨g, 0, none⟩) xs.length c) xs := by
  obtain ⟨h1, h2⟩ := h
  rcases h2 with ⟨h3, _⟩ | ⟨g', cap, cur, h3, hb, hh, h4, h5, h6, h7⟩
  · cases h3
  · injection h3 with h8 h9 h10
    injection h8 with h8
    injection h8 with h8
    subst h8; subst h10
    simp only [List.length_append, List.length_cons, List.length_nil] at h4 h7
    refine ⟨by simp [nums], .inr ⟨g, c, cur, rfl, hb, hh, by omega, h5, h6, ?_⟩⟩
    rw [Nat.mul_one] at h7 ⊢
    have e : cur.toList.take xs.length = (cur.toList.take (xs.length + 1)).take xs.length := by rw [List.take_take]; congr 1; omega
    rw [e, show xs.length + 1 = xs.length + (0 + 1) by omega, h7, nums_append]
    rw [List.take_append_of_le_length (by simp [nums])]
    rw [List.take_of_length_le (by simp [nums])]
end Go.Proofs.YtiidkekmklbobaaDoor
set_option linter.unusedVariables false
set_option linter.unusedSimpArgs false
namespace Go.Proofs.YtiidkekmklbobaaDoor
open Go.RowKit Go.Proofs.YtiidkekmklbobaaDoorW.PrintWords
attribute [local go_sem] mx_two mn_two blk_add
theorem info3 : (Tryd.prog.info? 3).map (fun i => (i.zero, i.size, i.bytes)) = some (some (.int .i64 0), 1, 8) := by kernel_rfl
theorem info26 : (Tryd.prog.info? 26).map (fun i => (i.zero, i.size, i.bytes)) = some (some (.slice none 0 0), 1, 24) := by kernel_rfl
theorem own_other_block {w w1 : World} {base : Nat} {e : TypeId} {size n : Nat} {v : Value} {xs : List Value} (h : w.ownsRow base e size v n xs) {row : Option Nat} (hg : w.grownBy w1 row) (hne : ∀ k, v.ownBlock = some k → row ≠ some k) : w1.ownsRow base e size v n xs :=
  own_move h fun k hk => hg.block k (own_lt h k hk) (fun e => hne k hk e.symm)
section
variable {ops : Array Oper} {rest : List Oper} {o : Oper} {a : Act} {Q : Exit → Act → World → Prop}
theorem append_int {w0 W0 W : World} (base : Nat) (v : Value) (x : Int) (xs : List Int) (hgd : o.guard = none) (s z : Operand)
    (ho : o.op = .call { callee := .builtin .append, args := #[s, z], argTypes := #[26, 26] })
    (hs : a.eval s = v) (hx : a.eval z = .slice (some ⟨W.heap.size, 0, none⟩) 1 1)
    (HO : OwnI W0 base v xs) (HW : Below W0.heap.size W0 W) (HB : Below base w0 W0) (hbase : base ≤ W0.heap.size) (hl : xs.length ≤ 1000000000)
    (h : ∀ v1 w1, OwnI w1 base v1 (xs ++ [x]) → Below base w0 w1 → W.grownBy w1 v.ownBlock → (v1.ownBlock = v.ownBlock ∨ ∃ b, v1.ownBlock = some b ∧ W.heap.size ≤ b) → wpList Tryd.prog ops Q rest (a.put o.dst v1) w1) :
    wpList Tryd.prog ops Q (o :: rest) a (W.alloc (.cells #[.int .i64 x] 3)) := by
  refine print_append_cells (w0 := w0) base hgd s z 26 3 (.int .i64 0) 1 8 ho (by kernel_rfl) info3 rfl (by decide) (by decide) v xs.length (nums .i64 xs) [.int .i64 x] hs hx rfl (by simp [Value.oneCell']) (HO.below HW) (HB.trans (HW.mono hbase)) (Nat.le_trans hbase HW.size) (by omega) ?_
  intro v1 w1 hown hb hg hat
  refine h v1 w1 ?_ hb hg hat
  unfold OwnI
  rw [nums_append, List.length_append]
  exact hown
/-- append(out, row): the row is a slice value x that owns its numbers. -/
theorem append_row {w0 W0 W : World} (base : Nat) (ov x : Value) (xs : List Int) (outs : List (List Int)) (avoid : Option Nat) (hgd : o.guard = none) (s z : Operand)
    (ho : o.op = .call { callee := .builtin .append, args := #[s, z], argTypes := #[29, 29] })
    (hs : a.eval s = ov) (hx : a.eval z = .slice (some ⟨W.heap.size, 0, none⟩) 1 1) (hx1 : x.oneCell' = true)
    (HO : OutO W0 base ov outs avoid) (HX : OwnI W0 base x xs) (hav : ∀ k, x.ownBlock = some k → avoid ≠ some k) (HW : Below W0.heap.size W0 W) (HB : Below base w0 W0) (hbase : base ≤ W0.heap.size) (hl : outs.length ≤ 1000000000)
    (h : ∀ v1 w1, OutO w1 base v1 (outs ++ [xs]) avoid → Below base w0 w1 → W.grownBy w1 ov.ownBlock → (v1.ownBlock = ov.ownBlock ∨ ∃ b, v1.ownBlock = some b ∧ W.heap.size ≤ b) → wpList Tryd.prog ops Q rest (a.put o.dst v1) w1) :
    wpList Tryd.prog ops Q (o :: rest) a (W.alloc (.cells #[x] 26)) := by
  obtain ⟨vs, h1, h2⟩ := HO
  have hvl : vs.length = outs.length := by have := h1.1; omega
  refine print_append_cells (w0 := w0) base hgd s z 29 26 (.slice none 0 0) 1 24 ho (by kernel_rfl) info26 rfl (by decide) (by decide) ov outs.length vs [x] hs hx rfl (by simpa using hx1) (pw_own_below h1 HW) (HB.trans (HW.mono hbase)) (Nat.le_trans hbase HW.size) (by omega) ?_
  intro v1 w1 hown hb hg hat
  refine h v1 w1 ⟨vs ++ [x], by rw [List.length_append]; exact hown, fun j ys hj => ?_⟩ hb hg hat
  have hbW : Below W0.heap.size W0 W := HW
  have far : ∀ (u : Value) (us : List Int), OwnI W0 base u us → OwnI w1 base u us := fun u us hu => by
    refine own_other_block (hu.below HW) hg fun k hk he => ?_
    obtain ⟨c1, e1⟩ := own_typed (hu.below HW) k hk
    obtain ⟨c2, e2⟩ := own_typed (pw_own_below h1 HW) k he
    rw [e1] at e2
    simp at e2
  by_cases hjl : j < outs.length
  · rw [List.getElem?_append_left hjl] at hj
    obtain ⟨u, g1, g2, g3⟩ := h2 j ys hj
    exact ⟨u, by rw [List.getElem?_append_left (by omega)]; exact g1, far u ys g2, g3⟩
  · rw [List.getElem?_append_right (by omega)] at hj
    have hj0 : j - outs.length = 0 := by
      rcases Nat.eq_zero_or_pos (j - outs.length) with h0 | h0
      · exact h0
      · rw [List.getElem?_eq_none (by simp; omega)] at hj; cases hj
    rw [hj0] at hj
    simp at hj
    subst hj
    exact ⟨x, by rw [List.getElem?_append_right (by omega), hvl, hj0]; rfl, far x xs HX, hav⟩
end
end Go.Proofs.YtiidkekmklbobaaDoor
set_option linter.unusedVariables false
set_option linter.unusedSimpArgs false
namespace Go.Proofs.YtiidkekmklbobaaDoor
open Go.RowKit Go.Proofs.YtiidkekmklbobaaDoorW.PrintWords
attribute [local go_sem] mx_two mn_two blk_add
theorem clone_any (xs : List Int) (v : Value) (base : Nat) (w : World) (h : OwnI w base v xs) (h0 : 0 < xs.length) (hl : xs.length ≤ 1000000000) :
    Calls Tryd.prog 92 #[v] w fun e w' => ∃ v', e = .returned v' ∧ OwnI w' w.heap.size v' xs ∧ Below w.heap.size w w' := by
  rcases h.2 with ⟨_, h1⟩ | ⟨g, c, cur, rfl, hb, hh, h2, h3, h4, h5⟩
  · omega
  · have hx := Tryd.slices_Clone_int g 0 xs.length c xs w (Nat.le_refl _) (by omega) (fun j hj => by
      have := World.ownsRow.cellAt h j (by omega)
      rw [Nat.zero_add, this]
      simp [nums, List.getElem?_eq_getElem hj, getElem!_pos xs j hj])
    refine hx.mono ?_
    rintro e w' ⟨v', rfl, h6, _, h7⟩
    rw [List.take_length] at h6
    exact ⟨v', rfl, h6, h7⟩
set_option maxRecDepth 100000 in
set_option maxHeartbeats 1600000 in
/-- The closure that visits the next entry. -/
theorem onward_any (z : Int) (rest i : Nat) (x wi : Int × Int) (adw : Addr) (n1 c1 bv bi bx bs : Nat) (g : Nat) (lb : Array Value) (R : World → Prop) (w : World)
    (eg : ∀ args w, (callFunc g args).run Tryd.prog w = .ok (.enter g args) w)
    (h1 : w.cell? ⟨bv, 0, none⟩ = some (.func (.func g) #[] lb)) (h2 : w.cell? ⟨bi, 0, none⟩ = some (.int .i64 i)) (h3 : w.cell? ⟨bx, 0, none⟩ = some (.int .i64 x.1)) (h4 : w.cell? ⟨bx, 1, none⟩ = some (.int .i64 x.2))
    (h5 : w.cell? ⟨bs, 7, none⟩ = some (.slice (some adw) n1 c1)) (h6 : w.cell? (adw.add (i * 2)) = some (.int .i64 wi.1)) (h7 : w.cell? ⟨adw.block, (adw.add (i * 2)).off + 1, none⟩ = some (.int .i64 wi.2))
    (hi : i < n1) (hi2 : i ≤ 1000) (hx : small x.1 ∧ small x.2) (hwi : small wi.1 ∧ small wi.2)
    (HV : ∀ w3, Below w.heap.size w w3 → Calls Tryd.prog g (#[.int .i64 ((i : Int) + 1), .int .i64 z, .int .i64 rest, spv (x.1 + wi.1) (x.2 + wi.2)] ++ lb) w3 fun e w' => e = .returned (.tuple #[]) ∧ R w') :
    Calls Tryd.prog 94 #[.int .i64 z, .int .i64 rest, .pointer (some ⟨bv, 0, none⟩), .pointer (some ⟨bi, 0, none⟩), .pointer (some ⟨bx, 0, none⟩), .pointer (some ⟨bs, 0, none⟩)] w fun e w' => e = .returned (.tuple #[]) ∧ R w' := by
  have HV2 := Lib.hid HV
  have hT : Hid (∀ w3, Below w.heap.size w w3 → w3.cell? ⟨bv, 0, none⟩ = some (.func (.func g) #[] lb) ∧ w3.cell? ⟨bi, 0, none⟩ = some (.int .i64 i) ∧ w3.cell? ⟨bx, 0, none⟩ = some (.int .i64 x.1) ∧ w3.cell? ⟨bx, 1, none⟩ = some (.int .i64 x.2) ∧
      w3.cell? ⟨bs, 7, none⟩ = some (.slice (some adw) n1 c1) ∧ w3.cell? (adw.add (i * 2)) = some (.int .i64 wi.1) ∧ w3.cell? ⟨adw.block, (adw.add (i * 2)).off + 1, none⟩ = some (.int .i64 wi.2)) := fun w3 hb => 
    ⟨pw_cell_below hb h1, pw_cell_below hb h2, pw_cell_below hb h3, pw_cell_below hb h4, pw_cell_below hb h5, pw_cell_below hb h6, pw_cell_below hb h7⟩
  clear HV h1 h2 h3 h4 h5 h6 h7
  have fw : IntKind.i64.wrap ((i : Int) + 1) = (i : Int) + 1 := by rw [IntKind.wrap_i64]; omega
  have i4 : (i : Int) < (n1 : Int) := by omega
  obtain ⟨x1, x2⟩ := x
  obtain ⟨y1, y2⟩ := wi
  dsimp only at *
  go_enter Tryd.func94, Tryd.ntmps94
  go_wp2
  refine wp_region_tail 12 (fun w3 => Below w.heap.size w w3) (by kernel_rfl) (by kernel_rfl) (below_drew (Below.refl _ _)) ?_
  simp only [List.take_succ_cons, List.take_zero, List.drop_succ_cons, List.drop_zero]
  repeat (refine wpQuiet_step (fun K hK => ?_); go_simp; (first | (refine hK _ ?_) | (refine ⟨_, fun _ _ => rfl, hK _ ?_⟩) | (refine ⟨_, fun w3 hw3 => less_exact trivial (add_any _ _ _ _ w3 hx.1 hx.2 hwi.1 hwi.2) hw3 hw3.size, hK _ ?_⟩) | (apply Exists.intro; refine ⟨fun w3 hw3 => ?_, hK _ ?_⟩; focus (have t1 := (hT.out w3 hw3).1; have t2 := (hT.out w3 hw3).2.1; have t3 := (hT.out w3 hw3).2.2.1; have t4 := (hT.out w3 hw3).2.2.2.1; have t5 := (hT.out w3 hw3).2.2.2.2.1; have t6 := (hT.out w3 hw3).2.2.2.2.2.1; have t7 := (hT.out w3 hw3).2.2.2.2.2.2; first | (go_simp; done) | (go_simp; rfl)))); clear hK K)
  refine wpQuiet_nil ?_
  intro w3 hw3
  go_wp2_with (go_at_fn g; refine (HV2.out w3 hw3).mono ?_; rintro e w4 ⟨rfl, hR⟩)
  go_end0
  exact ⟨rfl, hR⟩
end Go.Proofs.YtiidkekmklbobaaDoor
set_option linter.unusedVariables false
set_option linter.unusedSimpArgs false
namespace Go.Proofs.YtiidkekmklbobaaDoor
open Go.RowKit Go.Proofs.YtiidkekmklbobaaDoorW.PrintWords
attribute [local go_sem] mx_two mn_two blk_add
/-- What lies fixed while 'cases' goes on: W is the world ahead of 'out'. -/
structure Fx (p : Pil) (A : Option Addr) (c : Nat) (A1 : Option Addr) (c1 : Nat) (ws : List (Int × Int)) (F most gT base0 bs bc bm bn : Nat) (W : World) : Prop where
  hp : Ok p
  hwe : weatherB p ws = true
  hF : p.faults = (F : Int)
  n0 : 0 < p.log.length
  mo : most ≤ 1000000
  s : ∀ j, j < 8 → W.cell? ⟨bs, j, none⟩ = #[.int .i64 p.no, .int .i64 p.cell, .int .i64 p.noise, .int .i64 p.slab, .int .i64 p.jump, .int .i64 p.faults, .slice A p.log.length c, .slice A1 ws.length c1][j]?
  c : W.cell? ⟨bc, 0, none⟩ = some (.slice (some ⟨gT, 0, none⟩) p.log.length p.log.length)
  m : W.cell? ⟨bm, 0, none⟩ = some (.int .i64 most)
  n : W.cell? ⟨bn, 0, none⟩ = some (.int .i64 p.log.length)
  t : TabO W base0 gT p.log.length (F + 1) W.heap.size (fun i k => i < p.log.length ∧ k < 3) (fO p ws)
  a : Kd.C kSpan W A p.log.length p.log
  w : Kd.C kSpan W A1 ws.length ws
/-- The seven variables that 'visit' holds on to. -/
def capV (bs bc bm bn bo : Nat) : Array Value := #[.pointer (some ⟨bs, 0, none⟩), .pointer (some ⟨bc, 0, none⟩), .pointer (some ⟨bo, 0, none⟩), .pointer (some ⟨bm, 0, none⟩), .pointer (some ⟨bo + 1, 0, none⟩), .pointer (some ⟨bn, 0, none⟩), .pointer (some ⟨bo + 2, 0, none⟩)]
/-- The state of the walk. -/
structure VS (bs bc bm bn : Nat) (W w : World) (lv ov : Value) (l : List Int) (outs : List (List Int)) : Prop where
  b : Below W.heap.size W w
  sz : W.heap.size + 4 ≤ w.heap.size
  v : w.cell? ⟨W.heap.size + 2, 0, none⟩ = some (.func (.func 88) #[] (capV bs bc bm bn W.heap.size))
  bo : Blk w W.heap.size 29 [ov]
  bl : Blk w (W.heap.size + 1) 26 [lv]
  l : OwnI w (W.heap.size + 4) lv l
  o : OutO w (W.heap.size + 4) ov outs lv.ownBlock
theorem VS.below {bs bc bm bn : Nat} {W w w1 : World} {lv ov : Value} {l : List Int} {outs : List (List Int)} (h : VS bs bc bm bn W w lv ov l outs) (hb : Below w.heap.size w w1) : VS bs bc bm bn W w1 lv ov l outs :=
  ⟨h.b.trans (hb.mono (by have := h.sz; omega)), Nat.le_trans h.sz hb.size, pw_cell_below hb h.v, h.bo.below hb, h.bl.below hb, h.l.below hb, h.o.below hb⟩
/-- A row of the table, at any world that keeps W's blocks. -/
theorem Fx.row {p : Pil} {A : Option Addr} {c : Nat} {A1 : Option Addr} {c1 : Nat} {ws : List (Int × Int)} {F most gT base0 bs bc bm bn : Nat} {W w : World} (h : Fx p A c A1 c1 ws F most gT base0 bs bc bm bn W) (hb : Below W.heap.size W w) (i k left : Nat) (hi : i < p.log.length) (hk : k < 3) (hl : left < F + 1) :
    ∃ gR v, w.cell? ⟨gT, i * 3 + k, none⟩ = some (.slice (some ⟨gR, 0, none⟩) (F + 1) (F + 1)) ∧ w.cell? ⟨gR, left, none⟩ = some v ∧ OwnS w base0 v (chF p ws i (k : Int) left) := by
  obtain ⟨T, h1, h2, h3⟩ := h.t.below hb
  obtain ⟨gR, h4, h5, cs, h6, h7, h8⟩ := h3 i k ⟨hi, hk⟩
  obtain ⟨v, h9, h10⟩ := h8 left hl
  exact ⟨gR, v, (h1.cell _).trans h4, (h6.cell _).trans h9, h10⟩
/-- Bounds of what goes on. -/
theorem go_bd (p : Pil) (ws : List (Int × Int)) (hp : Ok p) (i : Nat) (st : Int) (x : Int × Int) (hx : small x.1 ∧ small x.2) : small (meetF x (loadsF p i st)).1 ∧ small (meetF x (loadsF p i st)).2 := by
  have := loads_bd p hp i st
  unfold small meetF at *
  dsimp only
  omega
end Go.Proofs.YtiidkekmklbobaaDoor
set_option linter.unusedVariables false
set_option linter.unusedSimpArgs false
namespace Go.Proofs.YtiidkekmklbobaaDoor
open Go.RowKit Go.Proofs.YtiidkekmklbobaaDoorW.PrintWords
attribute [local go_sem] mx_two mn_two blk_add
set_option maxRecDepth 100000 in
set_option maxHeartbeats 3200000 in
theorem visit_stop (p : Pil) (A : Option Addr) (c : Nat) (A1 : Option Addr) (c1 : Nat) (ws : List (Int × Int)) (F most gT base0 bs bc bm bn : Nat) (W : World) (hX : Fx p A c A1 c1 ws F most gT base0 bs bc bm bn W)
    (i k left : Nat) (x : Int × Int) (l : List Int) (outs : List (List Int)) (lv ov : Value) (w : World) (hi : i < p.log.length) (hk : k < 3) (hl : left < F + 1) (hx : small x.1 ∧ small x.2) (hS : VS bs bc bm bn W w lv ov l outs)
    (hstop : goesB p ws i (k : Int) left x = false ∨ most < outs.length) :
    Calls Tryd.prog 88 (#[.int .i64 i, .int .i64 (k : Int), .int .i64 left, spv x.1 x.2] ++ capV bs bc bm bn W.heap.size) w fun e w' => e = .returned (.tuple #[]) ∧ Below w.heap.size w w' := by
  show Calls Tryd.prog 88 #[.int .i64 i, .int .i64 (k : Int), .int .i64 left, spv x.1 x.2, .pointer (some ⟨bs, 0, none⟩), .pointer (some ⟨bc, 0, none⟩), .pointer (some ⟨W.heap.size, 0, none⟩), .pointer (some ⟨bm, 0, none⟩), .pointer (some ⟨W.heap.size + 1, 0, none⟩), .pointer (some ⟨bn, 0, none⟩), .pointer (some ⟨W.heap.size + 2, 0, none⟩)] w _
  have hbw : Below w.heap.size w ((w.alloc (.cells #[.int .i64 i] 3)).alloc (.cells #[.int .i64 x.1, .int .i64 x.2] 42)) := ((Below.refl _ _).alloc (Nat.le_refl _) _).alloc (by simp) _
  have HX := Lib.hid hX
  have HS := Lib.hid hS
  have hT : Hid (∀ w3, Below w.heap.size w w3 → w3.cell? ⟨bs, 0, none⟩ = some (.int .i64 p.no) ∧ w3.cell? ⟨bs, 1, none⟩ = some (.int .i64 p.cell) ∧ w3.cell? ⟨bs, 2, none⟩ = some (.int .i64 p.noise) ∧ w3.cell? ⟨bs, 3, none⟩ = some (.int .i64 p.slab) ∧ w3.cell? ⟨bs, 4, none⟩ = some (.int .i64 p.jump) ∧ w3.cell? ⟨bs, 5, none⟩ = some (.int .i64 p.faults) ∧ w3.cell? ⟨bs, 6, none⟩ = some (.slice A p.log.length c)) := fun w3 hb => by
    have hb2 : Below W.heap.size W w3 := hS.b.trans (hb.mono (by have := hS.sz; omega))
    exact ⟨pw_cell_below hb2 (hX.s 0 (by omega)), pw_cell_below hb2 (hX.s 1 (by omega)), pw_cell_below hb2 (hX.s 2 (by omega)), pw_cell_below hb2 (hX.s 3 (by omega)), pw_cell_below hb2 (hX.s 4 (by omega)), pw_cell_below hb2 (hX.s 5 (by omega)), pw_cell_below hb2 (hX.s 6 (by omega))⟩
  have HLO : Hid (∀ w3, Below w.heap.size w w3 → Calls Tryd.prog 72 #[p.val A c, .int .i64 i, .int .i64 (k : Int)] w3 fun e w' => e = .returned (spv (loadsF p i (k : Int)).1 (loadsF p i (k : Int)).2) ∧ Below w3.heap.size w3 w') := fun w3 hb => by
    have hb2 : Below W.heap.size W w3 := hS.b.trans (hb.mono (by have := hS.sz; omega))
    exact loads_any p A c i (k : Int) w3 hX.hp (Kd.C_below hX.a hb2) hi
  clear hX hS
  obtain ⟨x1, x2⟩ := x
  dsimp only at *
  go_enter Tryd.func88, Tryd.ntmps88
  have hT2 : Hid (∀ w3, Below (w.heap.size + 1 + 1) ((w.alloc (.cells #[.int .i64 i] 3)).alloc (.cells #[.int .i64 x1, .int .i64 x2] 42)) w3 → Below w.heap.size w w3 ∧ w3.cell? ⟨w.heap.size, 0, none⟩ = some (.int .i64 i) ∧ w3.cell? ⟨w.heap.size + 1, 0, none⟩ = some (.int .i64 x1) ∧ w3.cell? ⟨w.heap.size + 1, 1, none⟩ = some (.int .i64 x2) ∧ w.heap.size + 1 + 1 ≤ w3.heap.size) := fun w3 hb => by
    have hb2 : Below ((w.alloc (.cells #[.int .i64 i] 3)).alloc (.cells #[.int .i64 x1, .int .i64 x2] 42)).heap.size ((w.alloc (.cells #[.int .i64 i] 3)).alloc (.cells #[.int .i64 x1, .int .i64 x2] 42)) w3 := hb.mono (by simp)
    exact ⟨hbw.trans (hb.mono (by omega)), pw_cell_below hb2 (by simp [go_sem]), pw_cell_below hb2 (by simp [go_sem]), pw_cell_below hb2 (by simp [go_sem]), by have := hb.size; simpa using this⟩
  clear hbw
  go_wp2
  refine wp_region_tail 7 (fun w3 => Below (w.heap.size + 1 + 1) ((w.alloc (.cells #[.int .i64 i] 3)).alloc (.cells #[.int .i64 x1, .int .i64 x2] 42)) w3) (by kernel_rfl) (by kernel_rfl) (below_drew (Below.refl _ _)) ?_
  simp only [List.take_succ_cons, List.take_zero, List.drop_succ_cons, List.drop_zero]
  repeat (refine wpQuiet_step (fun K hK => ?_); go_simp; (first | (refine hK _ ?_) | (refine ⟨_, fun _ _ => rfl, hK _ ?_⟩) | (refine ⟨_, fun w3 hw3 => less_exact trivial (meet_any _ _ _ _ w3) hw3 (hT2.out w3 hw3).2.2.2.2, hK _ ?_⟩) | (refine ⟨_, fun w3 hw3 => less_exact trivial (HLO.out w3 (hT2.out w3 hw3).1) hw3 (hT2.out w3 hw3).2.2.2.2, hK _ ?_⟩) | (apply Exists.intro; refine ⟨fun w3 hw3 => ?_, hK _ ?_⟩; focus (have t0 := (hT2.out w3 hw3).2.1; have u1 := (hT2.out w3 hw3).2.2.1; have u2 := (hT2.out w3 hw3).2.2.2.1; obtain ⟨t1, t2, t3, t4, t5, t6, t7⟩ := hT.out w3 (hT2.out w3 hw3).1; first | (go_simp; done) | (go_simp; rfl)))); clear hK K)
  refine wpQuiet_nil ?_
  intro w3 hw3
  have hB3 : Blk w3 (w.heap.size + 1) 42 (sc [(x1, x2)]) := by
    have h := Blk.new (w.alloc (.cells #[.int .i64 i] 3)) 42 (sc [(x1, x2)])
    rw [show (w.alloc (.cells #[.int .i64 i] 3)).heap.size = w.heap.size + 1 by simp] at h
    exact h.below (hw3.mono (by simp))
  obtain ⟨hw4, v0, v1, v2, v3⟩ := hT2.out w3 hw3
  have v4 : ∀ j, w3.frozen? ⟨w.heap.size + 1, j, none⟩ = false := hB3.frozen
  have H4 : Hid (Below w.heap.size w ((w3.setCell ⟨w.heap.size + 1, 0, none⟩ (.int .i64 (max x1 (loadsF p i (k : Int)).1))).setCell ⟨w.heap.size + 1, 1, none⟩ (.int .i64 (min x2 (loadsF p i (k : Int)).2))) ∧ Blk ((w3.setCell ⟨w.heap.size + 1, 0, none⟩ (.int .i64 (max x1 (loadsF p i (k : Int)).1))).setCell ⟨w.heap.size + 1, 1, none⟩ (.int .i64 (min x2 (loadsF p i (k : Int)).2))) (w.heap.size + 1) 42 (sc [meetF (x1, x2) (loadsF p i (k : Int))])) := by
    refine ⟨(hw4.setCell (by simp) _).setCell (by simp) _, ?_⟩
    have h2 := hB3.set2 0 (max x1 (loadsF p i (k : Int)).1) (min x2 (loadsF p i (k : Int)).2)
    simpa [meetF] using h2
  have v5 : Hid (((w3.setCell ⟨w.heap.size + 1, 0, none⟩ (.int .i64 (max x1 (loadsF p i (k : Int)).1))).setCell ⟨w.heap.size + 1, 1, none⟩ (.int .i64 (min x2 (loadsF p i (k : Int)).2))).cell? ⟨w.heap.size, 0, none⟩ = some (.int .i64 i)) := by
    show World.cell? _ _ = _
    refine (World.cell?_setCell_other _ _ _ _ (h := fun e => ?_)).trans ((World.cell?_setCell_other _ _ _ _ (h := fun e => ?_)).trans v0)
    · injection e with e1; omega
    · injection e with e1; omega
  clear hB3 hT2 HLO
  go_upto_region 2 with fail
  generalize (w3.setCell ⟨w.heap.size + 1, 0, none⟩ (.int .i64 (max x1 (loadsF p i (k : Int)).1))).setCell ⟨w.heap.size + 1, 1, none⟩ (.int .i64 (min x2 (loadsF p i (k : Int)).2)) = w4 at H4 v5 ⊢
  clear v0 v1 v2 v3 v4 hw3 hw4 w3
  have hW4 : Hid (Below W.heap.size W w4) := HS.out.b.trans (H4.out.1.mono (by have := HS.out.sz; omega))
  obtain ⟨gR, v, r1, r2, r3⟩ := HX.out.row hW4.out i k left hi hk hl
  have HR := Lib.hid r3
  obtain ⟨Av, cv, rfl⟩ := own_slice r3
  have c0 : w4.cell? ⟨bc, 0, none⟩ = some (.slice (some ⟨gT, 0, none⟩) p.log.length p.log.length) := pw_cell_below hW4.out HX.out.c
  have c1' : w4.cell? ⟨w.heap.size, 0, none⟩ = some (.int .i64 i) := v5.out
  have HCN := Lib.hid (contains_any (meetF (x1, x2) (loadsF p i (k : Int))) (w.heap.size + 1) (chF p ws i (k : Int) left) _ base0 w4 H4.out.2.lt (H4.out.2.cell 0) (H4.out.2.cell 1) r3 (by have := ch_len p ws HX.out.hp (p.log.length - 1 - i) (k : Int) left; unfold chF; omega))
  clear r3
  have j1 : (i : Int) < (p.log.length : Int) := by omega
  have j2 : (k : Int) < 3 := by omega
  have j3 : (left : Int) < (F : Int) + 1 := by omega
  have HG := Lib.hid (show goesB p ws i (k : Int) left (x1, x2) = (chF p ws i (k : Int) left).any (meetsB (meetF (x1, x2) (loadsF p i (k : Int)))) from rfl)
  rw [← HG.out] at HCN
  generalize goesB p ws i (k : Int) left (x1, x2) = gb at *
  obtain ⟨Ao, co, hov⟩ : ∃ A c, ov = .slice A outs.length c := by obtain ⟨vs, h, _⟩ := HS.out.o; exact own_slice h
  subst hov
  have o1 : w4.cell? ⟨W.heap.size, 0, none⟩ = some (.slice Ao outs.length co) := pw_cell_below H4.out.1 (HS.out.bo.cell 0)
  have o2 : w4.cell? ⟨bm, 0, none⟩ = some (.int .i64 most) := pw_cell_below hW4.out HX.out.m
  have o3 : W.heap.size < w4.heap.size := by have := HS.out.sz; have := H4.out.1.size; omega
  have o4 : bm < w4.heap.size := World.block_lt_of_cell? _ _ o2
  cases gb with
  | false =>
    go_wp2_with (go_at_call 89; refine HCN.out.mono ?_; rintro e w5 ⟨rfl, hb5⟩; obtain ⟨hc5, hf5⟩ := bcell hb5)
    (try simp only [Exit.inBlock, Exit.then]); refine bodyPost_ret (results_none rfl _ _ _) rfl ?_
    exact ⟨rfl, H4.out.1.trans (hb5.mono H4.out.1.size)⟩
  | true =>
    have hm : most < outs.length := hstop.resolve_left (by simp)
    have hm2 : (most : Int) < (outs.length : Int) := by omega
    go_wp2_with (go_at_call 89; refine HCN.out.mono ?_; rintro e w5 ⟨rfl, hb5⟩; obtain ⟨hc5, hf5⟩ := bcell hb5)
    (try simp only [Exit.inBlock, Exit.then]); refine bodyPost_ret (results_none rfl _ _ _) rfl ?_
    exact ⟨rfl, H4.out.1.trans (hb5.mono H4.out.1.size)⟩
end Go.Proofs.YtiidkekmklbobaaDoor
