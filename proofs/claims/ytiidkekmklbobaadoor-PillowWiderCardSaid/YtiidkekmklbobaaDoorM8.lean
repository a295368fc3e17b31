/- Contracts: the Builder, Itoa, Print. -/
import Derived.Test.YtiidkekmklbobaaDoorSh
import Derived.Test.YtiidkekmklbobaaDoorM1
import Derived.Lib.OthersKept
import Derived.Lib.AppendIntMem
import Derived.Test.YtiidkekmklbobaaDoorM2
set_option linter.unusedVariables false
set_option linter.unusedSimpArgs false
namespace Go.Proofs.YtiidkekmklbobaaDoor
open Go.RowKit Go.Proofs.YtiidkekmklbobaaDoorW.PrintWords
attribute [local go_sem] mx_two mn_two blk_add
/-! ## strings.Builder: what 'Print' writes on -/
theorem size111 : (Tryd.prog.info? 111).map (·.size) = some 2 := by kernel_rfl
theorem lies111 : liesAt Tryd.prog Tryd.prog.depth 111 (2 / Tryd.prog.cellsOf 111) 0 111 1 = true := by kernel_rfl
theorem info5 : (Tryd.prog.info? 5).map (fun i => (i.zero, i.size, i.bytes)) = some (some (.int .u8 0), 1, 1) := by kernel_rfl
set_option maxHeartbeats 1000000 in
set_option maxRecDepth 100000 in
/-- A builder that is in use stays as it is. -/
theorem copy_used (b : Nat) (w : World) (h0 : w.cell? ⟨b, 0, none⟩ = some (.pointer (some ⟨b, 0, none⟩))) :
    Calls Tryd.prog 100 #[.pointer (some ⟨b, 0, none⟩)] w fun e w' => e = .returned (.tuple #[]) ∧ w' = w := by
  obtain ⟨j, hj, _⟩ := Option.map_eq_some_iff.1 size111
  go_enter Tryd.func100, Tryd.ntmps100
  go_wp2
  rw [Lib.run_neq_ptr_same w _ Tryd.underlying108 hj]
  go_wp2
  go_end0
  exact ⟨rfl, rfl⟩
set_option maxHeartbeats 1000000 in
set_option maxRecDepth 100000 in
/-- A new builder takes note of its address. -/
theorem copy_new (b : Nat) (w : World) (h0 : w.cell? ⟨b, 0, none⟩ = some (.pointer none)) (hsh : w.shape? b = some (111, 2)) (hfz : w.frozen? ⟨b, 0, none⟩ = false) :
    Calls Tryd.prog 100 #[.pointer (some ⟨b, 0, none⟩)] w fun e w' => e = .returned (.tuple #[]) ∧ w' = w.setCell ⟨b, 0, none⟩ (.pointer (some ⟨b, 0, none⟩)) := by
  obtain ⟨j, hj, hjs⟩ := Option.map_eq_some_iff.1 size111
  go_enter Tryd.func100, Tryd.ntmps100
  go_wp2
  rw [Lib.run_to_unsafe w ⟨b, 0, none⟩ Tryd.underlying108 Tryd.underlying138 hj (by rw [hjs]; decide) hsh (Nat.zero_lt_succ 1)]
  simp only [Result.andThen]
  rw [Oper.upon_value]
  go_wp2
  rw [run_callFunc_extern Tryd.func106 (by kernel_rfl) (by kernel_rfl) (by kernel_rfl) (e := Extern.AbiNoEscape.same) (by kernel_rfl)]
  rw [Lib.run_noEscape]
  simp only [Result.andThen]
  rw [Oper.upon_value]
  go_wp2
  rw [Lib.run_from_unsafe w ⟨b, 0, none⟩ Tryd.underlying138 Tryd.underlying108 hj hsh lies111]
  simp only [Result.andThen]
  rw [Oper.upon_value]
  go_wp2
  go_end0
  exact ⟨rfl, rfl⟩
theorem copy_any (B b : Nat) (bs : List Value) (w : World) (h : Lib.IsBuilder 111 5 B b bs w) :
    Calls Tryd.prog 100 #[.pointer (some ⟨b, 0, none⟩)] w fun e w' => e = .returned (.tuple #[]) ∧ Lib.BuilderAt 111 5 B b (.pointer (some ⟨b, 0, none⟩)) bs w' ∧ Below B w w' ∧ Lib.OthersKept 5 (some b) w w' := by
  rcases h with h | h
  · refine (copy_new b w h.cell0 h.shape h.frozen0).mono ?_
    rintro e w' ⟨rfl, rfl⟩
    exact ⟨rfl, h.used _, (Below.refl B w).setCell (p := ⟨b, 0, none⟩) h.1 _, (Lib.OthersKept.refl 5 (some b) w).setCell ⟨b, 0, none⟩ rfl _⟩
  · refine (copy_used b w h.cell0).mono ?_
    rintro e w' ⟨rfl, rfl⟩
    exact ⟨rfl, h, Below.refl B _, Lib.OthersKept.refl 5 (some b) _⟩
set_option maxHeartbeats 2000000 in
set_option maxRecDepth 100000 in
theorem write_any (B b : Nat) (bs : List Value) (s : ByteArray) (w : World) (h : Lib.IsBuilder 111 5 B b bs w) (hlen : bs.length + s.size ≤ 140737488355328) (hBw : B ≤ w.heap.size) :
    Calls Tryd.prog 84 #[.pointer (some ⟨b, 0, none⟩), .string s] w fun e w' => e = .returned (.tuple #[.int .i64 s.size, .nilIface]) ∧ Lib.BuilderAt 111 5 B b (.pointer (some ⟨b, 0, none⟩)) (bs ++ Lib.strCells s) w' ∧ Below B w w' ∧ Lib.OthersKept 5 (some b) w w' := by
  obtain ⟨i0, hi, hz0, hz1, hz2⟩ := info_parts info5
  go_enter Tryd.func84, Tryd.ntmps84
  go_wp2_with (go_at_call 100; refine (copy_any B b bs _ h).mono ?_)
  rintro e w1 ⟨rfl, h1, hb1, hk1⟩
  obtain ⟨hB, v, hbk, hown, hne⟩ := h1
  have c0 : w1.cell? ⟨b, 0, none⟩ = some (.pointer (some ⟨b, 0, none⟩)) := by rw [Lib.cell_of_heap hbk]; rfl
  have c1 : w1.cell? ⟨b, 1, none⟩ = some v := by rw [Lib.cell_of_heap hbk]; rfl
  have hb1s := hb1.size
  go_wp2_with (at_builtin; refine Lib.wpList_append_own_string _ rfl _ _ 109 9 rfl B 5 i0 Tryd.underlying109 Tryd.underlying9 hi hz0 hz1 hz2 _ _ _ rfl hown s rfl ?c3 ?c4 ?c5 ?_)
  case c3 => unfold maxLen; omega
  case c4 => omega
  case c5 => omega
  intro v' w2 hown' hgrow _
  have hlt : b < w1.heap.size := by
    rcases Nat.lt_or_ge b w1.heap.size with h' | h'
    · exact h'
    · simp [Array.getElem?_eq_none h'] at hbk
  have hb2 : w2.heap[b]? = some (.cells #[.pointer (some ⟨b, 0, none⟩), v] 111 (0, 0)) := by
    rw [hgrow.block b hlt (fun e => hne e.symm)]
    exact hbk
  have d0 : w2.cell? ⟨b, 0, none⟩ = some (.pointer (some ⟨b, 0, none⟩)) := by rw [Lib.cell_of_heap hb2]; rfl
  have d1 : w2.cell? ⟨b, 1, none⟩ = some v := by rw [Lib.cell_of_heap hb2]; rfl
  have f1 : w2.frozen? ⟨b, 1, none⟩ = false := Lib.frozen_of_heap hb2 1
  obtain ⟨ao, n', cap, rfl⟩ : ∃ ao n' cap, v' = .slice ao n' cap := by
    rcases hown'.2 with ⟨hv, _⟩ | ⟨g, cap, cur, hv, _⟩
    · exact ⟨_, _, _, hv⟩
    · exact ⟨_, _, _, hv⟩
  go_wp2
  go_ret2
  refine ⟨rfl, ?_, ?_, (hk1.grown hgrow (fun g hg => by obtain ⟨c, e⟩ := own_typed hown g hg; exact ⟨_, _, e⟩)).setCell ⟨b, 1, none⟩ rfl _⟩
  · exact Lib.BuilderAt.put (T := 111) (e := 5) hB hb2 (bs' := bs ++ Lib.strCells s) (by simpa [Lib.strCells_length] using hown') (by decide)
  · exact (hb1.grown hgrow (by omega) (fun k hk => (hown.lt k hk).1)).setCell (p := ⟨b, 1, none⟩) hB _
/-! ## strconv.Itoa -/
def Tab (w : World) : Prop := Lib.TabIs Tryd.prog w "internal/strconv.uint64pow10" .u64 Lib.pow10Tab
theorem Tab.below {w w1 : World} (h : Tab w) (hb : Below w.heap.size w w1) : Tab w1 := by
  unfold Tab Lib.TabIs World.var? at *
  cases hg : Tryd.prog.globalNamed "internal/strconv.uint64pow10" with
  | none => rw [hg] at h; cases h
  | some g =>
    rw [hg] at h
    simp only [Option.bind_some] at h ⊢
    have hlt : g < w.heap.size := by
      rcases Nat.lt_or_ge g w.heap.size with h1 | h1
      · exact h1
      · rw [Array.getElem?_eq_none h1] at h; cases h
    rw [hb.block g hlt]
    exact h
theorem itoa_any (n : Int) (h0 : -9223372036854775808 ≤ n) (h1 : n ≤ 9223372036854775807) (w : World) (ht : Tab w) :
    Calls Tryd.prog 85 #[.int .i64 n] w fun e w' => e = .returned (.string ⟨(Lib.itoa n).toArray⟩) ∧ Below w.heap.size w w' :=
  (Tryd.strconv_Itoa n h0 h1 w ht).mono fun e w' ⟨he, k, os, hw⟩ => ⟨he, hw ▸ Lib.below_grow _ w (Nat.le_refl _) k os⟩
end Go.Proofs.YtiidkekmklbobaaDoor
set_option linter.unusedVariables false
set_option linter.unusedSimpArgs false
namespace Go.Proofs.YtiidkekmklbobaaDoor
open Go.RowKit Go.Proofs.YtiidkekmklbobaaDoorW.PrintWords
attribute [local go_sem] mx_two mn_two blk_add
/-! ## Print: the text of a pillow -/
def headN (p : Pil) : List Int := [p.no, p.cell, p.noise, p.slab, p.jump, p.faults]
def numT (n : Int) : List UInt8 := 32 :: Lib.itoa n
def entT (x : Int × Int) : List UInt8 := 32 :: (Lib.itoa x.1 ++ 61 :: Lib.itoa x.2)
def pilT (p : Pil) : List UInt8 := [112, 105, 108, 108, 111, 119] ++ (headN p).flatMap numT ++ p.log.flatMap entT
theorem dec_len (n : Nat) : n < 10 ^ 20 → (Lib.decDigits n).length ≤ 20 := by
  have h : ∀ k n, n < 10 ^ (k + 1) → (Lib.decDigits n).length ≤ k + 1 := by
    intro k
    induction k with
    | zero =>
      intro n hn
      unfold Lib.decDigits
      rw [dif_pos (by simpa using hn)]
      simp
    | succ k ih =>
      intro n hn
      unfold Lib.decDigits
      split
      · simp
      · have := ih (n / 10) (by rw [Nat.pow_succ] at hn; omega)
        simp; omega
  exact h 19 n
theorem itoa_len (n : Int) (h0 : 0 ≤ n) (h1 : n ≤ 9223372036854775807) : (Lib.itoa n).length ≤ 20 := by
  unfold Lib.itoa
  rw [if_neg (by omega)]
  exact dec_len _ (by omega)
/-- The builder holds the text l. -/
def Bld (w : World) (b : Nat) (l : List UInt8) : Prop := Lib.IsBuilder 111 5 b b (Lib.byteCells l) w
theorem bytes_size (l : List UInt8) : (⟨l.toArray⟩ : ByteArray).size = l.length := by simp [ByteArray.size]
theorem Bld.write {w : World} {b : Nat} {l : List UInt8} (h : Bld w b l) (m : List UInt8) (hl : l.length + m.length ≤ 140737488355328) (hb : b ≤ w.heap.size) :
    Calls Tryd.prog 84 #[.pointer (some ⟨b, 0, none⟩), .string ⟨m.toArray⟩] w fun e w' => e = .returned (.tuple #[.int .i64 m.length, .nilIface]) ∧ Bld w' b (l ++ m) ∧ Below b w w' ∧ Lib.OthersKept 5 (some b) w w' := by
  refine (write_any b b _ ⟨m.toArray⟩ w h (by rw [Lib.byteCells_length, bytes_size]; exact hl) hb).mono ?_
  rintro e w' ⟨he, h1, h2, h3⟩
  rw [bytes_size] at he
  refine ⟨he, ?_, h2, h3⟩
  rw [Lib.strCells_eq, ← Lib.byteCells_append] at h1
  exact .inr h1
theorem Bld.writeS {w : World} {b : Nat} {l : List UInt8} (h : Bld w b l) (s : ByteArray) (m : List UInt8) (hm : s.data.toList = m) (hl : l.length + m.length ≤ 140737488355328) (hb : b ≤ w.heap.size) :
    Calls Tryd.prog 84 #[.pointer (some ⟨b, 0, none⟩), .string s] w fun e w' => e = .returned (.tuple #[.int .i64 m.length, .nilIface]) ∧ Bld w' b (l ++ m) ∧ Below b w w' ∧ Lib.OthersKept 5 (some b) w w' := by
  have e : s = ⟨m.toArray⟩ := by rw [← hm]
  rw [e]
  exact h.write m hl hb
theorem Bld.lt {w : World} {b : Nat} {l : List UInt8} (h : Bld w b l) : b < w.heap.size := by
  rcases h with h | h <;> exact h.lt
theorem Bld.below {w w' : World} {b : Nat} {l : List UInt8} (h : Bld w b l) (hb : Below w.heap.size w w') : Bld w' b l := by
  rcases h with ⟨h1, v, h2, h3, h4⟩ | ⟨h1, v, h2, h3, h4⟩
  · exact .inl ⟨h1, v, (hb.block b (Bld.lt (.inl ⟨h1, v, h2, h3, h4⟩))).trans h2, pw_own_below h3 hb, h4⟩
  · exact .inr ⟨h1, v, (hb.block b (Bld.lt (.inr ⟨h1, v, h2, h3, h4⟩))).trans h2, pw_own_below h3 hb, h4⟩
theorem kept_blk {w w' : World} {b g : Nat} {cs : List Value} (hk : Lib.OthersKept 5 (some b) w w') (h : Blk w g 3 cs) (hne : g ≠ b) : Blk w' g 3 cs :=
  hk g _ h (fun e => hne (by injection e)) (fun c fz e => by injection e with _ e2 _; exact absurd e2 (by decide))
theorem kept_blk57 {w w' : World} {b g : Nat} {cs : List Value} (hk : Lib.OthersKept 5 (some b) w w') (h : Blk w g 57 cs) (hne : g ≠ b) : Blk w' g 57 cs :=
  hk g _ h (fun e => hne (by injection e)) (fun c fz e => by injection e with _ e2 _; exact absurd e2 (by decide))
theorem head_bd {p : Pil} (h : checkB p = true) : ∀ n ∈ headN p, 0 ≤ n ∧ n ≤ 1048576 := by
  simp only [checkB, headB, Bool.and_eq_true, decide_eq_true_eq] at h
  obtain ⟨⟨h0, h1, h2, h3, h4, h5, h6⟩, ha⟩ := h
  rw [within_t] at h0 h1 h2 h3 h4 h5
  intro n hn
  simp only [headN, List.mem_cons, List.not_mem_nil, or_false] at hn
  omega
theorem log_bd {p : Pil} (h : checkB p = true) (i : Nat) (hi : i < p.log.length) : 0 ≤ (p.log.getD i (0, 0)).1 ∧ (p.log.getD i (0, 0)).1 ≤ 1048576 ∧ 0 ≤ (p.log.getD i (0, 0)).2 ∧ (p.log.getD i (0, 0)).2 ≤ 65536 := by
  simp only [checkB, Bool.and_eq_true, List.all_eq_true, List.mem_range] at h
  have := h.2 i hi
  simp only [entryB, Bool.and_eq_true, within_t] at this
  exact ⟨this.1.1, this.1.2, this.2.1.1, this.2.1.2⟩
theorem num_len {n : Int} (h : 0 ≤ n ∧ n ≤ 1048576) : (numT n).length ≤ 21 := by
  have := itoa_len n h.1 (by omega)
  simp only [numT, List.length_cons]; omega
def T1 (p : Pil) (k : Nat) : List UInt8 := [112, 105, 108, 108, 111, 119] ++ ((headN p).take k).flatMap numT
def T2 (p : Pil) (k : Nat) : List UInt8 := T1 p 6 ++ (p.log.take k).flatMap entT
theorem T1_succ (p : Pil) (k : Nat) (h : k < 6) : T1 p (k + 1) = T1 p k ++ numT ((headN p).getD k 0) := by
  unfold T1
  rw [List.take_add_one, List.flatMap_append, List.append_assoc]
  congr 2
  have : k < (headN p).length := h
  simp [List.getD_eq_getElem?_getD, List.getElem?_eq_getElem this]
theorem T2_succ (p : Pil) (k : Nat) (h : k < p.log.length) : T2 p (k + 1) = T2 p k ++ entT (p.log.getD k (0, 0)) := by
  unfold T2
  rw [List.take_add_one, List.flatMap_append, List.append_assoc]
  congr 2
  simp [List.getD_eq_getElem?_getD, List.getElem?_eq_getElem h]
theorem T1_len {p : Pil} (h : checkB p = true) : ∀ k, k ≤ 6 → (T1 p k).length ≤ 6 + 21 * k
  | 0, _ => by simp [T1]
  | k + 1, hk => by
    have h1 := T1_len h k (by omega)
    rw [T1_succ p k (by omega), List.length_append]
    have : k < (headN p).length := by show k < 6; omega
    have h2 := num_len (head_bd h ((headN p).getD k 0) (by rw [List.getD_eq_getElem?_getD, List.getElem?_eq_getElem this]; exact List.getElem_mem this))
    omega
theorem ent_len {x : Int × Int} (h : 0 ≤ x.1 ∧ x.1 ≤ 1048576 ∧ 0 ≤ x.2 ∧ x.2 ≤ 65536) : (entT x).length ≤ 42 := by
  have h1 := itoa_len x.1 h.1 (by omega)
  have h2 := itoa_len x.2 h.2.2.1 (by omega)
  simp only [entT, List.length_cons, List.length_append]; omega
theorem T2_len {p : Pil} (h : checkB p = true) : ∀ k, k ≤ p.log.length → (T2 p k).length ≤ 132 + 42 * k
  | 0, _ => by have := T1_len h 6 (by omega); simpa [T2] using this
  | k + 1, hk => by
    have h1 := T2_len h k (by omega)
    rw [T2_succ p k (by omega), List.length_append]
    have h2 := ent_len (log_bd h k (by omega))
    omega
theorem T2_all (p : Pil) : T2 p p.log.length = pilT p := by
  unfold T2 T1 pilT
  rw [List.take_of_length_le (Nat.le_refl _), List.take_of_length_le (by show (headN p).length ≤ 6; exact Nat.le_refl _)]
abbrev cellsP (p : Pil) (A : Option Addr) (c : Nat) : List Value := [.int .i64 p.no, .int .i64 p.cell, .int .i64 p.noise, .int .i64 p.slab, .int .i64 p.jump, .int .i64 p.faults, .slice A p.log.length c]
abbrev headV (p : Pil) : List Value := [.int .i64 p.no, .int .i64 p.cell, .int .i64 p.noise, .int .i64 p.slab, .int .i64 p.jump, .int .i64 p.faults]
theorem headV_get (p : Pil) (k : Nat) (h : k < 6) : (headV p)[k]? = some (.int .i64 ((headN p).getD k 0)) := by
  match k, h with
  | 0, _ => rfl
  | 1, _ => rfl
  | 2, _ => rfl
  | 3, _ => rfl
  | 4, _ => rfl
  | 5, _ => rfl
set_option maxRecDepth 100000 in
set_option maxHeartbeats 3200000 in
theorem print_ok (p : Pil) (A : Option Addr) (c : Nat) (w : World) (hA : Kd.C kSpan w A p.log.length p.log) (hck : checkB p = true) (ht : Tab w) :
    Calls Tryd.prog 57 #[p.val A c] w fun e w' => e = .returned (.tuple #[.string ⟨(pilT p).toArray⟩, .int .i64 0]) ∧ Below w.heap.size w w' := by
  have hbox : Below w.heap.size w (w.alloc (boxP p A c 24)) := (Below.refl _ _).alloc (Nat.le_refl _) _
  have HA := Lib.hid (Kd.C_below hA hbox)
  have HC := Lib.hid (check_any p A c _ HA.out)
  have HTB := Lib.hid (ht.below hbox)
  have e0 : checkF p = 0 := by simp [checkF, hck]
  rw [e0] at HC
  have HCK := Lib.hid hck
  have hL : p.log.length ≤ 32 := by
    simp only [checkB, headB, Bool.and_eq_true, decide_eq_true_eq] at hck
    exact hck.1.2.2.2.2.2.2
  have HS0 : Hid (Blk (w.alloc (boxP p A c 24)) w.heap.size 24 (cellsP p A c)) := Blk.new w 24 (cellsP p A c)
  clear hA hck e0 ht
  go_enter Tryd.func57, Tryd.ntmps57
  go_upto_region 5 with (go_at_call 45; refine HC.out.mono ?_; rintro e w1 ⟨rfl, hb1⟩)
  have hb1s := hb1.size
  simp at hb1s
  have hal : Below w1.heap.size w1 (w1.alloc (.cells #[.pointer none, .slice none 0 0] 111)) := (Below.refl _ _).alloc (Nat.le_refl _) _
  have HB2 : Hid (Below (w.alloc (boxP p A c 24)).heap.size (w.alloc (boxP p A c 24)) (w1.alloc (.cells #[.pointer none, .slice none 0 0] 111))) := hb1.alloc hb1.size _
  have HBL : Hid (Bld (w1.alloc (.cells #[.pointer none, .slice none 0 0] 111)) w1.heap.size []) := Lib.fresh_isBuilder 111 5 w1
  clear hb1 hal HC
  have hbs : w.heap.size + 1 ≤ w1.heap.size := by omega
  have hws : (w1.alloc (.cells #[.pointer none, .slice none 0 0] 111)).heap.size = w1.heap.size + 1 := by simp
  generalize hb0 : w1.heap.size = b at *
  generalize w1.alloc (.cells #[.pointer none, .slice none 0 0] 111) = W1 at *
  clear hb0 hb1s
  have HWS := Lib.hid hws
  have h1s : b ≤ W1.heap.size := by omega
  clear hws
  have HWR := Lib.hid (HBL.out.write [112, 105, 108, 108, 111, 119] (by simp) h1s)
  go_upto_region 6 with (go_at_call 84; refine HWR.out.mono ?_; rintro e w2 ⟨rfl, hB2, hb2, -⟩)
  have HBL2 : Hid (Bld w2 b (T1 p 0)) := hB2
  have HB3 : Hid (Below b W1 w2) := hb2
  have h2s : b < w2.heap.size := hB2.lt
  have HBX : Hid (∀ w3, Below b W1 w3 → Blk w3 w.heap.size 24 (cellsP p A c)) := fun w3 h3 => by
    have h := HS0.out.below HB2.out
    exact (h3.block _ (by omega)).trans h
  have hx := HBX.out w2 hb2
  have x0 := hx.cell 0
  have x1 := hx.cell 1
  have x2 := hx.cell 2
  have x3 := hx.cell 3
  have x4 := hx.cell 4
  have x5 := hx.cell 5
  simp at x0 x1 x2 x3 x4 x5
  clear hx hB2 hb2 HWR
  have HTR : Hid (∀ w3, Below b W1 w3 → Tab w3) := fun w3 h3 => HTB.out.below (HB2.out.trans (h3.mono (by simp; omega)))
  have h2W : W1.heap.size ≤ w2.heap.size := HB3.out.size
  go_wp2
  clear x0 x1 x2 x3 x4 x5
  go_loopw [30] (fun vk wr => ∃ k : Nat, k ≤ 6 ∧ vk = .int .i64 k ∧ Below b W1 wr ∧ Hid (Bld wr b (T1 p k)) ∧ Hid (Blk wr w2.heap.size 3 (headV p)))
    (fun vk _ => 6 - (intOf vk).toNat)
  case atStart =>
    have hn : Below w2.heap.size w2 (w2.alloc (.cells (headV p).toArray 3)) := (Below.refl _ _).alloc (Nat.le_refl _) _
    exact ⟨0, by omega, rfl, HB3.out.trans (hn.mono (by omega)), HBL2.out.below hn, Blk.new w2 3 (headV p)⟩
  case round =>
    obtain ⟨k, hk, rfl, hb, hBL, hHV⟩ := hrel
    by_cases hk6 : k < 6
    · have j1 : (k : Int) < 6 := by omega
      have hcell : wr.cell? ⟨w2.heap.size, k, none⟩ = some (.int .i64 ((headN p).getD k 0)) := (hHV.out.cell k).trans (headV_get p k hk6)
      have hbd := head_bd HCK.out ((headN p).getD k 0) (by
        have hl : k < (headN p).length := hk6
        rw [List.getD_eq_getElem?_getD, List.getElem?_eq_getElem hl]; exact List.getElem_mem hl)
      have HT1 := Lib.hid (T1_succ p k hk6)
      have HL1 := Lib.hid (T1_len HCK.out k hk)
      have hbr : b ≤ wr.heap.size := Nat.le_of_lt hBL.out.lt
      generalize (headN p).getD k 0 = n at *
      have hil := itoa_len n (by omega) (by omega)
      have HIT := Lib.hid (itoa_any n (by omega) (by omega) wr (HTR.out wr hb))
      have HBW : Hid (∀ (w3 : World) (s : ByteArray), Below wr.heap.size wr w3 → s.data.toList = numT n → Calls Tryd.prog 84 #[.pointer (some ⟨b, 0, none⟩), .string s] w3 fun e w' => e = .returned (.tuple #[.int .i64 (numT n).length, .nilIface]) ∧ Bld w' b (T1 p k ++ numT n) ∧ Below b w3 w' ∧ Lib.OthersKept 5 (some b) w3 w') := fun w3 s h3 hm =>
        (hBL.out.below h3).writeS s (numT n) hm (by have := HL1.out; have := num_len hbd; omega) (Nat.le_trans hbr h3.size)
      go_wp2_with (first | (go_at_call 85; refine HIT.out.mono ?_; rintro e w3 ⟨rfl, hb3⟩) | (go_at_call 84; refine (HBW.out _ _ hb3 (by simp [numT])).mono ?_; rintro e w4 ⟨rfl, hB4, hb4, hk4⟩))
      go_roundw
      case rel =>
        refine ⟨k + 1, by omega, by go_num, (hb.trans (hb3.mono hbr)).trans hb4, ?_, kept_blk hk4 (hHV.out.below hb3) (by omega)⟩
        rw [HT1.out]; exact hB4
      case measure => simp [intOf]; omega
    · obtain rfl : k = 6 := by omega
      have hx := HBX.out wr hb
      have x6 : wr.cell? ⟨w.heap.size, 6, none⟩ = some (.slice A p.log.length c) := hx.cell 6
      have HBE : Hid (Bld wr b (T2 p 0)) := by
        have : T2 p 0 = T1 p 6 := by simp [T2]
        show Bld wr b (T2 p 0)
        rw [this]; exact hBL.out
      have HB6 := Lib.hid hb
      clear hx hBL hHV hb
      go_wp2
      clear x6
      go_loopw [42] (fun vk wr => ∃ k : Nat, k ≤ p.log.length ∧ vk = .int .i64 k ∧ Below b W1 wr ∧ Hid (Bld wr b (T2 p k)))
        (fun vk _ => p.log.length - (intOf vk).toNat)
      case atStart => exact ⟨0, by omega, rfl, HB6.out, HBE.out⟩
      case round =>
        clear HBE HB6
        obtain ⟨k, hk, rfl, hb, hBL⟩ := hrel
        have hwb : Below (w.alloc (boxP p A c 24)).heap.size (w.alloc (boxP p A c 24)) wr := HB2.out.trans (hb.mono (by simp; omega))
        by_cases hlt : k < p.log.length
        · obtain ⟨ad, rfl, q1, q2⟩ := at_span (Kd.C_below HA.out hwb) k hlt
          obtain ⟨l0, l1, l2⟩ := at_lt q1
          have j1 : (k : Int) < (p.log.length : Int) := by omega
          have hbd := log_bd HCK.out k hlt
          have HT1 := Lib.hid (T2_succ p k hlt)
          have HL1 := Lib.hid (T2_len HCK.out k hk)
          have HEL := Lib.hid (ent_len hbd)
          have hbr : b ≤ wr.heap.size := Nat.le_of_lt hBL.out.lt
          generalize hx : p.log.getD k (0, 0) = x at *
          clear hx
          obtain ⟨n1, n2⟩ := x
          dsimp only at *
          have hi1 := itoa_len n1 (by omega) (by omega)
          have hi2 := itoa_len n2 (by omega) (by omega)
          have hal : Below wr.heap.size wr (wr.alloc (.cells #[.int .i64 n1, .int .i64 n2] 57)) := (Below.refl _ _).alloc (Nat.le_refl _) _
          have HBW : Hid (∀ (w3 : World) (s : ByteArray), Below (wr.heap.size + 1) (wr.alloc (.cells #[.int .i64 n1, .int .i64 n2] 57)) w3 → s.data.toList = entT (n1, n2) → Calls Tryd.prog 84 #[.pointer (some ⟨b, 0, none⟩), .string s] w3 fun e w' => e = .returned (.tuple #[.int .i64 (entT (n1, n2)).length, .nilIface]) ∧ Bld w' b (T2 p k ++ entT (n1, n2)) ∧ Below b w3 w' ∧ Lib.OthersKept 5 (some b) w3 w') := fun w3 s h3 hm =>
            (hBL.out.below (hal.trans (h3.mono (by omega)))).writeS s _ hm (by have := HL1.out; have := HEL.out; omega) (Nat.le_trans hbr (by have := h3.size; simp at this; omega))
          have HC3 : Hid (∀ w3, Below (wr.heap.size + 1) (wr.alloc (.cells #[.int .i64 n1, .int .i64 n2] 57)) w3 → w3.cell? ⟨wr.heap.size, 0, none⟩ = some (.int .i64 n1) ∧ w3.cell? ⟨wr.heap.size, 1, none⟩ = some (.int .i64 n2) ∧ Tab w3 ∧ wr.heap.size + 1 ≤ w3.heap.size) := fun w3 h3 => by
            have h4 : Below (wr.alloc (.cells #[.int .i64 n1, .int .i64 n2] 57)).heap.size (wr.alloc (.cells #[.int .i64 n1, .int .i64 n2] 57)) w3 := h3.mono (by simp)
            exact ⟨pw_cell_below h4 (by simp [go_sem]), pw_cell_below h4 (by simp [go_sem]), HTR.out w3 (hb.trans ((hal.trans (h3.mono (by omega))).mono hbr)), by have := h3.size; simpa using this⟩
          have hc1 : ¬ (9223372036854775807 < 1 + (Lib.itoa n1).length) := by omega
          have hc2 : ¬ (9223372036854775807 < 1 + (Lib.itoa n1).length + 1) := by omega
          have hc3 : ¬ (9223372036854775807 < 1 + (Lib.itoa n1).length + 1 + (Lib.itoa n2).length) := by omega
          go_wp2
          refine wp_region_tail 9 (fun w3 => Below (wr.heap.size + 1) (wr.alloc (.cells #[.int .i64 n1, .int .i64 n2] 57)) w3) (by kernel_rfl) (by kernel_rfl) (below_drew (Below.refl _ _)) ?_
          simp only [List.take_succ_cons, List.take_zero, List.drop_succ_cons, List.drop_zero]
          repeat (refine wpQuiet_step (fun K hK => ?_); go_simp; (first | (refine hK _ ?_) | (refine ⟨_, fun _ _ => rfl, hK _ ?_⟩) | (refine ⟨_, fun w3 hw3 => less_exact trivial (itoa_any n1 (by omega) (by omega) w3 (HC3.out w3 hw3).2.2.1) hw3 (HC3.out w3 hw3).2.2.2, hK _ ?_⟩) | (refine ⟨_, fun w3 hw3 => less_exact trivial (itoa_any n2 (by omega) (by omega) w3 (HC3.out w3 hw3).2.2.1) hw3 (HC3.out w3 hw3).2.2.2, hK _ ?_⟩) | (apply Exists.intro; refine ⟨fun w3 hw3 => ?_, hK _ ?_⟩; focus (have t1 := (HC3.out w3 hw3).1; have t2 := (HC3.out w3 hw3).2.1; first | (go_simp; done) | (go_simp; rfl)))); clear hK K)
          refine wpQuiet_nil ?_
          intro w3 hw3
          go_wp2_with (go_at_call 84; refine (HBW.out w3 _ hw3 (by simp [entT])).mono ?_; rintro e w4 ⟨rfl, hB4, hb4, -⟩)
          go_roundw
          case rel =>
            have hfin : Hid (Bld w4 b (T2 p (k + 1))) := by show Bld w4 b (T2 p (k + 1)); rw [HT1.out]; exact hB4
            have hbw := (hb.trans ((hal.trans (hw3.mono (by omega))).mono hbr)).trans hb4
            first | exact ⟨k + 1, by omega, by go_num, hbw, hfin⟩ | ((repeat apply Exists.intro); exact ⟨⟨k + 1, by omega, by go_num, hbw, hfin⟩, rfl⟩)
          case measure => simp [intOf]; omega
        · obtain rfl : k = p.log.length := by omega
          have HSG : Hid (Calls Tryd.prog 86 #[.pointer (some ⟨b, 0, none⟩)] wr fun e w' => e = .returned (.string ⟨(pilT p).toArray⟩) ∧ Below b wr w') := by
            have h := hBL.out
            rw [T2_all] at h
            exact Tryd.Builder_String_any b b (pilT p) wr h (Nat.le_of_lt hBL.out.lt)
          go_wp2_with (go_at_call 86; refine HSG.out.mono ?_; rintro e w4 ⟨rfl, hb4⟩)
          go_ret2
          exact ⟨rfl, hbox.trans ((HB2.out.trans ((hb.trans hb4).mono (by simp; omega))).mono (by simp))⟩
end Go.Proofs.YtiidkekmklbobaaDoor
