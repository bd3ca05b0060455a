/-
  WORDS FOR THE WALKS, no program in sight: rows of floats, crates' cells, how flat arguments are opened, floats' operations.
-/
import Derived.WalkKit
import Derived.WalkSpells
import Derived.WalkLawsBesides
import Derived.Deep.QuietTactic
import Derived.BigQuiet
import Derived.Lib.Hide
import Derived.ProofKit
import Derived.Deep.MidRow
set_option linter.unusedVariables false
set_option linter.unusedSimpArgs false
namespace Go.FV
open Go.RowKit

/-- The element of a list of words at a place. -/
def ix (l : List Nat) (k : Nat) : Nat := l.getD k 0

theorem ix_get {l : List Nat} {k : Nat} (h : k < l.length) : l[k]? = some (ix l k) := by
  simp [ix, h]
theorem ix_set {l : List Nat} {k j x : Nat} (hk : k < l.length) : ix (l.set k x) j = if j = k then x else ix l j := by
  unfold ix
  simp only [List.getD_eq_getElem?_getD, List.getElem?_set]
  by_cases h : j = k
  · subst h; simp [hk]
  · have h' : ¬ k = j := fun e => h e.symm
    simp [h, h']
theorem ix_ext {l m : List Nat} (h : l.length = m.length) (hx : ∀ k, k < l.length → ix l k = ix m k) : l = m := by
  apply List.ext_getElem? ; intro i
  by_cases hi : i < l.length
  · rw [ix_get hi, ix_get (by omega), hx i hi]
  · rw [List.getElem?_eq_none (by omega), List.getElem?_eq_none (by omega)]

/-- A row of floats as cells. -/
def flCells (l : List Nat) : Array Value := (l.map (Value.float .f32)).toArray
@[simp] theorem flCells_size (l : List Nat) : (flCells l).size = l.length := by simp [flCells]
theorem flCells_at {l : List Nat} {k : Nat} (h : k < l.length) : (flCells l)[k]? = some (.float .f32 (ix l k)) := by
  unfold flCells; simp [ix_get h]
theorem flCells_set (l : List Nat) (k x : Nat) : (flCells l).setIfInBounds k (.float .f32 x) = flCells (l.set k x) := by
  unfold flCells; simp [List.map_set]

/-- A crate's cells: how many fruits, and sixteen floats. -/
def crateCells (n : Int) (l : List Nat) : Array Value := (Value.int .i8 n :: l.map (Value.float .f32)).toArray
@[simp] theorem crateCells_size (n : Int) (l : List Nat) : (crateCells n l).size = l.length + 1 := by simp [crateCells]
@[go_sem] theorem crateCells_0 (n : Int) (l : List Nat) : (crateCells n l)[0]? = some (.int .i8 n) := by simp [crateCells]
theorem crateCells_at {n : Int} {l : List Nat} {k : Nat} (h : k < l.length) : (crateCells n l)[1 + k]? = some (.float .f32 (ix l k)) := by
  unfold crateCells
  rw [Nat.add_comm]; simp [ix_get h]
@[go_sem] theorem crateCells_g0 (n : Int) (l : List Nat) (h : 0 < (crateCells n l).size) : (crateCells n l)[0]'h = .int .i8 n := rfl
@[go_sem] theorem crateCells_gk (n : Int) (l : List Nat) (k : Nat) (h : 1 + k < (crateCells n l).size) : (crateCells n l)[1 + k]'h = .float .f32 (ix l k) := by
  have := crateCells_at (n := n) (l := l) (k := k) (by simp at h; omega)
  rw [Array.getElem?_eq_getElem h] at this; exact Option.some.inj this
@[go_sem] theorem flCells_gk (l : List Nat) (k : Nat) (h : k < (flCells l).size) : (flCells l)[k]'h = .float .f32 (ix l k) := by
  have := flCells_at (l := l) (k := k) (by simpa using h)
  rw [Array.getElem?_eq_getElem h] at this; exact Option.some.inj this
theorem crateCells_set (n : Int) (l : List Nat) (k x : Nat) : (crateCells n l).setIfInBounds (1 + k) (.float .f32 x) = crateCells n (l.set k x) := by
  unfold crateCells
  rw [Nat.add_comm]; simp [List.map_set]
theorem crateCells_set0 (n m : Int) (l : List Nat) : (crateCells n l).setIfInBounds 0 (.int .i8 m) = crateCells m l := by
  unfold crateCells; simp
theorem crateCells_extract {n : Int} {l : List Nat} (h : l.length = 16) : (crateCells n l).extract 1 17 = flCells l := by
  unfold crateCells flCells
  apply Array.ext_getElem?; intro i
  simp only [List.extract_toArray, List.extract_eq_take_drop, List.drop_succ_cons, List.drop_zero, List.getElem?_toArray]
  rw [List.take_of_length_le (by simp [h])]

theorem list16 {α : Type} {l : List α} (h : l.length = 16) : ∃ r0 r1 r2 r3 r4 r5 r6 r7 r8 r9 r10 r11 r12 r13 r14 r15, l = [r0, r1, r2, r3, r4, r5, r6, r7, r8, r9, r10, r11, r12, r13, r14, r15] := by
  match l, h with
  | [r0, r1, r2, r3, r4, r5, r6, r7, r8, r9, r10, r11, r12, r13, r14, r15], _ => exact ⟨r0, r1, r2, r3, r4, r5, r6, r7, r8, r9, r10, r11, r12, r13, r14, r15, rfl⟩
theorem crateCells_lit (n : Int) (r0 r1 r2 r3 r4 r5 r6 r7 r8 r9 r10 r11 r12 r13 r14 r15 : Nat) : crateCells n [r0, r1, r2, r3, r4, r5, r6, r7, r8, r9, r10, r11, r12, r13, r14, r15] = #[.int .i8 n, .float .f32 r0, .float .f32 r1, .float .f32 r2, .float .f32 r3, .float .f32 r4, .float .f32 r5, .float .f32 r6, .float .f32 r7, .float .f32 r8, .float .f32 r9, .float .f32 r10, .float .f32 r11, .float .f32 r12, .float .f32 r13, .float .f32 r14, .float .f32 r15] := rfl
theorem flCells_lit (r0 r1 r2 r3 r4 r5 r6 r7 r8 r9 r10 r11 r12 r13 r14 r15 : Nat) : flCells [r0, r1, r2, r3, r4, r5, r6, r7, r8, r9, r10, r11, r12, r13, r14, r15] = #[.float .f32 r0, .float .f32 r1, .float .f32 r2, .float .f32 r3, .float .f32 r4, .float .f32 r5, .float .f32 r6, .float .f32 r7, .float .f32 r8, .float .f32 r9, .float .f32 r10, .float .f32 r11, .float .f32 r12, .float .f32 r13, .float .f32 r14, .float .f32 r15] := rfl

/-! ### flat arguments opened -/
theorem cells_of_okWide {P : Program} {W : World} {r : Reach} {base : Nat} {t : TypeId} {v : Value} {ts : List TypeId}
    (hs : (match P.underlying t with | some (.struct _) | some (.array _ _) => true | _ => false) = true) (hct : P.cellTypes P.depth t = some ts) (h : Value.okWide P W r base t v) :
    ∃ cs, v = .agg cs ∧ cs.size = P.cellsOf t ∧ ∀ i x, cs[i]? = some x → ∃ u, ts[i % ts.length]? = some u ∧ Cell.okWide P W r base u x := by
  unfold Value.okWide at h
  split at h
  · obtain ⟨cs, h1, h2, ts', h3, _, h4⟩ := h
    rw [hct] at h3; cases h3
    exact ⟨cs, h1, h2, h4⟩
  · obtain ⟨cs, h1, h2, ts', h3, _, h4⟩ := h
    rw [hct] at h3; cases h3
    exact ⟨cs, h1, h2, h4⟩
  · simp_all

theorem cell_float {P : Program} {W : World} {r : Reach} {base : Nat} {t : TypeId} {k : FloatKind} {x : Value} (ht : P.underlying t = some (.float k)) (h : Cell.okWide P W r base t x) :
    ∃ b, x = .float k b ∧ (Lit.float k b).wf = true := by
  simp only [Cell.okWide, ht] at h
  cases x <;> simp_all [Cell.ok]
  cases k <;> simp_all [FloatKind.has, Lit.wf]

theorem cell_int {P : Program} {W : World} {r : Reach} {base : Nat} {t : TypeId} {k : IntKind} {x : Value} (ht : P.underlying t = some (.int k)) (h : Cell.okWide P W r base t x) :
    ∃ n, x = .int k n ∧ (Lit.int k n).wf = true := by
  simp only [Cell.okWide, ht] at h
  cases x <;> simp_all [Cell.ok]
  simp_all [IntKind.has, Lit.wf]

theorem floats_of (cs : Array Value) (o m : Nat) (h : ∀ i, i < m → ∃ b, cs[o + i]? = some (.float .f32 b) ∧ b < 4294967296) :
    ∃ l : List Nat, l.length = m ∧ (∀ i, i < m → cs[o + i]? = some (.float .f32 (ix l i))) ∧ ∀ i, ix l i < 4294967296 := by
  refine ⟨(List.range m).map fun i => match cs[o + i]? with | some (.float _ b) => b | _ => 0, by simp, fun i hi => ?_, fun i => ?_⟩
  · obtain ⟨b, hb, _⟩ := h i hi
    simp [ix, hi, hb]
  · by_cases hi : i < m
    · obtain ⟨b, hb, hlt⟩ := h i hi
      simp [ix, hi, hb]; omega
    · simp [ix, List.getElem?_eq_none (by simp; omega : ((List.range m).map fun i => match cs[o + i]? with | some (.float _ b) => b | _ => 0).length ≤ i)]

/-! ### worlds -/
theorem bcell {W w1 : World} (hb : Below W.heap.size W w1) : (∀ b o, b < W.heap.size → w1.cell? ⟨b, o, none⟩ = W.cell? ⟨b, o, none⟩) ∧ (∀ b o, b < W.heap.size → w1.frozen? ⟨b, o, none⟩ = W.frozen? ⟨b, o, none⟩) :=
  ⟨fun b o h => hb.cell (p := ⟨b, o, none⟩) h, fun b o h => hb.frozen (p := ⟨b, o, none⟩) h⟩
theorem bdrew {B : Nat} {w : World} (n : Nat) : Below B w (w.drewN n) := ⟨rfl, rfl, rfl, Nat.le_refl _, fun _ _ => rfl⟩
theorem below_dn {B : Nat} {a w : World} (h : Below B a w) (n : Nat) : Below B a (w.drewN n) := h.trans ⟨rfl, rfl, rfl, Nat.le_refl _, fun _ _ => rfl⟩
theorem below_step {w a b : World} (h : Below w.heap.size w a) (h2 : Below a.heap.size a b) : Below w.heap.size w b := h.trans (h2.mono h.size)
theorem below_new {w a : World} (h : Below w.heap.size w a) (o : Obj) : Below w.heap.size w (a.alloc o) := h.alloc h.size o
/-- A call that comes back with a value and has written to nothing that was there. -/
def Ret (v : Value) (w : World) (e : Ending) (w' : World) : Prop := e = .returned v ∧ Below w.heap.size w w'
theorem ret_drewN {v : Value} {w : World} (n : Nat) : Ret v w (.returned v) (w.drewN n) := ⟨rfl, bdrew n⟩

/-! ### new blocks -/
theorem ha1 (w : World) (A : Obj) : (w.alloc A).heap[w.heap.size]? = some A := heap_alloc_new w A
theorem size_al (w : World) (A : Obj) : (w.alloc A).heap.size = w.heap.size + 1 := by show (w.heap.push A).size = _; simp
theorem ha2_0 (w : World) (A B : Obj) : ((w.alloc A).alloc B).heap[w.heap.size]? = some A := by
  rw [heap_alloc_old (h := by rw [size_al]; omega)]; exact heap_alloc_new w A
theorem ha2_1 (w : World) (A B : Obj) : ((w.alloc A).alloc B).heap[w.heap.size + 1]? = some B := by
  have := heap_alloc_new (w.alloc A) B; rwa [size_al] at this
theorem ha3_0 (w : World) (A B C : Obj) : (((w.alloc A).alloc B).alloc C).heap[w.heap.size]? = some A := by
  rw [heap_alloc_old (h := by rw [size_al, size_al]; omega)]; exact ha2_0 w A B
theorem ha3_1 (w : World) (A B C : Obj) : (((w.alloc A).alloc B).alloc C).heap[w.heap.size + 1]? = some B := by
  rw [heap_alloc_old (h := by rw [size_al, size_al]; omega)]; exact ha2_1 w A B
theorem ha3_2 (w : World) (A B C : Obj) : (((w.alloc A).alloc B).alloc C).heap[w.heap.size + 1 + 1]? = some C := by
  have := heap_alloc_new ((w.alloc A).alloc B) C; rwa [size_al, size_al] at this
theorem below_setRow {B : Nat} {a w : World} (h : Below B a w) {g : Nat} (hg : B ≤ g) (cs : Array Value) : Below B a (w.setRow g cs) :=
  h.trans ⟨rfl, rfl, rfl, by simp [World.setRow], fun k hk => setRow_other w g k cs (by omega)⟩
theorem below_heap {W w1 : World} (hb : Below W.heap.size W w1) {g : Nat} {o : Obj} (h : W.heap[g]? = some o) : w1.heap[g]? = some o := by
  rw [hb.block g (by
    refine Nat.lt_of_not_le fun hle => ?_
    rw [Array.getElem?_eq_none hle] at h; cases h)]; exact h

/-! ### rows stored and loaded whole -/
def putAll (cur : Array Value) : Nat → List Value → Array Value
  | _, [] => cur
  | o, v :: r => putAll (cur.setIfInBounds o v) (o + 1) r
@[simp] theorem putAll_size : ∀ (vs : List Value) (cur : Array Value) (o : Nat), (putAll cur o vs).size = cur.size
  | [], _, _ => rfl
  | v :: r, cur, o => by rw [putAll, putAll_size r]; simp
theorem putAll_get : ∀ (vs : List Value) (cur : Array Value) (o i : Nat), o + vs.length ≤ cur.size → (putAll cur o vs)[i]? = if o ≤ i ∧ i < o + vs.length then vs[i - o]? else cur[i]?
  | [], cur, o, i, _ => by rw [putAll, if_neg (by simp)]
  | v :: r, cur, o, i, h => by
    simp only [List.length_cons] at h
    rw [putAll, putAll_get r _ (o + 1) i (by simp; omega)]
    by_cases h1 : o = i
    · subst h1
      rw [if_neg (by omega), if_pos (by simp)]
      simp [show o < cur.size by omega]
    · by_cases h2 : o + 1 ≤ i ∧ i < o + 1 + r.length
      · rw [if_pos h2, if_pos (by simp; omega)]
        obtain ⟨d, hd⟩ : ∃ d, i - o = d + 1 := ⟨i - o - 1, by omega⟩
        rw [hd, show i - (o + 1) = d by omega]; simp
      · rw [if_neg h2, if_neg (by simp; omega)]
        simp [Array.getElem?_setIfInBounds, h1]
theorem setRow_setRow (w : World) (g : Nat) (a b : Array Value) : (w.setRow g a).setRow g b = w.setRow g b := by
  unfold World.setRow
  simp only [World.mk.injEq, and_true]
  apply Array.ext_getElem?; intro i
  simp only [Array.getElem?_modify]
  by_cases h : g = i
  · subst h; simp only [if_true, Option.map_map]
    cases w.heap[g]? with
    | none => rfl
    | some o => cases o <;> rfl
  · simp [h]
theorem setRow_self {w : World} {g : Nat} {cs : Array Value} {t : TypeId} {fr : Nat × Nat} (h : w.heap[g]? = some (.cells cs t fr)) : w.setRow g cs = w := by
  unfold World.setRow
  obtain ⟨heap, tape, drawn, os, out⟩ := w
  simp only [World.mk.injEq, and_true] at *
  apply Array.ext_getElem?; intro i
  simp only [Array.getElem?_modify]
  by_cases e : g = i
  · subst e; simp only [if_true]; rw [h]; rfl
  · simp [e]
theorem setCells_row (g : Nat) (t : TypeId) (fr : Nat × Nat) : ∀ (vs : List Value) (o : Nat) (w : World) (cur : Array Value), w.heap[g]? = some (.cells cur t fr) → w.setCells g o vs = w.setRow g (putAll cur o vs)
  | [], o, w, cur, h => by rw [World.setCells, putAll, setRow_self h]
  | v :: r, o, w, cur, h => by
    rw [World.setCells, setCell_eq_setRow w g o cur t fr v h, setCells_row g t fr r (o + 1) _ (cur.setIfInBounds o v) (setRow_heap w g cur _ t fr h), setRow_setRow, putAll]
theorem putAll_crate {n : Int} {l m : List Nat} (hl : l.length = 16) (hm : m.length = 16) : putAll (crateCells n m) 1 (flCells l).toList = crateCells n l := by
  apply Array.ext_getElem?; intro i
  rw [putAll_get _ _ _ _ (by simp [hl, hm])]
  simp only [Array.length_toList, flCells_size, hl, Array.getElem?_toList]
  by_cases h : 1 ≤ i ∧ i < 1 + 16
  · rw [if_pos h]
    obtain ⟨d, rfl⟩ : ∃ d, i = 1 + d := ⟨i - 1, by omega⟩
    rw [show 1 + d - 1 = d by omega, flCells_at (by omega), crateCells_at (by omega)]
  · rw [if_neg h]
    by_cases h0 : i = 0
    · subst h0; rw [crateCells_0, crateCells_0]
    · rw [Array.getElem?_eq_none (by simp; omega), Array.getElem?_eq_none (by simp; omega)]
theorem fl_oneCell (l : List Nat) : (flCells l).all (·.oneCell') = true := by
  unfold flCells; simp [Value.oneCell']
theorem crate_oneCell (n : Int) (l : List Nat) : (crateCells n l).all (·.oneCell') = true := by
  unfold crateCells; simp [Value.oneCell']
section
variable {P : Program}
/-- The operations' runs, as rules for the walk. -/
theorem run_loadAt_row {w : World} {g : Nat} {t ty : TypeId} {cs : Array Value} {fr : Nat × Nat} {d : TypeDesc} (hg : w.heap[g]? = some (.cells cs t fr)) (hu : P.underlying ty = some d) (hd : d.isRow = true) (hi : (P.info? ty).map (·.size) = some cs.size) :
    (Instr.loadAt ty (.pointer (some ⟨g, 0, none⟩))).run P w = .ok (.agg cs) w := by
  simp only [Instr.loadAt, Instr.sureAddr, Sem.run_bind, Sem.run_pure, Result.andThen_ok]
  exact run_loadVar_row w g t ty cs fr d hg hu (by cases d <;> simp_all [TypeDesc.isRow]) hi
theorem run_storeAt_row {w : World} {g : Nat} {t ty : TypeId} {old cs : Array Value} (hg : w.heap[g]? = some (.cells old t (0, 0))) (hi : (P.info? ty).map (·.size) = some cs.size) (ho : old.size = cs.size) (h1 : cs.all (·.oneCell') = true) :
    (Instr.storeAt ty (.pointer (some ⟨g, 0, none⟩)) (.agg cs)).run P w = .ok () (w.setRow g cs) := by
  simp only [Instr.storeAt, Instr.sureAddr, Sem.run_bind, Sem.run_pure, Result.andThen_ok]
  exact run_storeVar_row w g t ty old cs hg hi ho h1
theorem run_loadAt_fl {w : World} {b o : Nat} {ty : TypeId} {l : List Nat} {d : TypeDesc} (hc : ∀ j, j < l.length → w.cell? ⟨b, o + j, none⟩ = some (.float .f32 (ix l j))) (hu : P.underlying ty = some d) (hd : d.isRow = true) (hi : (P.info? ty).map (·.size) = some l.length) :
    (Instr.loadAt ty (.pointer (some ⟨b, o, none⟩))).run P w = .ok (.agg (flCells l)) w :=
  run_loadAt_mid w b o ty (l.map (Value.float .f32)) d (fun j v hv => by
    have hj : j < l.length := by simpa using (List.getElem?_eq_some_iff.1 hv).1
    rw [hc j hj, ← hv]; simp [ix_get hj]) hu hd (by simpa using hi)
theorem run_storeAt_fl {w : World} {b : Nat} {ty t : TypeId} {n : Int} {l m : List Nat} (hl : l.length = 16) (hm : m.length = 16) (hg : w.heap[b]? = some (.cells (crateCells n m) t (0, 0))) (hi : (P.info? ty).map (·.size) = some 16) :
    (Instr.storeAt ty (.pointer (some ⟨b, 1, none⟩)) (.agg (flCells l))).run P w = .ok () (w.setRow b (crateCells n l)) := by
  rw [run_storeAt_mid w b 1 ty (flCells l) (fun j hj => by
      simp only [flCells_size, hl] at hj
      exact ⟨by rw [cell_of_row _ _ _ _ _ _ hg, crateCells_at (by omega)]; rfl, frozen_of_row _ _ _ _ _ hg⟩) (by simpa [hl] using hi) (fl_oneCell l),
    setCells_row b t (0, 0) _ 1 w _ hg, putAll_crate hl hm]
/-- A row of floats out of the middle of a block. -/
theorem wpList_load_fl {ops : Array Oper} {rest : List Oper} {op : Oper} {a : Act} {w : World} {Q : Exit → Act → World → Prop} (hgd : op.guard = none) (ty : TypeId) (x : Operand) (ho : op.op = .load ty x)
    (b o : Nat) (hx : a.eval x = .pointer (some ⟨b, o, none⟩)) (l : List Nat) (d : TypeDesc) (hc : ∀ j, j < l.length → w.cell? ⟨b, o + j, none⟩ = some (.float .f32 (ix l j)))
    (hu : P.underlying ty = some d) (hd : d.isRow = true) (hi : (P.info? ty).map (·.size) = some l.length)
    (h : wpList P ops Q rest (a.put op.dst (.agg (flCells l))) w) : wpList P ops Q (op :: rest) a w :=
  wpList_load_mid hgd ty x ho b o hx (l.map (Value.float .f32)) d (fun j v hv => by
    have hj : j < l.length := by simpa using (List.getElem?_eq_some_iff.1 hv).1
    rw [hc j hj, ← hv]; simp [ix_get hj]) hu hd (by simpa using hi) h
/-- A row of floats into a crate that lies in a block. -/
theorem wpList_store_fl {ops : Array Oper} {rest : List Oper} {op : Oper} {a : Act} {w : World} {Q : Exit → Act → World → Prop} (hgd : op.guard = none) (ty : TypeId) (x y : Operand) (ho : op.op = .store ty x y)
    (b : Nat) (hx : a.eval x = .pointer (some ⟨b, 1, none⟩)) (n : Int) (l m : List Nat) (hy : a.eval y = .agg (flCells l)) (hl : l.length = 16) (hm : m.length = 16) (t : TypeId)
    (hg : w.heap[b]? = some (.cells (crateCells n m) t (0, 0))) (hi : (P.info? ty).map (·.size) = some 16)
    (h : wpList P ops Q rest (a.put op.dst undef) (w.setRow b (crateCells n l))) : wpList P ops Q (op :: rest) a w :=
  wpList_store_mid hgd ty x y ho b 1 (flCells l) hx hy (fun j hj => by
      simp only [flCells_size, hl] at hj
      exact ⟨by rw [cell_of_row _ _ _ _ _ _ hg, crateCells_at (by omega)]; rfl, frozen_of_row _ _ _ _ _ hg⟩) (by simpa [hl] using hi) (fl_oneCell l)
    (by rw [setCells_row b t (0, 0) _ 1 w _ hg, putAll_crate hl hm]; exact h)
end

/-! ### floats' operations -/
section
variable {P : Program}
@[go_sem] theorem run_store_float (a : Addr) (m : Mode) (w : World) (k : FloatKind) (b : Nat) : (store a (.float k b) m).run P w = stored P w a (.float k b) m := run_store P w a _ m rfl
theorem run_fadd (t : TypeId) {a b r : Nat} (h : FloatKind.f32.format.add a b = some r) (w : World) : (binOp .add t (.float .f32 a) (.float .f32 b)).run P w = .ok (.float .f32 r) w :=
  run_float_arith w .add t .f32 a b r h
theorem run_fsub (t : TypeId) {a b r : Nat} (h : FloatKind.f32.format.sub a b = some r) (w : World) : (binOp .sub t (.float .f32 a) (.float .f32 b)).run P w = .ok (.float .f32 r) w :=
  run_float_arith w .sub t .f32 a b r h
theorem run_fmul (t : TypeId) {a b r : Nat} (h : FloatKind.f32.format.mul a b = some r) (w : World) : (binOp .mul t (.float .f32 a) (.float .f32 b)).run P w = .ok (.float .f32 r) w :=
  run_float_arith w .mul t .f32 a b r h
theorem run_fdiv (t : TypeId) {a b r : Nat} (h : FloatKind.f32.format.div a b = some r) (w : World) : (binOp .quo t (.float .f32 a) (.float .f32 b)).run P w = .ok (.float .f32 r) w :=
  run_float_arith w .quo t .f32 a b r h
end

end Go.FV
