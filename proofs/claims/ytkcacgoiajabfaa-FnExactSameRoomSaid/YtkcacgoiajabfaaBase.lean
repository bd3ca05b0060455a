/-
  WORDS FOR THE WALKS, no program in sight: rows of floats, crates' cells, how flat arguments are opened, floats' operations.
-/
import Derived.WalkKit
import Derived.WalkSpells
import Derived.WalkLawsBesides
import Derived.Deep.QuietTactic
import Derived.BigQuiet
import Derived.Lib.Hide
import Derived.ProofKit
set_option linter.unusedVariables false
set_option linter.unusedSimpArgs false
namespace Go.FV
open Go.RowKit

/-- The element of a list of words at a place. -/
def ix (l : List Nat) (k : Nat) : Nat := l.getD k 0

theorem ix_get {l : List Nat} {k : Nat} (h : k < l.length) : l[k]? = some (ix l k) := by
  simp [ix, h]
theorem ix_set {l : List Nat} {k j x : Nat} (hk : k < l.length) : ix (l.set k x) j = if j = k then x else ix l j := by
  unfold ix
  simp only [List.getD_eq_getElem?_getD, List.getElem?_set]
  by_cases h : j = k
  · subst h; simp [hk]
  · have h' : ¬ k = j := fun e => h e.symm
    simp [h, h']
theorem ix_ext {l m : List Nat} (h : l.length = m.length) (hx : ∀ k, k < l.length → ix l k = ix m k) : l = m := by
  apply List.ext_getElem? ; intro i
  by_cases hi : i < l.length
  · rw [ix_get hi, ix_get (by omega), hx i hi]
  · rw [List.getElem?_eq_none (by omega), List.getElem?_eq_none (by omega)]

/-- A row of floats as cells. -/
def flCells (l : List Nat) : Array Value := (l.map (Value.float .f32)).toArray
@[simp] theorem flCells_size (l : List Nat) : (flCells l).size = l.length := by simp [flCells]
theorem flCells_at {l : List Nat} {k : Nat} (h : k < l.length) : (flCells l)[k]? = some (.float .f32 (ix l k)) := by
  unfold flCells; simp [ix_get h]
theorem flCells_set (l : List Nat) (k x : Nat) : (flCells l).setIfInBounds k (.float .f32 x) = flCells (l.set k x) := by
  unfold flCells; simp [List.map_set]

/-- A crate's cells: how many fruits, and sixteen floats. -/
def crateCells (n : Int) (l : List Nat) : Array Value := (Value.int .i8 n :: l.map (Value.float .f32)).toArray
@[simp] theorem crateCells_size (n : Int) (l : List Nat) : (crateCells n l).size = l.length + 1 := by simp [crateCells]
@[go_sem] theorem crateCells_0 (n : Int) (l : List Nat) : (crateCells n l)[0]? = some (.int .i8 n) := by simp [crateCells]
theorem crateCells_at {n : Int} {l : List Nat} {k : Nat} (h : k < l.length) : (crateCells n l)[1 + k]? = some (.float .f32 (ix l k)) := by
  unfold crateCells
  rw [Nat.add_comm]; simp [ix_get h]
theorem crateCells_set (n : Int) (l : List Nat) (k x : Nat) : (crateCells n l).setIfInBounds (1 + k) (.float .f32 x) = crateCells n (l.set k x) := by
  unfold crateCells
  rw [Nat.add_comm]; simp [List.map_set]
theorem crateCells_set0 (n m : Int) (l : List Nat) : (crateCells n l).setIfInBounds 0 (.int .i8 m) = crateCells m l := by
  unfold crateCells; simp
theorem crateCells_extract {n : Int} {l : List Nat} (h : l.length = 16) : (crateCells n l).extract 1 17 = flCells l := by
  unfold crateCells flCells
  apply Array.ext_getElem?; intro i
  simp only [List.extract_toArray, List.extract_eq_take_drop, List.drop_succ_cons, List.drop_zero, List.getElem?_toArray]
  rw [List.take_of_length_le (by simp [h])]

/-! ### flat arguments opened -/
theorem cells_of_okWide {P : Program} {W : World} {r : Reach} {base : Nat} {t : TypeId} {v : Value} {ts : List TypeId}
    (hs : (match P.underlying t with | some (.struct _) | some (.array _ _) => true | _ => false) = true) (hct : P.cellTypes P.depth t = some ts) (h : Value.okWide P W r base t v) :
    ∃ cs, v = .agg cs ∧ cs.size = P.cellsOf t ∧ ∀ i x, cs[i]? = some x → ∃ u, ts[i % ts.length]? = some u ∧ Cell.okWide P W r base u x := by
  unfold Value.okWide at h
  split at h
  · obtain ⟨cs, h1, h2, ts', h3, _, h4⟩ := h
    rw [hct] at h3; cases h3
    exact ⟨cs, h1, h2, h4⟩
  · obtain ⟨cs, h1, h2, ts', h3, _, h4⟩ := h
    rw [hct] at h3; cases h3
    exact ⟨cs, h1, h2, h4⟩
  · simp_all

theorem cell_float {P : Program} {W : World} {r : Reach} {base : Nat} {t : TypeId} {k : FloatKind} {x : Value} (ht : P.underlying t = some (.float k)) (h : Cell.okWide P W r base t x) :
    ∃ b, x = .float k b ∧ (Lit.float k b).wf = true := by
  simp only [Cell.okWide, ht] at h
  cases x <;> simp_all [Cell.ok]
  cases k <;> simp_all [FloatKind.has, Lit.wf]

theorem cell_int {P : Program} {W : World} {r : Reach} {base : Nat} {t : TypeId} {k : IntKind} {x : Value} (ht : P.underlying t = some (.int k)) (h : Cell.okWide P W r base t x) :
    ∃ n, x = .int k n ∧ (Lit.int k n).wf = true := by
  simp only [Cell.okWide, ht] at h
  cases x <;> simp_all [Cell.ok]
  simp_all [IntKind.has, Lit.wf]

theorem floats_of (cs : Array Value) (o m : Nat) (h : ∀ i, i < m → ∃ b, cs[o + i]? = some (.float .f32 b) ∧ b < 4294967296) :
    ∃ l : List Nat, l.length = m ∧ (∀ i, i < m → cs[o + i]? = some (.float .f32 (ix l i))) ∧ ∀ i, ix l i < 4294967296 := by
  refine ⟨(List.range m).map fun i => match cs[o + i]? with | some (.float _ b) => b | _ => 0, by simp, fun i hi => ?_, fun i => ?_⟩
  · obtain ⟨b, hb, _⟩ := h i hi
    simp [ix, hi, hb]
  · by_cases hi : i < m
    · obtain ⟨b, hb, hlt⟩ := h i hi
      simp [ix, hi, hb]; omega
    · simp [ix, List.getElem?_eq_none (by simp; omega : ((List.range m).map fun i => match cs[o + i]? with | some (.float _ b) => b | _ => 0).length ≤ i)]

/-! ### worlds -/
theorem bcell {W w1 : World} (hb : Below W.heap.size W w1) : (∀ b o, b < W.heap.size → w1.cell? ⟨b, o, none⟩ = W.cell? ⟨b, o, none⟩) ∧ (∀ b o, b < W.heap.size → w1.frozen? ⟨b, o, none⟩ = W.frozen? ⟨b, o, none⟩) :=
  ⟨fun b o h => hb.cell (p := ⟨b, o, none⟩) h, fun b o h => hb.frozen (p := ⟨b, o, none⟩) h⟩
theorem bdrew {B : Nat} {w : World} (n : Nat) : Below B w (w.drewN n) := ⟨rfl, rfl, rfl, Nat.le_refl _, fun _ _ => rfl⟩
theorem below_dn {B : Nat} {a w : World} (h : Below B a w) (n : Nat) : Below B a (w.drewN n) := h.trans ⟨rfl, rfl, rfl, Nat.le_refl _, fun _ _ => rfl⟩
theorem below_step {w a b : World} (h : Below w.heap.size w a) (h2 : Below a.heap.size a b) : Below w.heap.size w b := h.trans (h2.mono h.size)
theorem below_new {w a : World} (h : Below w.heap.size w a) (o : Obj) : Below w.heap.size w (a.alloc o) := h.alloc h.size o
/-- A call that comes back with a value and has written to nothing that was there. -/
def Ret (v : Value) (w : World) (e : Ending) (w' : World) : Prop := e = .returned v ∧ Below w.heap.size w w'
theorem ret_drewN {v : Value} {w : World} (n : Nat) : Ret v w (.returned v) (w.drewN n) := ⟨rfl, bdrew n⟩

/-! ### floats' operations -/
section
variable {P : Program}
@[go_sem] theorem run_store_float (a : Addr) (m : Mode) (w : World) (k : FloatKind) (b : Nat) : (store a (.float k b) m).run P w = stored P w a (.float k b) m := run_store P w a _ m rfl
theorem run_fadd (t : TypeId) {a b r : Nat} (h : FloatKind.f32.format.add a b = some r) (w : World) : (binOp .add t (.float .f32 a) (.float .f32 b)).run P w = .ok (.float .f32 r) w :=
  run_float_arith w .add t .f32 a b r h
theorem run_fsub (t : TypeId) {a b r : Nat} (h : FloatKind.f32.format.sub a b = some r) (w : World) : (binOp .sub t (.float .f32 a) (.float .f32 b)).run P w = .ok (.float .f32 r) w :=
  run_float_arith w .sub t .f32 a b r h
theorem run_fmul (t : TypeId) {a b r : Nat} (h : FloatKind.f32.format.mul a b = some r) (w : World) : (binOp .mul t (.float .f32 a) (.float .f32 b)).run P w = .ok (.float .f32 r) w :=
  run_float_arith w .mul t .f32 a b r h
theorem run_fdiv (t : TypeId) {a b r : Nat} (h : FloatKind.f32.format.div a b = some r) (w : World) : (binOp .quo t (.float .f32 a) (.float .f32 b)).run P w = .ok (.float .f32 r) w :=
  run_float_arith w .quo t .f32 a b r h
end

end Go.FV
