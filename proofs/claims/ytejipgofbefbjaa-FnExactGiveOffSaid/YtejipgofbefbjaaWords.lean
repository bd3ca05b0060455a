/-
  CONTRACTS: words of numbers, their sums and products; results that are rows.
-/
import Derived.Test.YtejipgofbefbjaaQuot
import Derived.Test.YtejipgofbefbjaaStruct
import Derived.Test.YtejipgofbefbjaaCrate
set_option linter.unusedVariables false
set_option linter.unusedSimpArgs false
namespace Go.FL
open Ieee
theorem upto_rv {j x : Nat} (h : upto j x) : rv (rg x) ≤ j * 2 ^ 149 := by
  have h1 := sv_abs x
  have h2 := h.2.1
  have h3 := h.2.2
  omega
theorem upto_mul {i j x y : Nat} (hx : upto i x) (hy : upto j y) (h : i * j ≤ 16777216) : ∃ z, single.mul x y = some z ∧ upto (i * j) z := by
  obtain ⟨s, h1, h2⟩ := two149_rep (i * j) h
  have hb : rv (rg x) * rv (rg y) ≤ rv s * 2 ^ 149 := by
    rw [h1]
    refine Nat.le_trans (Nat.mul_le_mul (upto_rv hx) (upto_rv hy)) (Nat.le_of_eq ?_)
    simp only [Nat.mul_comm, Nat.mul_left_comm, Nat.mul_assoc]
  obtain ⟨z, hz, hn, _⟩ := mul_spec hx.1 hy.1 h2 hb
  have hxy : 0 ≤ sv x * sv y := Int.mul_nonneg hx.2.1 hy.2.1
  refine ⟨z, hz, hn.fin, ?_, ?_⟩
  · have := hn.lo 0 (by simpa [rv] using hxy)
    simpa [rv] using this
  · have hle : sv x * sv y ≤ (rv s : Int) * 2 ^ 149 := by
      have e : sv x * sv y = ((rv (rg x) * rv (rg y) : Nat) : Int) := by
        have a := sv_abs x; have b := sv_abs y
        have a' : sv x = (rv (rg x) : Int) := by have := hx.2.1; omega
        have b' : sv y = (rv (rg y) : Int) := by have := hy.2.1; omega
        rw [a', b']; simp
      rw [e]
      have : ((rv s * 2 ^ 149 : Nat) : Int) = (rv s : Int) * 2 ^ 149 := by simp
      omega
    have := hn.hi s hle
    rw [h1] at this; exact this
theorem upto_one : upto 1 1065353216 := by
  refine ⟨⟨by decide, by decide⟩, by rw [sv_nonneg (by decide)]; omega, ?_⟩
  rw [sv_nonneg (by decide), show rg 1065353216 = 1065353216 by decide, rv_one]; omega
theorem upto_eighth : upto 1 1040187392 := by
  refine ⟨⟨by decide, by decide⟩, by rw [sv_nonneg (by decide)]; omega, ?_⟩
  rw [sv_nonneg (by decide), show rg 1040187392 = 1040187392 by decide]
  have := rv_mono (show 1040187392 ≤ 1065353216 by omega)
  rw [rv_one] at this; omega
theorem rv_zero : rv 0 = 0 := by simp [rv]
theorem zero_le_cast (k n : Nat) : (rv 0 : Int) * 2 ^ k ≤ (n : Int) := Int.le_trans (Int.le_of_eq (by rw [rv_zero]; simp)) (Int.natCast_nonneg n)
theorem cast_le_zero (k n : Nat) : -(n : Int) ≤ (rv 0 : Int) * 2 ^ k := Int.le_trans (by omega : -(n : Int) ≤ 0) (Int.le_of_eq (by rw [rv_zero]; simp))
theorem rv_rg {j x : Nat} (h : upto j x) : sv x = (rv (rg x) : Int) := by
  have := sv_abs x
  have := h.2.1
  omega
theorem rv_rg_neg {x : Nat} (h : sv x ≤ 0) : sv x = -(rv (rg x) : Int) := by
  have := sv_abs x
  omega
theorem rv_rg_pos {x : Nat} (h : 0 ≤ sv x) : sv x = (rv (rg x) : Int) := by
  have := sv_abs x
  omega
end Go.FL
namespace Go.Proofs.Ytejipgofbefbjaa
open Go.RowKit Go.FV

theorem ord_eq (a b : Nat) : ord a b = Ieee.single.order a b := rfl
theorem fin_part {b : Nat} (h : isPart b = true) (hb : b < 4294967296) : FL.fin b := by
  rcases Nat.lt_trichotomy (FL.rg b) 2139095040 with h1 | h1 | h1
  · exact ⟨h1, hb⟩
  · exfalso
    have e1 := FL.read_inf h1
    obtain ⟨m, p, j, e2, _⟩ := FL.read_fin (x := 0) (by decide)
    obtain ⟨m', p', j', e3, _⟩ := FL.read_fin (x := 1065353216) (by decide)
    unfold isPart at h
    simp only [ord_eq, Ieee.Format.order, e1, e2, e3, Ieee.Datum.order] at h
    revert h
    cases FL.sg b <;> simp
  · exfalso
    have e1 := FL.read_nan h1
    unfold isPart at h
    simp only [ord_eq, Ieee.Format.order, e1, Ieee.Datum.order] at h
    revert h
    simp
theorem nan0 : isNan 0 = false := by
  unfold isNan
  rw [ord_eq, FL.order_fin (by decide) (by decide)]
  simp
theorem same0 {x : Nat} (h : sameN x 0 = true) : x = 0 := by
  unfold sameN at h
  rw [nan0] at h
  cases hx : isNan x
  · rw [hx] at h; simp at h; omega
  · rw [hx] at h; simp at h
def fgt (a b : Nat) : Bool := ord a b == some .gt
def flt (a b : Nat) : Bool := ord a b == some .lt
def subW (x y : Nat) : Nat := (Ieee.single.sub x y).getD 0
section
variable {P : Program}
theorem results_row_tmp {fn : Func} {p u : Tmp} {ty : TypeId} (h : fn.results = #[.cell p ty, .tmp u]) (tmps : Array Value) (w : World) (g : Nat) (t : TypeId) (cs : Array Value) (fr : Nat × Nat) (d : TypeDesc)
    (hp : tmps.getD p undef = .pointer (some ⟨g, 0, none⟩)) (hg : w.heap[g]? = some (.cells cs t fr))
    (hu : P.underlying ty = some d) (hd : (match d with | .struct _ | .array _ _ => true | _ => false) = true) (hi : (P.info? ty).map (·.size) = some cs.size) :
    (results fn tmps).run P w = .ok (.tuple #[.agg cs, tmps.getD u undef]) w := by
  have hp' : tmps[p]?.getD undef = .pointer (some ⟨g, 0, none⟩) := by simpa using hp
  simp [results, h, hp', asAddr, run_loadVar_row w g t ty cs fr d hg hu hd hi]
theorem results_row_tmp2 {fn : Func} {p u v : Tmp} {ty : TypeId} (h : fn.results = #[.cell p ty, .tmp u, .tmp v]) (tmps : Array Value) (w : World) (g : Nat) (t : TypeId) (cs : Array Value) (fr : Nat × Nat) (d : TypeDesc)
    (hp : tmps.getD p undef = .pointer (some ⟨g, 0, none⟩)) (hg : w.heap[g]? = some (.cells cs t fr))
    (hu : P.underlying ty = some d) (hd : (match d with | .struct _ | .array _ _ => true | _ => false) = true) (hi : (P.info? ty).map (·.size) = some cs.size) :
    (results fn tmps).run P w = .ok (.tuple #[.agg cs, tmps.getD u undef, tmps.getD v undef]) w := by
  have hp' : tmps[p]?.getD undef = .pointer (some ⟨g, 0, none⟩) := by simpa using hp
  simp [results, h, hp', asAddr, run_loadVar_row w g t ty cs fr d hg hu hd hi]
theorem results_row2_tmp {fn : Func} {p q u : Tmp} {ty : TypeId} (h : fn.results = #[.cell p ty, .cell q ty, .tmp u]) (tmps : Array Value) (w : World) (g g' : Nat) (t t' : TypeId) (cs cs' : Array Value) (fr fr' : Nat × Nat) (d : TypeDesc)
    (hp : tmps.getD p undef = .pointer (some ⟨g, 0, none⟩)) (hg : w.heap[g]? = some (.cells cs t fr))
    (hq : tmps.getD q undef = .pointer (some ⟨g', 0, none⟩)) (hg' : w.heap[g']? = some (.cells cs' t' fr'))
    (hu : P.underlying ty = some d) (hd : (match d with | .struct _ | .array _ _ => true | _ => false) = true) (hi : (P.info? ty).map (·.size) = some cs.size) (hi' : (P.info? ty).map (·.size) = some cs'.size) :
    (results fn tmps).run P w = .ok (.tuple #[.agg cs, .agg cs', tmps.getD u undef]) w := by
  have hp' : tmps[p]?.getD undef = .pointer (some ⟨g, 0, none⟩) := by simpa using hp
  have hq' : tmps[q]?.getD undef = .pointer (some ⟨g', 0, none⟩) := by simpa using hq
  simp [results, h, hp', hq', asAddr, run_loadVar_row w g t ty cs fr d hg hu hd hi, run_loadVar_row w g' t' ty cs' fr' d hg' hu hd hi']
end
/-- A block made and filled at once. -/
theorem new_row (w : World) (z cs : Array Value) (t : TypeId) : ((w.alloc (.cells z t)).setRow w.heap.size cs).heap[w.heap.size]? = some (.cells cs t (0, 0)) ∧
    (∀ (g : Nat) (o : Obj), w.heap[g]? = some o → ((w.alloc (.cells z t)).setRow w.heap.size cs).heap[g]? = some o) ∧ Below w.heap.size w ((w.alloc (.cells z t)).setRow w.heap.size cs) :=
  ⟨setRow_heap _ _ _ _ _ _ (ha1 _ _), fun g o h => by
    have hlt : g < w.heap.size := by
      refine Nat.lt_of_not_le fun hle => ?_
      rw [Array.getElem?_eq_none hle] at h; cases h
    rw [setRow_other _ _ _ _ (by omega), heap_alloc_old (h := hlt)]; exact h, below_setRow (Below.alloc (Below.refl _ _) (Nat.le_refl _) _) (Nat.le_refl _) _⟩

def addW (x y : Nat) : Nat := (Ieee.single.add x y).getD 0
def divW (x y : Nat) : Nat := (Ieee.single.div x y).getD 0
theorem addW_spec {i j x y : Nat} (hx : FL.upto i x) (hy : FL.upto j y) (h : i + j ≤ 16777216) : Ieee.single.add x y = some (addW x y) ∧ FL.upto (i + j) (addW x y) := by
  obtain ⟨z, hz, hu⟩ := FL.upto_add hx hy h
  unfold addW; rw [hz]; exact ⟨rfl, hu⟩
theorem run_addW {i j x y : Nat} (hx : FL.upto i x) (hy : FL.upto j y) (h : i + j ≤ 16777216) (t : TypeId) (w : World) : (binOp .add t (.float .f32 x) (.float .f32 y)).run Try.prog w = .ok (.float .f32 (addW x y)) w :=
  run_fadd t (addW_spec hx hy h).1 w
def mulW (x y : Nat) : Nat := (Ieee.single.mul x y).getD 0
theorem mulW_spec {i j x y : Nat} (hx : FL.upto i x) (hy : FL.upto j y) (h : i * j ≤ 16777216) : Ieee.single.mul x y = some (mulW x y) ∧ FL.upto (i * j) (mulW x y) := by
  obtain ⟨z, hz, hu⟩ := FL.upto_mul hx hy h
  unfold mulW; rw [hz]; exact ⟨rfl, hu⟩
theorem run_mulW {i j x y : Nat} (hx : FL.upto i x) (hy : FL.upto j y) (h : i * j ≤ 16777216) (t : TypeId) (w : World) : (binOp .mul t (.float .f32 x) (.float .f32 y)).run Try.prog w = .ok (.float .f32 (mulW x y)) w :=
  run_fmul t (mulW_spec hx hy h).1 w
theorem run_cvn (b : Nat) (h : FL.num b) (w : World) : (convert 22 40 (.float .f32 b)).run Try.prog w = .ok (.float .f64 (cv b)) w := by
  obtain ⟨r, hr, _⟩ := FL.conv_num h
  unfold cv
  rw [hr]
  exact run_convert_float_float w _ _ .f32 .f64 b r (by rw [Try.underlying22]; rfl) Try.underlying40 hr
theorem cvn_self (b : Nat) (h : FL.num b) : FloatKind.f64.format.order (cv b) (cv b) = some .eq := by
  obtain ⟨r, hr, h2⟩ := FL.conv_num h
  unfold cv; rw [hr]; exact h2
end Go.Proofs.Ytejipgofbefbjaa
