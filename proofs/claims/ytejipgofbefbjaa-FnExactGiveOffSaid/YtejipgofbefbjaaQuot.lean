/-
  PLAIN LEAN: quotients are numbers; sums of parts are bounded.
-/
import Derived.Test.YtejipgofbefbjaaConv
import Derived.Test.YtejipgofbefbjaaLeaf
set_option linter.unusedVariables false
set_option linter.unusedSimpArgs false
namespace Go.FL
open Ieee

/-- Finite or infinite. -/
def num (b : Nat) : Prop := rg b ≤ 2139095040 ∧ b < 4294967296
theorem fin.num {b : Nat} (h : fin b) : num b := ⟨Nat.le_of_lt h.1, h.2⟩
theorem conv_num {b : Nat} (h : num b) : ∃ r, floatToFloatBits .f32 b .f64 = some r ∧ FloatKind.f64.format.order r r = some .eq := by
  by_cases hf : rg b < 2139095040
  · exact conv_some ⟨hf, h.2⟩
  · have he : rg b = 2139095040 := by have := h.1; omega
    have hw := word_eq b h.2
    rw [he] at hw
    cases hs : sg b
    · rw [hs] at hw
      have : single.word false 2139095040 = 2139095040 := by decide
      rw [this] at hw; subst hw
      exact ⟨9218868437227405312, by decide +kernel, by decide +kernel⟩
    · rw [hs] at hw
      have : single.word true 2139095040 = 4286578688 := by decide
      rw [this] at hw; subst hw
      exact ⟨18442240474082181120, by decide +kernel, by decide +kernel⟩
theorem nearest_num (neg : Bool) (mag : Nat) (pl : Int) : num (single.nearest neg mag pl) := by
  by_cases hm : mag = 0
  · subst hm
    have hz : single.nearest neg 0 pl = single.word neg 0 := by unfold Format.nearest; rw [if_pos rfl]
    rw [hz]
    exact (fin_word neg (by omega)).num
  · obtain ⟨r, hr, _, _⟩ := near_spec neg mag pl (pl.natAbs) hm (by omega)
    rw [hr]
    exact ⟨by rw [rg_word neg (Nat.min_le_right _ _)]; exact Nat.min_le_right _ _, word_lt neg (Nat.min_le_right _ _)⟩
theorem div_num {x y : Nat} (hx : fin x) (hy : fin y) (h : sv y ≠ 0) : ∃ z, single.div x y = some z ∧ num z := by
  obtain ⟨m, p, j, e1, e2, e3, _⟩ := read_fin hx.1
  obtain ⟨m', p', j', f1, f2, f3, f4⟩ := read_fin hy.1
  unfold Format.div
  rw [e1, f1]
  have hm : m' ≠ 0 := by
    intro h0
    have := f4 h0
    exact h (by have := sv_abs y; rw [f4 h0] at this; simp [rv] at this; omega)
  simp only [Datum.quotient]
  rw [if_neg hm]
  exact ⟨_, rfl, nearest_num _ _ _⟩
theorem two149_rep (j : Nat) (hj : j ≤ 16777216) : ∃ s, rv s = j * 2 ^ 149 ∧ s < 2139095040 := by
  obtain ⟨s, h1, h2⟩ := rep 149 j hj
  exact ⟨s, h1, by omega⟩
/-- Not negative, and at most so many. -/
def upto (j x : Nat) : Prop := fin x ∧ 0 ≤ sv x ∧ sv x ≤ (j * 2 ^ 149 : Nat)
theorem upto_add {i j x y : Nat} (hx : upto i x) (hy : upto j y) (h : i + j ≤ 16777216) : ∃ z, single.add x y = some z ∧ upto (i + j) z := by
  obtain ⟨s, h1, h2⟩ := two149_rep (i + j) h
  have hb : sv x + sv y ≤ rv s := by
    have := hx.2.2; have := hy.2.2
    rw [h1, Nat.add_mul]; omega
  obtain ⟨z, hz, hn, _⟩ := add_spec hx.1 hy.1 h2 hb (by have := hx.2.1; have := hy.2.1; omega)
  refine ⟨z, hz, hn.fin, ?_, ?_⟩
  · have := hn.lo 0 (by have := hx.2.1; have := hy.2.1; simp [rv]; omega)
    simpa [rv] using this
  · have := hn.hi s (by simpa using hb)
    rw [h1] at this; exact this
end Go.FL
namespace Go.Proofs.Ytejipgofbefbjaa
open Go.RowKit Go.FV

theorem part_upto {b : Nat} (h : isPart b = true) (hf : FL.fin b) : FL.upto 1 b := by
  unfold isPart ord at h
  have e0 : FloatKind.f32.format.order b 0 = some (compare (FL.sv b) (FL.sv 0)) := FL.order_fin hf.1 (by decide)
  have e1 : FloatKind.f32.format.order b 1065353216 = some (compare (FL.sv b) (FL.sv 1065353216)) := FL.order_fin hf.1 (by decide)
  have s0 : FL.sv 0 = 0 := by decide
  have s1 : FL.sv 1065353216 = ((2 ^ 149 : Nat) : Int) := by
    rw [FL.sv_nonneg (by decide), show FL.rg 1065353216 = 1065353216 by decide, FL.rv_one]
  rw [e0, e1, s0, s1] at h
  simp only [Bool.and_eq_true, Bool.or_eq_true, beq_iff_eq, Option.some.injEq] at h
  refine ⟨hf, ?_, ?_⟩
  · rcases h.1 with h | h
    · have := Int.compare_eq_gt.1 h; omega
    · have := Int.compare_eq_eq.1 h; omega
  · rw [Nat.one_mul]
    rcases h.2 with h | h
    · have := Int.compare_eq_lt.1 h; omega
    · have := Int.compare_eq_eq.1 h; omega
end Go.Proofs.Ytejipgofbefbjaa
