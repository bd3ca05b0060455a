/-
  PLAIN LEAN: rates are at most a quarter; ripeness grows and is never more than 1.
-/
import Derived.Test.YtldbpmpjfiglaaaCool
import Derived.Test.YtldbpmpjfiglaaaRate
set_option linter.unusedVariables false
set_option linter.unusedSimpArgs false
namespace Go.FL
open Ieee
theorem rv_pow (e : Nat) : rv ((e + 1) * 8388608) = 2 ^ (23 + e) := by
  have h := rv_at e 8388608 (by decide) (fun _ => Nat.le_refl _)
  rw [Nat.add_mul, Nat.one_mul, h, Nat.pow_add]
theorem rv_half : rv 1056964608 = 2 ^ 148 := rv_pow 125
theorem rv_quarter : rv 1048576000 = 2 ^ 147 := rv_pow 124
theorem rv_eighth : rv 1040187392 = 2 ^ 146 := rv_pow 123
theorem rv_two : rv 1073741824 = 2 ^ 150 := rv_pow 127
theorem sv_of_rv {r : Nat} (h : r < 2139095040) : sv r = (rv r : Int) := by
  have hs : sg r = false := by unfold sg; rw [Nat.div_eq_of_lt (by omega)]; rfl
  have hr : rg r = r := by unfold rg; exact Nat.mod_eq_of_lt (by omega)
  rw [sv_nonneg hs, hr]
/-- Between a half and one, what is missing to one is the value of a word. -/
theorem rest_rep {r : Nat} (h1 : 1056964608 ≤ r) (h2 : r ≤ 1065353216) : ∃ s, rv s = 2 ^ 149 - rv r ∧ rv r ≤ 2 ^ 149 := by
  by_cases h : r = 1065353216
  · subst h
    exact ⟨0, by rw [rv_one]; decide, by rw [rv_one]; exact Nat.le_refl _⟩
  · obtain ⟨k, rfl⟩ : ∃ k, r = 125 * 8388608 + (8388608 + k) := ⟨r - 1056964608, by omega⟩
    have hv := rv_at 125 (8388608 + k) (by omega) (by omega)
    obtain ⟨s, hs, _⟩ := rep 125 (8388608 - k) (by omega)
    have e : (2 : Nat) ^ 149 = 16777216 * 2 ^ 125 := by decide
    rw [hv, e, ← Nat.sub_mul]
    refine ⟨s, ?_, Nat.mul_le_mul_right _ (by omega)⟩
    rw [hs]; congr 1; omega
theorem grown_step {r x : Nat} (hr : upto 1 r) (hr2 : sv r ≤ (2 ^ 148 : Nat)) (hx : upto 1 x) :
    ∃ d p z, single.sub 1065353216 x = some d ∧ single.mul r d = some p ∧ single.add x p = some z ∧ upto 1 z ∧ sv x ≤ sv z ∧ (sv r = 0 → sv z = sv x) := by
  obtain ⟨d, h1, h2, h3, h4, h5, h6⟩ := upto_sub upto_one hx (by omega) (by omega)
  have e1 : sv 1065353216 = ((2 ^ 149 : Nat) : Int) := by rw [sv_of_rv (by omega), rv_one]
  rw [e1] at h2 h3 h5 h6
  have hx2 := hx.2.2
  rw [Nat.one_mul] at hx2
  have hx1 := hx.2.1
  have hd0 := h6 hx2
  obtain ⟨p, p1, p2, p3, p4⟩ := part_mul hr h2.fin
  have hp := p3 hd0
  -- a second bound: at most a half
  have hp2 : sv p ≤ ((2 ^ 148 : Nat) : Int) := by
    have ed := rv_rg_pos hd0
    have er := rv_rg hr
    have hb : rv (rg r) * rv (rg d) ≤ rv 1056964608 * 2 ^ 149 := by
      rw [rv_half]
      exact Nat.mul_le_mul (by omega) (by omega)
    obtain ⟨p', q1, q2, _⟩ := mul_spec hr.1 h2.fin (show 1056964608 < 2139095040 by omega) hb
    rw [p1] at q1; cases q1
    have := q2.hi 1056964608 (by
      rw [er, ed]
      have a1 : ((rv (rg r) * rv (rg d) : Nat) : Int) = (rv (rg r) : Int) * (rv (rg d) : Int) := by simp
      have a2 : ((rv 1056964608 * 2 ^ 149 : Nat) : Int) = (rv 1056964608 : Int) * 2 ^ 149 := by simp
      omega)
    rw [rv_half] at this; exact this
  have hsum : sv x + sv p ≤ ((2 ^ 149 : Nat) : Int) := by
    by_cases h : sv x ≤ ((2 ^ 148 : Nat) : Int)
    · have : ((2 ^ 149 : Nat) : Int) = ((2 ^ 148 : Nat) : Int) + ((2 ^ 148 : Nat) : Int) := by decide
      omega
    · have ex := rv_rg hx
      have hlo : 1056964608 < rg x := by
        rw [← rv_lt_iff, rv_half]; omega
      have hhi : rg x ≤ 1065353216 := by
        rw [← rv_le_iff, rv_one]; omega
      obtain ⟨s, hs, hs2⟩ := rest_rep (Nat.le_of_lt hlo) hhi
      have := h2.hi s (by rw [hs]; omega)
      rw [hs] at this; omega
  obtain ⟨z, z1, z2, _⟩ := add_spec hx.1 p2 (show 1065353216 < 2139095040 by omega) (by rw [rv_one]; exact hsum) (by omega)
  have ex := rv_rg hx
  refine ⟨d, p, z, h1, p1, z1, ⟨z2.fin, ?_, ?_⟩, ?_, fun h0 => ?_⟩
  · have := z2.lo 0 (by simp [rv]; omega); simpa [rv] using this
  · have := z2.hi 1065353216 (by rw [rv_one]; simpa using hsum); rw [rv_one] at this; simpa using this
  · have := z2.lo (rg x) (by simp; omega); omega
  · have hp0 : sv p = 0 := by
      have ed := rv_rg_pos hd0
      obtain ⟨p', q1, q2, _⟩ := mul_spec (R := 0) hr.1 h2.fin (by omega) (by
        have : rv (rg r) = 0 := by have := sv_abs r; omega
        rw [this]; simp)
      rw [p1] at q1; cases q1
      have := q2.hi 0 (by rw [h0]; simp [rv])
      have := hp.1
      simp [rv] at *; omega
    have := z2
    rw [hp0, Int.add_zero] at this
    exact this.self
theorem rate_le {x y : Nat} (hx : upto 1 x) (hy : upto 1 y) : ∃ a b c, single.mul x 1040187392 = some a ∧ single.add 1065353216 y = some b ∧ single.mul a b = some c ∧ fin c ∧ 0 ≤ sv c ∧ sv c ≤ ((2 ^ 147 : Nat) : Int) := by
  obtain ⟨a, a1, a2⟩ := upto_mul hx upto_eighth (by omega)
  obtain ⟨b, b1, b2⟩ := upto_add upto_one hy (by omega)
  obtain ⟨c, c1, c2⟩ := upto_mul a2 b2 (by omega)
  have ex := upto_rv hx
  rw [Nat.one_mul] at ex
  have hra : rv (rg a) ≤ 2 ^ 146 := by
    have e8 : rg 1040187392 = 1040187392 := by decide
    obtain ⟨a', q1, q2, _⟩ := mul_spec (R := 1040187392) hx.1 upto_eighth.1 (by omega) (by rw [e8, Nat.mul_comm]; exact Nat.mul_le_mul_left _ ex)
    rw [a1] at q1; cases q1
    have := q2.hi 1040187392 (by
      rw [rv_rg hx, rv_rg upto_eighth, e8]
      have a1 : ((rv (rg x) * rv 1040187392 : Nat) : Int) = (rv (rg x) : Int) * (rv 1040187392 : Int) := by simp
      have a2 : ((rv 1040187392 * 2 ^ 149 : Nat) : Int) = (rv 1040187392 : Int) * 2 ^ 149 := by simp
      have a3 : rv (rg x) * rv 1040187392 ≤ rv 1040187392 * 2 ^ 149 := by rw [Nat.mul_comm]; exact Nat.mul_le_mul_left _ ex
      omega)
    rw [rv_eighth] at this
    have := rv_rg a2
    omega
  have hrb : rv (rg b) ≤ 2 ^ 150 := by
    have := upto_rv b2
    have e : (1 + 1) * 2 ^ 149 = 2 ^ 150 := by decide
    omega
  refine ⟨a, b, c, a1, b1, c1, c2.1, c2.2.1, ?_⟩
  have hm : rv (rg a) * rv (rg b) ≤ rv 1048576000 * 2 ^ 149 := by
    rw [rv_quarter, show 2 ^ 147 * 2 ^ 149 = 2 ^ 146 * 2 ^ 150 by decide]
    exact Nat.mul_le_mul hra hrb
  obtain ⟨c', q1, q2, _⟩ := mul_spec a2.1 b2.1 (show 1048576000 < 2139095040 by omega) hm
  rw [c1] at q1; cases q1
  have := q2.hi 1048576000 (by
    rw [rv_rg a2, rv_rg b2]
    have a1 : ((rv (rg a) * rv (rg b) : Nat) : Int) = (rv (rg a) : Int) * (rv (rg b) : Int) := by simp
    have a2 : ((rv 1048576000 * 2 ^ 149 : Nat) : Int) = (rv 1048576000 : Int) * 2 ^ 149 := by simp
    omega)
  rw [rv_quarter] at this; exact this
end Go.FL
namespace Go.Proofs.Ytldbpmpjfiglaaa
open Go.RowKit Go.FV
theorem rateW_le {x y : Nat} (hx : FL.upto 1 x) (hy : FL.upto 1 y) : FL.upto 1 (rateW x y) ∧ FL.sv (rateW x y) ≤ ((2 ^ 147 : Nat) : Int) := by
  obtain ⟨a, b, c, h1, h2, h3, h4, h5, h6⟩ := FL.rate_le hx hy
  have e1 : mulW x 1040187392 = a := by unfold mulW; rw [h1]; rfl
  have e2 : addW 1065353216 y = b := by unfold addW; rw [h2]; rfl
  have e3 : rateW x y = c := by unfold rateW; rw [e1, e2]; unfold mulW; rw [h3]; rfl
  rw [e3]
  refine ⟨⟨h4, h5, Int.le_trans h6 (by decide)⟩, h6⟩
/-- A rate: at most a quarter. -/
def rateOk (r : Nat) : Prop := FL.upto 1 r ∧ FL.sv r ≤ ((2 ^ 147 : Nat) : Int)
/-- The ripeness behind a day with a rate. -/
def grownW (x r : Nat) : Nat := addW x (mulW r (subW 1065353216 x))
theorem run_grown {r x : Nat} (hr : rateOk r) (hx : FL.upto 1 x) (t : TypeId) :
    (∀ w, (binOp .sub t (.float .f32 1065353216) (.float .f32 x)).run Try.prog w = .ok (.float .f32 (subW 1065353216 x)) w) ∧
    (∀ w, (binOp .mul t (.float .f32 r) (.float .f32 (subW 1065353216 x))).run Try.prog w = .ok (.float .f32 (mulW r (subW 1065353216 x))) w) ∧
    (∀ w, (binOp .add t (.float .f32 x) (.float .f32 (mulW r (subW 1065353216 x)))).run Try.prog w = .ok (.float .f32 (grownW x r)) w) ∧
    FL.upto 1 (grownW x r) ∧ FL.sv x ≤ FL.sv (grownW x r) ∧ (FL.sv r = 0 → FL.sv (grownW x r) = FL.sv x) := by
  obtain ⟨d, p, z, h1, h2, h3, h4, h5, h6⟩ := FL.grown_step hr.1 (Int.le_trans hr.2 (by decide)) hx
  have e1 : subW 1065353216 x = d := by unfold subW; rw [h1]; rfl
  have e2 : mulW r d = p := by unfold mulW; rw [h2]; rfl
  have e3 : grownW x r = z := by unfold grownW; rw [e1, e2]; unfold addW; rw [h3]; rfl
  rw [e3, e1, e2]
  exact ⟨run_fsub t h1, run_fmul t h2, run_fadd t h3, h4, h5, h6⟩
/-- The ripeness behind days. -/
def grownN (r x : Nat) : Nat → Nat
  | 0 => x
  | k + 1 => grownW (grownN r x k) r
theorem grownN_upto {r x : Nat} (hr : rateOk r) (hx : FL.upto 1 x) : ∀ k, FL.upto 1 (grownN r x k)
  | 0 => hx
  | k + 1 => (run_grown hr (grownN_upto hr hx k) 0).2.2.2.1
end Go.Proofs.Ytldbpmpjfiglaaa
