/-
  PLAIN LEAN: a finite single precision number is converted to double precision, and is there equal to itself.
-/
import Derived.Test.YtejipgofbefbjaaFlt
import Derived.Laws.FloatArith
set_option linter.unusedVariables false
set_option linter.unusedSimpArgs false
namespace Go.FL
open Ieee

theorem d_inf : double.infRung = 2047 * double.binade := by decide
theorem d_sw : double.signWeight = 2048 * double.binade := by decide
theorem d_bin : double.binade = 2 ^ 52 := by decide
theorem dnear (neg : Bool) (mag : Nat) (pl : Int) (h1 : mag < 33554432) (h2 : pl ≤ 200) (h3 : -200 ≤ pl) :
    ∃ rung, rung < double.infRung ∧ double.nearest neg mag pl = double.word neg rung := by
  unfold Format.nearest
  by_cases hm : mag = 0
  · rw [if_pos hm]; exact ⟨0, by decide, rfl⟩
  rw [if_neg hm]
  have hlp : double.leastPlace = -1074 := by decide
  have hfr : double.fractionBits = 52 := rfl
  simp only [hlp, hfr]
  have hL1 : mag < 2 ^ (mag.log2 + 1) := Nat.lt_log2_self
  have hL : mag.log2 < 25 := by
    refine Nat.lt_of_not_le fun h => ?_
    have h0 := Nat.log2_self_le hm
    have : 2 ^ 25 ≤ 2 ^ mag.log2 := Nat.pow_le_pow_right (by decide) h
    have e : (2 : Nat) ^ 25 = 33554432 := by decide
    omega
  obtain ⟨L, hLL⟩ : ∃ L, L = mag.log2 := ⟨_, rfl⟩
  rw [← hLL] at hL1 hL ⊢
  obtain ⟨last, hlast⟩ : ∃ last : Int, last = max (pl + (L : Int) - ((52 : Nat) : Int)) (-1074) := ⟨_, rfl⟩
  rw [← hlast]
  obtain ⟨u, hu⟩ : ∃ u : Nat, u = (pl - last).toNat := ⟨_, rfl⟩
  have hd : (last - pl).toNat = 0 := by omega
  rw [← hu, hd]
  have hA : mag <<< u < 2 ^ 52 * 2 := by
    rw [Nat.shiftLeft_eq]
    have h1 : mag * 2 ^ u < 2 ^ (L + 1) * 2 ^ u := Nat.mul_lt_mul_of_pos_right hL1 (Nat.two_pow_pos u)
    rw [← Nat.pow_add] at h1
    exact Nat.lt_of_lt_of_le h1 (by rw [← Nat.pow_succ]; exact Nat.pow_le_pow_right (by decide) (by omega))
  have hK := (cut_near neg (mag <<< u) 0).1
  rw [← d_bin] at hA
  obtain ⟨K, hKK⟩ : ∃ K, K = Toward.even.cut neg (mag <<< u) 0 := ⟨_, rfl⟩
  rw [← hKK] at hK ⊢
  simp only [Nat.pow_zero, Nat.mul_one] at hK
  obtain ⟨t, ht⟩ : ∃ t, t = (last - -1074).toNat := ⟨_, rfl⟩
  rw [← ht]
  have ht2 : t ≤ 1300 := by omega
  refine ⟨min (t * double.binade + K) double.infRung, ?_, rfl⟩
  have hm := Nat.mul_le_mul_right double.binade ht2
  have hG : 0 < double.binade := by decide
  rw [d_inf]
  generalize double.binade = G at *
  generalize mag <<< u = A at *
  generalize hx : t * G = X at *
  omega

theorem dread (s : Bool) (r : Nat) (h : r < double.infRung) : ∃ m p, double.read (double.word s r) = .number s m p := by
  have hG : 0 < double.binade := by decide
  rw [d_inf] at h
  unfold Format.read Format.word
  rw [d_sw, d_inf]
  generalize double.binade = G at *
  have e1 : (if s = true then 2048 * G + r else r) % (2048 * G) = r := by
    split
    · rw [Nat.add_mod_left]; exact Nat.mod_eq_of_lt (by omega)
    · exact Nat.mod_eq_of_lt (by omega)
  have e2 : ((if s = true then 2048 * G + r else r) / (2048 * G) % 2 == 1) = s := by
    cases s
    · simp; rw [Nat.div_eq_of_lt (by omega)]
    · simp; rw [Nat.add_div_left _ (by omega), Nat.div_eq_of_lt (by omega)]
  simp only [e1, e2]
  by_cases c : r < G
  · rw [if_pos c]; exact ⟨_, _, rfl⟩
  · rw [if_neg c, if_pos h]; exact ⟨_, _, rfl⟩

theorem compare_self (a : Int) : compare a a = .eq := by simp [compare, compareOfLessAndEq]

/-- The conversion to double precision of a finite word. -/
theorem conv_some {b : Nat} (h : fin b) : ∃ r, floatToFloatBits .f32 b .f64 = some r ∧ FloatKind.f64.format.order r r = some .eq := by
  obtain ⟨m, p, j, e1, e2, e3, _⟩ := read_fin h.1
  have hm : m < 33554432 ∧ j ≤ 253 := by
    unfold Format.read at e1
    have h1 : single.signWeight = 2147483648 := by decide
    have h2 : single.binade = 8388608 := by decide
    have h3 : single.infRung = 2139095040 := by decide
    have h4 : single.leastPlace = -149 := by decide
    simp only [h1, h2, h3, h4] at e1
    have hr : b % 2147483648 < 2139095040 := h.1
    by_cases c : b % 2147483648 < 8388608
    · rw [if_pos c] at e1; simp only [Datum.number.injEq] at e1; omega
    · rw [if_neg c, if_pos hr] at e1; simp only [Datum.number.injEq] at e1; omega
  obtain ⟨rung, hr, hw⟩ := dnear (sg b) m p hm.1 (by omega) (by omega)
  obtain ⟨m', p', hrd⟩ := dread (sg b) rung hr
  have hd : FloatKind.f32.decode b = .number (sg b) m p := e1
  have hen : FloatKind.f64.encode (.number (sg b) m p) = double.word (sg b) rung := hw
  have hde : FloatKind.f64.decode (double.word (sg b) rung) = .number (sg b) m' p' := hrd
  refine ⟨double.word (sg b) rung, ?_, ?_⟩
  · unfold floatToFloatBits
    rw [if_neg (by decide), hd]
    simp only [hen, hde, Datum.isInfinity]
    rfl
  · have : FloatKind.f64.format.read (double.word (sg b) rung) = .number (sg b) m' p' := hrd
    unfold Format.order
    rw [this]
    simp only [Datum.order, compare_self]

/-- One over a zero of double precision has an answer. -/
theorem div_some {x : Nat} (h : FloatKind.f64.format.order x 0 = some .eq) : ∃ r, FloatKind.f64.format.div 4607182418800017408 x = some r := by
  unfold Format.order at h
  unfold Format.div
  have h1 : FloatKind.f64.format.read 4607182418800017408 = .number false 4503599627370496 (-52) := by decide
  have h0 : FloatKind.f64.format.read 0 = .number false 0 (-1074) := by decide
  rw [h0] at h
  rw [h1]
  cases hx : FloatKind.f64.format.read x with
  | nan => rw [hx] at h; simp [Datum.order] at h
  | infinity s => rw [hx] at h; cases s <;> simp [Datum.order] at h
  | number t n j =>
    simp only [Datum.quotient]
    by_cases hn : n = 0
    · rw [if_pos hn]; exact ⟨_, rfl⟩
    · rw [if_neg hn]; exact ⟨_, rfl⟩

end Go.FL
