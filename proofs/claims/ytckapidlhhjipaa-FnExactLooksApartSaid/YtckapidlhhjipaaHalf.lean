/-
  PLAIN LEAN: halving a number by a division or by a product gives one word.
-/
import Derived.Test.YtckapidlhhjipaaQuot
set_option linter.unusedVariables false
set_option linter.unusedSimpArgs false
namespace Go.FL
open Ieee

/-- Rounding half to even, without the bound on the digits dropped. -/
def cutN (A d : Nat) : Nat := A / 2 ^ d + (decide (2 ^ d < 2 * (A % 2 ^ d)) || (2 ^ d == 2 * (A % 2 ^ d) && A / 2 ^ d % 2 == 1)).toNat
theorem cut_eq (neg : Bool) (A d : Nat) : Toward.even.cut neg A d = cutN A d := by
  unfold Toward.cut cutN
  simp only []
  by_cases hd : d ≤ A.log2 + 2
  · have hm : min d (A.log2 + 2) = d := by omega
    rw [hm, Nat.one_shiftLeft]
  · have hm : min d (A.log2 + 2) = A.log2 + 2 := by omega
    rw [hm, Nat.one_shiftLeft]
    have hA : A < 2 ^ (A.log2 + 1) := Nat.lt_log2_self
    have h2 : 2 ^ (A.log2 + 2) = 2 * 2 ^ (A.log2 + 1) := by rw [Nat.pow_succ]; omega
    have hle : 2 ^ (A.log2 + 2) ≤ 2 ^ d := Nat.pow_le_pow_right (by omega) (by omega)
    generalize 2 ^ (A.log2 + 1) = c at *
    generalize 2 ^ (A.log2 + 2) = g at *
    generalize 2 ^ d = f at *
    rw [Nat.div_eq_of_lt (by omega : A < g), Nat.mod_eq_of_lt (by omega : A < g), Nat.div_eq_of_lt (by omega : A < f), Nat.mod_eq_of_lt (by omega : A < f)]
    have e1 : decide (g < 2 * A) = false := by simp; omega
    have e2 : decide (f < 2 * A) = false := by simp; omega
    rw [e1, e2]; simp
theorem cutN_shift (A d j : Nat) : cutN (A * 2 ^ j) (d + j) = cutN A d := by
  unfold cutN
  have hp := Nat.two_pow_pos j
  rw [Nat.pow_add]
  have e0 : A * 2 ^ j / (2 ^ d * 2 ^ j) = A / 2 ^ d := Nat.mul_div_mul_right _ _ hp
  have e1 : A * 2 ^ j % (2 ^ d * 2 ^ j) = A % 2 ^ d * 2 ^ j := Nat.mul_mod_mul_right _ _ _
  rw [e0, e1]
  generalize A % 2 ^ d = r
  generalize A / 2 ^ d = q
  generalize 2 ^ d = g
  have e2 : decide (g * 2 ^ j < 2 * (r * 2 ^ j)) = decide (g < 2 * r) := by
    rw [← Nat.mul_assoc]
    exact decide_eq_decide.2 ⟨fun h => Nat.lt_of_mul_lt_mul_right h, fun h => Nat.mul_lt_mul_of_pos_right h hp⟩
  have e3 : (g * 2 ^ j == 2 * (r * 2 ^ j)) = (g == 2 * r) := by
    rw [← Nat.mul_assoc]
    by_cases h : g = 2 * r
    · subst h; simp
    · have h' : g * 2 ^ j ≠ 2 * r * 2 ^ j := fun h' => h (Nat.eq_of_mul_eq_mul_right hp h')
      rw [beq_eq_false_iff_ne.2 h, beq_eq_false_iff_ne.2 h']
  rw [e2, e3]
theorem log2_shift {m : Nat} (hm : m ≠ 0) (j : Nat) : (m * 2 ^ j).log2 = m.log2 + j := by
  have hp := Nat.two_pow_pos j
  have h1 : 2 ^ m.log2 ≤ m := Nat.log2_self_le hm
  have h2 : m < 2 ^ (m.log2 + 1) := Nat.lt_log2_self
  have hne : m * 2 ^ j ≠ 0 := Nat.mul_ne_zero hm (by omega)
  refine (Nat.log2_eq_iff hne).2 ⟨?_, ?_⟩
  · rw [Nat.pow_add]; exact Nat.mul_le_mul_right _ h1
  · have e : m.log2 + j + 1 = (m.log2 + 1) + j := by omega
    rw [e, Nat.pow_add]; exact Nat.mul_lt_mul_of_pos_right h2 hp
/-- The nearest word depends on the number alone, not on the place that it is written at. -/
theorem nearest_shift (neg : Bool) (m j : Nat) (pl : Int) : single.nearest neg (m * 2 ^ j) pl = single.nearest neg m (pl + j) := by
  unfold Format.nearest
  by_cases hm : m = 0
  · subst hm; simp
  · have hne : m * 2 ^ j ≠ 0 := Nat.mul_ne_zero hm (Nat.ne_of_gt (Nat.two_pow_pos j))
    rw [if_neg hm, if_neg hne, log2_shift hm]
    have hl : max (pl + ((m.log2 + j : Nat) : Int) - single.fractionBits) single.leastPlace = max (pl + (j : Int) + (m.log2 : Int) - single.fractionBits) single.leastPlace := by
      congr 1; omega
    simp only []
    rw [hl]
    generalize max (pl + (j : Int) + (m.log2 : Int) - single.fractionBits) single.leastPlace = last
    congr 3
    rw [cut_eq, cut_eq, Nat.shiftLeft_eq, Nat.shiftLeft_eq]
    by_cases h1 : last ≤ pl
    · rw [show (last - pl).toNat = 0 by omega, show (last - (pl + j)).toNat = 0 by omega, show (pl + j - last).toNat = j + (pl - last).toNat by omega, Nat.pow_add, Nat.mul_assoc]
    · by_cases h2 : last ≤ pl + j
      · rw [show (pl - last).toNat = 0 by omega, show (last - (pl + j)).toNat = 0 by omega]
        have h3 : j = (pl + j - last).toNat + (last - pl).toNat := by omega
        generalize (last - pl).toNat = d at *
        generalize (pl + j - last).toNat = u at *
        subst h3
        rw [Nat.pow_add, ← Nat.mul_assoc, Nat.pow_zero, Nat.mul_one]
        have := cutN_shift (m * 2 ^ u) 0 d
        rw [Nat.zero_add] at this; exact this
      · rw [show (pl - last).toNat = 0 by omega, show (pl + j - last).toNat = 0 by omega, show (last - pl).toNat = (last - (pl + j)).toNat + j by omega, Nat.pow_zero, Nat.mul_one, Nat.mul_one]
        exact cutN_shift m _ j
theorem read_lt {x : Nat} (h : rg x < 2139095040) : ∃ (m : Nat) (p : Int), single.read x = .number (sg x) m p ∧ m < 16777216 := by
  have h1 : single.signWeight = 2147483648 := by decide
  have h2 : single.binade = 8388608 := by decide
  have h3 : single.infRung = 2139095040 := by decide
  have h4 : single.leastPlace = -149 := by decide
  unfold Format.read
  simp only [h1, h2, h3, h4]
  have e : x % 2147483648 = rg x := rfl
  have e' : (x / 2147483648 % 2 == 1) = sg x := rfl
  rw [e, e']
  by_cases c : rg x < 8388608
  · rw [if_pos c]
    exact ⟨rg x, -149, rfl, by omega⟩
  · rw [if_neg c, if_pos h]
    exact ⟨8388608 + rg x % 8388608, _, rfl, by omega⟩
/-- Half of a number. -/
theorem half_eq {x : Nat} (hx : fin x) : single.div x 1073741824 = single.mul 1056964608 x ∧ single.mul x 1056964608 = single.mul 1056964608 x := by
  obtain ⟨m, i, e1, hm⟩ := read_lt hx.1
  have e2 : single.read 1073741824 = .number false 8388608 (-22) := by decide
  have e3 : single.read 1056964608 = .number false 8388608 (-24) := by decide
  unfold Format.div Format.mul
  rw [e1, e2, e3]
  simp only [Datum.quotient, Datum.product, Option.map_some, Format.write, Bool.xor_false, Bool.false_xor]
  rw [if_neg (by decide)]
  simp only [Option.map_some, Format.write, Option.some.injEq]
  have e23 : (8388608 : Nat) = 2 ^ 23 := by decide
  refine ⟨?_, by rw [Nat.mul_comm, Int.add_comm]⟩
  have hfr : single.fractionBits = 23 := rfl
  have hl : m.log2 ≤ 24 := by
    by_cases h0 : m = 0
    · subst h0; decide
    · have h1 : 2 ^ m.log2 ≤ m := Nat.log2_self_le h0
      refine Nat.le_of_not_lt fun h => ?_
      have : 2 ^ 25 ≤ 2 ^ m.log2 := Nat.pow_le_pow_right (by omega) h
      omega
  have hlg : (8388608 : Nat).log2 = 23 := by decide
  rw [hfr, hlg]
  generalize hk : 23 + 2 + 23 - m.log2 = k
  obtain ⟨u, rfl⟩ : ∃ u, k = u + 23 := ⟨k - 23, by omega⟩
  rw [Nat.shiftLeft_eq, Nat.pow_add, ← Nat.mul_assoc, e23, Nat.mul_div_cancel _ (by decide), Nat.mul_mod_left]
  rw [show ((0 : Nat) != 0) = false from rfl, Bool.toNat_false, Nat.add_zero, Nat.mul_comm (2 ^ 23) m, nearest_shift]
  rw [show 2 * (m * 2 ^ u) = m * 2 ^ (u + 1) by rw [Nat.pow_succ, Nat.mul_comm, Nat.mul_assoc], nearest_shift]
  congr 1; omega
end Go.FL
