/-
  PLAIN LEAN, no program in sight: single precision numbers (rungs, rounding) as whole numbers of units of 2^-149.
-/
import GoSem.Core.Float
namespace Go.FL
open Ieee

/-- The value of a rung in units of 2^-149. -/
def rv (r : Nat) : Nat := if r < 8388608 then r else (8388608 + r % 8388608) * 2 ^ (r / 8388608 - 1)

theorem rv_small {r : Nat} (h : r < 8388608) : rv r = r := by simp [rv, h]

/-- The rung of 'K' units of 2^e, K with 24 digits. -/
theorem rv_at (e K : Nat) (h1 : K ≤ 16777216) (h2 : 0 < e → 8388608 ≤ K) : rv (e * 8388608 + K) = K * 2 ^ e := by
  unfold rv
  by_cases h : e * 8388608 + K < 8388608
  · rw [if_pos h]
    have : e = 0 := by omega
    subst this; simp
  · rw [if_neg h]
    by_cases h3 : K < 16777216
    · have a : (e * 8388608 + K) / 8388608 = e + 1 := by omega
      have b : (e * 8388608 + K) % 8388608 = K - 8388608 := by omega
      rw [a, b]
      have : 8388608 + (K - 8388608) = K := by omega
      rw [this]; simp
    · have : K = 16777216 := by omega
      subst this
      have a : (e * 8388608 + 16777216) / 8388608 = e + 2 := by omega
      have b : (e * 8388608 + 16777216) % 8388608 = 0 := by omega
      rw [a, b]
      have : e + 2 - 1 = e + 1 := by omega
      rw [this, Nat.pow_succ]; omega

theorem rv_succ (r : Nat) : rv r < rv (r + 1) := by
  by_cases h : r < 8388608
  · have e1 : rv r = r := rv_small h
    have e2 : rv (0 * 8388608 + (r + 1)) = (r + 1) * 2 ^ 0 := rv_at 0 (r + 1) (by omega) (by omega)
    simp at e2; omega
  · obtain ⟨e, K, hr, h1, h2⟩ : ∃ e K, r = e * 8388608 + K ∧ 8388608 ≤ K ∧ K < 16777216 :=
      ⟨r / 8388608 - 1, r % 8388608 + 8388608, by omega, by omega, by omega⟩
    have e1 := rv_at e K (by omega) (by omega)
    have e2 := rv_at e (K + 1) (by omega) (by omega)
    rw [hr, e1, Nat.add_assoc, e2]
    exact Nat.mul_lt_mul_of_pos_right (by omega) (Nat.two_pow_pos e)

theorem rv_mono {r s : Nat} (h : r ≤ s) : rv r ≤ rv s := by
  induction h with
  | refl => exact Nat.le_refl _
  | step _ ih => exact Nat.le_trans ih (Nat.le_of_lt (rv_succ _))

theorem rv_lt {r s : Nat} (h : r < s) : rv r < rv s := Nat.lt_of_lt_of_le (rv_succ r) (rv_mono h)

theorem rv_lt_iff {r s : Nat} : rv r < rv s ↔ r < s :=
  ⟨fun h => Nat.lt_of_not_le fun h' => absurd (rv_mono h') (by omega), rv_lt⟩

theorem rv_le_iff {r s : Nat} : rv r ≤ rv s ↔ r ≤ s :=
  ⟨fun h => Nat.le_of_not_lt fun h' => absurd (rv_lt h') (by omega), rv_mono⟩

theorem rv_inj {r s : Nat} (h : rv r = rv s) : r = s :=
  Nat.le_antisymm (rv_le_iff.1 (by omega)) (rv_le_iff.1 (by omega))

/-- Rounding half to even keeps within half a unit. -/
theorem cut_near (neg : Bool) (A d : Nat) :
    2 * (Toward.even.cut neg A d * 2 ^ d) ≤ 2 * A + 2 ^ d ∧ 2 * A ≤ 2 * (Toward.even.cut neg A d * 2 ^ d) + 2 ^ d := by
  unfold Toward.cut
  simp only []
  by_cases hd : d ≤ A.log2 + 2
  · have hm : min d (A.log2 + 2) = d := by omega
    rw [hm, Nat.one_shiftLeft]
    have hp := Nat.two_pow_pos d
    generalize hg : 2 ^ d = g at *
    have hdm := Nat.div_add_mod A g
    have hlt := Nat.mod_lt A hp
    generalize A / g = low at *
    generalize A % g = rest at *
    have hmul : g * low = low * g := Nat.mul_comm _ _
    by_cases hc : (decide (g < 2 * rest) || g == 2 * rest && low % 2 == 1) = true
    · rw [hc]
      simp at hc
      have : (low + 1) * g = low * g + g := by rw [Nat.add_mul]; omega
      simp only [Bool.toNat_true]
      rw [this]
      omega
    · have hc' := Bool.not_eq_true _ ▸ hc
      rw [hc']
      simp at hc'
      simp only [Bool.toNat_false, Nat.add_zero]
      omega
  · have hm : min d (A.log2 + 2) = A.log2 + 2 := by omega
    rw [hm, Nat.one_shiftLeft]
    have hA : A < 2 ^ (A.log2 + 1) := Nat.lt_log2_self
    have h2 : 2 ^ (A.log2 + 2) = 2 * 2 ^ (A.log2 + 1) := by rw [Nat.pow_succ]; omega
    have hle : 2 ^ (A.log2 + 2) ≤ 2 ^ d := Nat.pow_le_pow_right (by omega) (by omega)
    have hdiv : A / 2 ^ (A.log2 + 2) = 0 := Nat.div_eq_of_lt (by omega)
    have hmod : A % 2 ^ (A.log2 + 2) = A := Nat.mod_eq_of_lt (by omega)
    rw [hdiv, hmod]
    have hc : (decide (2 ^ (A.log2 + 2) < 2 * A) || (2 ^ (A.log2 + 2) == 2 * A && 0 % 2 == 1)) = false := by
      simp; omega
    rw [hc]
    simp
    omega

/-- The nearest word: no rung of a value not above comes above it, none of a value not below comes below it. -/
theorem near_spec (neg : Bool) (mag : Nat) (pl : Int) (k : Nat) (hm : mag ≠ 0) (hk : 0 ≤ pl + 149 + k) :
    ∃ r, single.nearest neg mag pl = single.word neg (min r 2139095040) ∧
      (∀ s, rv s * 2 ^ k ≤ mag * 2 ^ (pl + 149 + k).toNat → s ≤ r) ∧
      (∀ s, mag * 2 ^ (pl + 149 + k).toNat ≤ rv s * 2 ^ k → r ≤ s) := by
  unfold Format.nearest
  rw [if_neg hm]
  have hlp : single.leastPlace = -149 := by decide
  have hbin : single.binade = 8388608 := by decide
  have hinf : single.infRung = 2139095040 := by decide
  have hfr : single.fractionBits = 23 := rfl
  simp only [hlp, hbin, hinf, hfr]
  have hL1 : mag < 2 ^ (mag.log2 + 1) := Nat.lt_log2_self
  have hL0 : 2 ^ mag.log2 ≤ mag := Nat.log2_self_le hm
  generalize hL : mag.log2 = L at *
  obtain ⟨last, hlast⟩ : ∃ last : Int, last = max (pl + (L : Int) - ((23 : Nat) : Int)) (-149) := ⟨_, rfl⟩
  rw [← hlast]
  obtain ⟨u, hu⟩ : ∃ u : Nat, u = (pl - last).toNat := ⟨_, rfl⟩
  obtain ⟨d, hd⟩ : ∃ d : Nat, d = (last - pl).toNat := ⟨_, rfl⟩
  obtain ⟨e, he⟩ : ∃ e : Nat, e = (last - -149).toNat := ⟨_, rfl⟩
  obtain ⟨t, ht⟩ : ∃ t : Nat, t = (pl + 149 + k).toNat := ⟨_, rfl⟩
  rw [← hu, ← hd, ← he, ← ht]
  obtain ⟨A, hA⟩ : ∃ A, A = mag <<< u := ⟨_, rfl⟩
  rw [← hA]
  rw [Nat.shiftLeft_eq] at hA
  obtain ⟨K, hK⟩ : ∃ K, K = Toward.even.cut neg A d := ⟨_, rfl⟩
  rw [← hK]
  obtain ⟨c1, c2⟩ := cut_near neg A d
  rw [← hK] at c1 c2
  have hpd := Nat.two_pow_pos d
  -- the digits of A
  have hAlt : A < 2 ^ (24 + d) := by
    have h1 : A < 2 ^ (L + 1) * 2 ^ u := by rw [hA]; exact Nat.mul_lt_mul_of_pos_right hL1 (Nat.two_pow_pos u)
    rw [← Nat.pow_add] at h1
    exact Nat.lt_of_lt_of_le h1 (Nat.pow_le_pow_right (by omega) (by omega))
  have hAge : 0 < e → 2 ^ (23 + d) ≤ A := by
    intro he0
    have h1 : 2 ^ L * 2 ^ u ≤ A := by rw [hA]; exact Nat.mul_le_mul_right _ hL0
    rw [← Nat.pow_add] at h1
    have : 23 + d = L + u := by omega
    rw [this]; exact h1
  rw [Nat.pow_add] at hAlt
  have hAge' : 0 < e → 8388608 * 2 ^ d ≤ A := fun h => by have := hAge h; rw [Nat.pow_add] at this; exact this
  clear hAge
  have e24 : (2 : Nat) ^ 24 = 16777216 := by decide
  rw [e24] at hAlt
  have hK1 : K ≤ 16777216 := by
    refine Nat.le_of_lt_succ (Nat.lt_of_not_le fun h => ?_)
    have := Nat.mul_le_mul_right (2 ^ d) h
    have e1 : (16777216 + 1) * 2 ^ d = 16777216 * 2 ^ d + 2 ^ d := by rw [Nat.add_mul]; omega
    omega
  have hK2 : 0 < e → 8388608 ≤ K := by
    intro h0
    have h1 := hAge' h0
    refine Nat.le_of_not_lt fun h => ?_
    have h2 : K + 1 ≤ 8388608 := h
    have := Nat.mul_le_mul_right (2 ^ d) h2
    have e1 : (K + 1) * 2 ^ d = K * 2 ^ d + 2 ^ d := by rw [Nat.add_mul]; omega
    omega
  have hr := rv_at e K hK1 hK2
  have hscale : A * 2 ^ (e + k) = mag * 2 ^ t * 2 ^ d := by
    rw [hA, Nat.mul_assoc, Nat.mul_assoc, ← Nat.pow_add, ← Nat.pow_add]
    congr 2; omega
  have hpe := Nat.two_pow_pos e
  have hpk := Nat.two_pow_pos k
  -- comparing in units of 2^e / 2^d
  have key1 : ∀ V, V * 2 ^ k ≤ mag * 2 ^ t → V * 2 ^ d ≤ A * 2 ^ e := by
    intro V h
    have h1 : V * 2 ^ k * 2 ^ d ≤ mag * 2 ^ t * 2 ^ d := Nat.mul_le_mul_right _ h
    rw [← hscale, Nat.pow_add, ← Nat.mul_assoc] at h1
    have h2 : V * 2 ^ d * 2 ^ k ≤ A * 2 ^ e * 2 ^ k := by
      have : V * 2 ^ d * 2 ^ k = V * 2 ^ k * 2 ^ d := by rw [Nat.mul_assoc, Nat.mul_assoc, Nat.mul_comm (2 ^ d)]
      rw [this]; exact h1
    exact Nat.le_of_mul_le_mul_right h2 hpk
  have key2 : ∀ V, mag * 2 ^ t ≤ V * 2 ^ k → A * 2 ^ e ≤ V * 2 ^ d := by
    intro V h
    have h1 : mag * 2 ^ t * 2 ^ d ≤ V * 2 ^ k * 2 ^ d := Nat.mul_le_mul_right _ h
    rw [← hscale, Nat.pow_add, ← Nat.mul_assoc] at h1
    have h2 : A * 2 ^ e * 2 ^ k ≤ V * 2 ^ d * 2 ^ k := by
      have : V * 2 ^ d * 2 ^ k = V * 2 ^ k * 2 ^ d := by rw [Nat.mul_assoc, Nat.mul_assoc, Nat.mul_comm (2 ^ d)]
      rw [this]; exact h1
    exact Nat.le_of_mul_le_mul_right h2 hpk
  refine ⟨e * 8388608 + K, rfl, fun s hs => ?_, fun s hs => ?_⟩
  · refine Nat.le_of_not_lt fun hlt => ?_
    have h1 := key1 _ hs
    by_cases hK3 : K < 16777216
    · have hr1 := rv_at e (K + 1) (by omega) (by omega)
      have h2 : rv (e * 8388608 + (K + 1)) ≤ rv s := rv_mono (by omega)
      rw [hr1] at h2
      have h3 : (K + 1) * 2 ^ e * 2 ^ d ≤ A * 2 ^ e := Nat.le_trans (Nat.mul_le_mul_right _ h2) h1
      have h4 : (K + 1) * 2 ^ d * 2 ^ e ≤ A * 2 ^ e := by
        have : (K + 1) * 2 ^ d * 2 ^ e = (K + 1) * 2 ^ e * 2 ^ d := by rw [Nat.mul_assoc, Nat.mul_assoc, Nat.mul_comm (2 ^ d)]
        rw [this]; exact h3
      have h5 := Nat.le_of_mul_le_mul_right h4 hpe
      have e1 : (K + 1) * 2 ^ d = K * 2 ^ d + 2 ^ d := by rw [Nat.add_mul]; omega
      omega
    · have hKe : K = 16777216 := by omega
      have h2 := rv_lt hlt
      rw [hr, hKe] at h2
      have h3 : 16777216 * 2 ^ e * 2 ^ d < rv s * 2 ^ d := Nat.mul_lt_mul_of_pos_right h2 hpd
      have h4 : 16777216 * 2 ^ d * 2 ^ e < A * 2 ^ e := by
        have : 16777216 * 2 ^ d * 2 ^ e = 16777216 * 2 ^ e * 2 ^ d := by rw [Nat.mul_assoc, Nat.mul_assoc, Nat.mul_comm (2 ^ d)]
        rw [this]; exact Nat.lt_of_lt_of_le h3 h1
      have h5 := Nat.lt_of_mul_lt_mul_right h4
      omega
  · refine Nat.le_of_not_lt fun hlt => ?_
    have h1 := key2 _ hs
    by_cases hK3 : 0 < K ∧ (0 < e → 8388608 < K)
    · have hr1 := rv_at e (K - 1) (by omega) (by omega)
      have h2 : rv s ≤ rv (e * 8388608 + (K - 1)) := rv_mono (by omega)
      rw [hr1] at h2
      have h3 : A * 2 ^ e ≤ (K - 1) * 2 ^ e * 2 ^ d := Nat.le_trans h1 (Nat.mul_le_mul_right _ h2)
      have h4 : A * 2 ^ e ≤ (K - 1) * 2 ^ d * 2 ^ e := by
        have : (K - 1) * 2 ^ d * 2 ^ e = (K - 1) * 2 ^ e * 2 ^ d := by rw [Nat.mul_assoc, Nat.mul_assoc, Nat.mul_comm (2 ^ d)]
        rw [this]; exact h3
      have h5 := Nat.le_of_mul_le_mul_right h4 hpe
      obtain ⟨K', rfl⟩ : ∃ K', K = K' + 1 := ⟨K - 1, by omega⟩
      have e1 : (K' + 1) * 2 ^ d = K' * 2 ^ d + 2 ^ d := by rw [Nat.add_mul]; omega
      simp only [Nat.add_sub_cancel] at h5
      omega
    · by_cases he0 : 0 < e
      · have hKe : K = 8388608 := by have := hK2 he0; omega
        have h2 := rv_lt hlt
        rw [hr, hKe] at h2
        have h3 : rv s * 2 ^ d < 8388608 * 2 ^ e * 2 ^ d := Nat.mul_lt_mul_of_pos_right h2 hpd
        have h4 : A * 2 ^ e < 8388608 * 2 ^ d * 2 ^ e := by
          have : 8388608 * 2 ^ d * 2 ^ e = 8388608 * 2 ^ e * 2 ^ d := by rw [Nat.mul_assoc, Nat.mul_assoc, Nat.mul_comm (2 ^ d)]
          rw [this]; exact Nat.lt_of_le_of_lt h1 h3
        have h5 := Nat.lt_of_mul_lt_mul_right h4
        have := hAge' he0
        omega
      · have : K = 0 := by omega
        omega

/-! ### words: sign and rung -/
def INF : Nat := 2139095040
def rg (x : Nat) : Nat := x % 2147483648
def sg (x : Nat) : Bool := x / 2147483648 % 2 == 1
/-- A finite word. -/
def fin (x : Nat) : Prop := rg x < 2139095040 ∧ x < 4294967296
/-- The value of a finite word, in units of 2^-149. -/
def sv (x : Nat) : Int := if sg x then -(rv (rg x) : Int) else (rv (rg x) : Int)

theorem word_lt (s : Bool) {r : Nat} (h : r ≤ 2139095040) : single.word s r < 4294967296 := by
  have : single.signWeight = 2147483648 := by decide
  unfold Format.word; rw [this]; split <;> omega
theorem rg_word (s : Bool) {r : Nat} (h : r ≤ 2139095040) : rg (single.word s r) = r := by
  have : single.signWeight = 2147483648 := by decide
  unfold Format.word rg; rw [this]; split <;> omega
theorem sg_word (s : Bool) {r : Nat} (h : r ≤ 2139095040) : sg (single.word s r) = s := by
  have : single.signWeight = 2147483648 := by decide
  unfold Format.word sg; rw [this]
  cases s
  · simp; omega
  · simp; omega
theorem word_eq (x : Nat) (h : x < 4294967296) : single.word (sg x) (rg x) = x := by
  have : single.signWeight = 2147483648 := by decide
  unfold Format.word sg rg; rw [this]
  by_cases hx : x / 2147483648 % 2 = 1
  · simp [hx]; omega
  · simp [hx]; omega
theorem fin_word (s : Bool) {r : Nat} (h : r < 2139095040) : fin (single.word s r) := ⟨by rw [rg_word s (by omega)]; exact h, word_lt s (by omega)⟩

/-- A finite word as a datum. -/
theorem read_fin {x : Nat} (h : rg x < 2139095040) : ∃ (m : Nat) (p : Int) (j : Nat), single.read x = .number (sg x) m p ∧ p = (j : Int) - 149 ∧ m * 2 ^ j = rv (rg x) ∧ (m = 0 → rg x = 0) := by
  have h1 : single.signWeight = 2147483648 := by decide
  have h2 : single.binade = 8388608 := by decide
  have h3 : single.infRung = 2139095040 := by decide
  have h4 : single.leastPlace = -149 := by decide
  unfold Format.read
  simp only [h1, h2, h3, h4]
  have e : x % 2147483648 = rg x := rfl
  have e' : (x / 2147483648 % 2 == 1) = sg x := rfl
  rw [e, e']
  by_cases c : rg x < 8388608
  · rw [if_pos c]
    exact ⟨rg x, -149, 0, rfl, by simp, by simp [rv_small c], id⟩
  · rw [if_neg c, if_pos h]
    refine ⟨8388608 + rg x % 8388608, _, rg x / 8388608 - 1, rfl, by omega, ?_, by omega⟩
    unfold rv; rw [if_neg c]

theorem read_inf {x : Nat} (h : rg x = 2139095040) : single.read x = .infinity (sg x) := by
  have h1 : single.signWeight = 2147483648 := by decide
  have h2 : single.binade = 8388608 := by decide
  have h3 : single.infRung = 2139095040 := by decide
  have h4 : single.leastPlace = -149 := by decide
  unfold Format.read
  simp only [h1, h2, h3, h4]
  have e : x % 2147483648 = rg x := rfl
  have e' : (x / 2147483648 % 2 == 1) = sg x := rfl
  rw [e, e', if_neg (by omega), if_neg (by omega), if_pos h]

theorem read_nan {x : Nat} (h : 2139095040 < rg x) : single.read x = .nan (sg x) (rg x - 2139095040) := by
  have h1 : single.signWeight = 2147483648 := by decide
  have h2 : single.binade = 8388608 := by decide
  have h3 : single.infRung = 2139095040 := by decide
  have h4 : single.leastPlace = -149 := by decide
  unfold Format.read
  simp only [h1, h2, h3, h4]
  have e : x % 2147483648 = rg x := rfl
  have e' : (x / 2147483648 % 2 == 1) = sg x := rfl
  rw [e, e', if_neg (by omega), if_neg (by omega), if_neg (by omega)]

/-- 'signed' at a place above another. -/
theorem signed_val (s : Bool) (m j i : Nat) (v : Nat) (h : m * 2 ^ (i + j) = v) : signed s m j * 2 ^ i = if s then -(v : Int) else (v : Int) := by
  unfold signed
  have hm : m <<< j * 2 ^ i = v := by rw [Nat.shiftLeft_eq, Nat.mul_assoc, ← Nat.pow_add, Nat.add_comm j i]; exact h
  have hz : (((m <<< j : Nat) : Int)) * (2 : Int) ^ i = (v : Int) := by
    rw [← hm]; simp
  split
  · rw [Int.neg_mul, hz]
  · exact hz

/-- Two finite words at one place: the two whole numbers. -/
theorem read_two {x y : Nat} (hx : rg x < 2139095040) (hy : rg y < 2139095040) :
    ∃ (m : Nat) (i : Int) (n : Nat) (j : Int) (b : Nat), single.read x = .number (sg x) m i ∧ single.read y = .number (sg y) n j ∧ min i j = (b : Int) - 149 ∧
      signed (sg x) m (i - min i j).toNat * (2 : Int) ^ (b : Nat) = sv x ∧ signed (sg y) n (j - min i j).toNat * (2 : Int) ^ b = sv y := by
  obtain ⟨m, i, a, e1, e2, e3, _⟩ := read_fin hx
  obtain ⟨n, j, c, f1, f2, f3, _⟩ := read_fin hy
  refine ⟨m, i, n, j, min a c, e1, f1, by omega, ?_, ?_⟩
  · exact signed_val (sg x) m _ (min a c) (rv (rg x)) (by rw [← e3]; congr 2; omega)
  · exact signed_val (sg y) n _ (min a c) (rv (rg y)) (by rw [← f3]; congr 2; omega)

theorem compare_mul (a b : Int) (k : Nat) : compare (a * 2 ^ k) (b * 2 ^ k) = compare a b := by
  have hp : (0 : Int) < 2 ^ k := Int.pow_pos (by decide)
  simp only [compare, compareOfLessAndEq]
  by_cases h1 : a < b
  · rw [if_pos h1, if_pos (Int.mul_lt_mul_of_pos_right h1 hp)]
  · by_cases h2 : a = b
    · subst h2; simp
    · have h3 : ¬ a * 2 ^ k < b * 2 ^ k := fun h => h1 (Int.lt_of_mul_lt_mul_right h (Int.le_of_lt hp))
      have h4 : ¬ a * 2 ^ k = b * 2 ^ k := fun h => h2 (Int.eq_of_mul_eq_mul_right (Int.ne_of_gt hp) h)
      rw [if_neg h1, if_neg h2, if_neg h3, if_neg h4]

/-- The order of finite words is that of their values. -/
theorem order_fin {x y : Nat} (hx : rg x < 2139095040) (hy : rg y < 2139095040) : single.order x y = some (compare (sv x) (sv y)) := by
  obtain ⟨m, i, n, j, b, e1, e2, e3, e4, e5⟩ := read_two hx hy
  unfold Format.order
  rw [e1, e2]
  simp only [Datum.order]
  rw [← e4, ← e5, compare_mul]

/-! ### rounding a whole number of units over 2^k -/
/-- 'z' is a word nearest to S / 2^k: no word's value lies strictly between. -/
structure Near (S : Int) (k z : Nat) : Prop where
  fin : fin z
  lo : ∀ s : Nat, (rv s : Int) * 2 ^ k ≤ S → (rv s : Int) ≤ sv z
  hi : ∀ s : Nat, S ≤ (rv s : Int) * 2 ^ k → sv z ≤ (rv s : Int)
  nlo : ∀ s : Nat, -((rv s : Int)) * 2 ^ k ≤ S → -(rv s : Int) ≤ sv z
  nhi : ∀ s : Nat, S ≤ -((rv s : Int)) * 2 ^ k → sv z ≤ -(rv s : Int)

theorem near_words (neg : Bool) (mag : Nat) (pl : Int) (k R : Nat) (S : Int) (hk : 0 ≤ pl + 149 + k) (hR : R < 2139095040)
    (hS : S = if neg then -((mag * 2 ^ (pl + 149 + k).toNat : Nat) : Int) else ((mag * 2 ^ (pl + 149 + k).toNat : Nat) : Int))
    (hb : mag * 2 ^ (pl + 149 + k).toNat ≤ rv R * 2 ^ k) :
    Near S k (single.nearest neg mag pl) ∧ sg (single.nearest neg mag pl) = neg := by
  have hpk : (0 : Int) < 2 ^ k := Int.pow_pos (by decide)
  by_cases hm : mag = 0
  · subst hm
    simp only [Nat.zero_mul] at hS hb
    have hS0 : S = 0 := by rw [hS]; simp
    have hz : single.nearest neg 0 pl = single.word neg 0 := by unfold Format.nearest; rw [if_pos rfl]
    rw [hz]
    have hv : sv (single.word neg 0) = 0 := by
      unfold sv; rw [rg_word neg (by omega)]; simp [rv]
    refine ⟨⟨fin_word neg (by omega), fun s h => ?_, fun s h => ?_, fun s h => ?_, fun s h => ?_⟩, sg_word neg (by omega)⟩
    · rw [hv]; rw [hS0] at h
      exact Int.not_lt.1 fun h' => absurd (Int.mul_pos h' hpk) (by omega)
    · rw [hv]; omega
    · rw [hv]; omega
    · rw [hv]; rw [hS0] at h
      have : (rv s : Int) = 0 := by
        refine Int.le_antisymm (Int.not_lt.1 fun h' => ?_) (by omega)
        have := Int.mul_pos h' hpk
        rw [Int.neg_mul] at h; omega
      omega
  · obtain ⟨r, hr, h1, h2⟩ := near_spec neg mag pl k hm hk
    generalize hM : mag * 2 ^ (pl + 149 + k).toNat = M at *
    have hrR : r ≤ R := h2 R hb
    have hmin : min r 2139095040 = r := by omega
    rw [hr, hmin]
    have c1 : ∀ s : Nat, (rv s : Int) * 2 ^ k ≤ M → s ≤ r := fun s h => h1 s (by
      have : ((rv s * 2 ^ k : Nat) : Int) = (rv s : Int) * 2 ^ k := by simp
      omega)
    have c2 : ∀ s : Nat, (M : Int) ≤ (rv s : Int) * 2 ^ k → r ≤ s := fun s h => h2 s (by
      have : ((rv s * 2 ^ k : Nat) : Int) = (rv s : Int) * 2 ^ k := by simp
      omega)
    have hrv : sv (single.word neg r) = if neg then -(rv r : Int) else (rv r : Int) := by
      unfold sv; rw [rg_word neg (by omega), sg_word neg (by omega)]
    have nn : ∀ s : Nat, (0 : Int) ≤ (rv s : Int) * 2 ^ k := fun s => Int.mul_nonneg (by omega) (Int.le_of_lt hpk)
    have M0 : 0 < M := by rw [← hM]; exact Nat.mul_pos (by omega) (Nat.two_pow_pos _)
    have z0 : ∀ s : Nat, (rv s : Int) * 2 ^ k ≤ 0 → rv s = 0 := fun s h => by
      have : ¬ (0 : Int) < rv s := fun h' => absurd (Int.mul_pos h' hpk) (by omega)
      omega
    refine ⟨⟨fin_word neg (by omega), fun s h => ?_, fun s h => ?_, fun s h => ?_, fun s h => ?_⟩, sg_word neg (by omega)⟩
    all_goals
      rw [hrv]
      cases neg
      · simp only [Bool.false_eq_true, if_false] at hS ⊢
        subst hS
        first
        | (have := rv_mono (c1 s h); omega)
        | (have := rv_mono (c2 s h); omega)
        | (rw [Int.neg_mul] at h; have := nn s; omega)
        | omega
      · simp only [if_true] at hS ⊢
        subst hS
        first
        | (have := nn s; omega)
        | (have := z0 s (by omega); omega)
        | (rw [Int.neg_mul] at h; have := rv_mono (c1 s (by omega)); omega)
        | (rw [Int.neg_mul] at h; have := rv_mono (c2 s (by omega)); omega)

theorem sum_spec (s t : Bool) (m n : Nat) (i j : Int) (b R : Nat) (A B : Int) (hb : min i j = (b : Int) - 149)
    (hA : signed s m (i - min i j).toNat * 2 ^ b = A) (hB : signed t n (j - min i j).toNat * 2 ^ b = B) (hR : R < 2139095040) (h1 : A + B ≤ rv R) (h2 : -(rv R : Int) ≤ A + B) :
    ∃ z, ((Datum.number s m i).sum (.number t n j)).map single.write = some z ∧ Near (A + B) 0 z ∧ (sg z = true → A + B < 0 ∨ s = true ∧ t = true) := by
  simp only [Datum.sum, Option.map_some, Format.write]
  generalize hT : signed s m (i - min i j).toNat + signed t n (j - min i j).toNat = T
  have hS : A + B = T * 2 ^ b := by rw [← hT, Int.add_mul, hA, hB]
  refine ⟨_, rfl, ?_⟩
  rw [hb]
  have hpb : (0 : Int) < 2 ^ b := Int.pow_pos (by decide)
  by_cases h0 : T = 0
  · subst h0
    have := near_words (s && t) 0 ((b : Int) - 149) 0 R (A + B) (by omega) hR (by rw [hS]; simp) (by simp)
    simp only [if_true, Int.natAbs_zero]
    exact ⟨this.1, fun h => by rw [this.2] at h; simp at h; exact .inr h⟩
  · rw [if_neg h0]
    have eb : ((b : Int) - 149 + 149 + ((0 : Nat) : Int)).toNat = b := by omega
    have habs : ((T.natAbs * 2 ^ b : Nat) : Int) = if T < 0 then -(A + B) else A + B := by
      rw [hS]
      have : ((T.natAbs * 2 ^ b : Nat) : Int) = (T.natAbs : Int) * 2 ^ b := by simp
      rw [this]
      split
      · rw [← Int.neg_mul]; congr 1; omega
      · congr 1; omega
    have := near_words (decide (T < 0)) T.natAbs ((b : Int) - 149) 0 R (A + B) (by omega) hR
      (by rw [eb, habs]; by_cases h : T < 0 <;> simp [h])
      (by rw [eb]; simp only [Nat.pow_zero, Nat.mul_one]; split at habs <;> omega)
    refine ⟨this.1, fun h => ?_⟩
    rw [this.2] at h
    have hT : T < 0 := by simpa using h
    left; rw [hS]
    exact Int.mul_neg_of_neg_of_pos hT hpb

/-- The sum of two finite words. -/
theorem add_spec {x y R : Nat} (hx : fin x) (hy : fin y) (hR : R < 2139095040) (h1 : sv x + sv y ≤ rv R) (h2 : -(rv R : Int) ≤ sv x + sv y) :
    ∃ z, single.add x y = some z ∧ Near (sv x + sv y) 0 z ∧ (sg z = true → sv x + sv y < 0 ∨ sg x = true ∧ sg y = true) := by
  obtain ⟨m, i, n, j, b, e1, e2, e3, e4, e5⟩ := read_two hx.1 hy.1
  unfold Format.add
  rw [e1, e2]
  exact sum_spec _ _ _ _ _ _ b R _ _ e3 e4 e5 hR h1 h2

theorem signed_not (s : Bool) (m j : Nat) : signed (!s) m j = -signed s m j := by
  cases s <;> simp [signed]

/-- The difference of two finite words. -/
theorem sub_spec {x y R : Nat} (hx : fin x) (hy : fin y) (hR : R < 2139095040) (h1 : sv x - sv y ≤ rv R) (h2 : -(rv R : Int) ≤ sv x - sv y) :
    ∃ z, single.sub x y = some z ∧ Near (sv x - sv y) 0 z ∧ (sg z = true → sv x - sv y < 0 ∨ sg x = true ∧ sg y = false) := by
  obtain ⟨m, i, n, j, b, e1, e2, e3, e4, e5⟩ := read_two hx.1 hy.1
  unfold Format.sub
  rw [e1, e2]
  simp only [Datum.opposite]
  have := sum_spec (sg x) (!sg y) m n i j b R (sv x) (-sv y) e3 e4 (by rw [signed_not, Int.neg_mul, e5]) hR (by omega) (by omega)
  obtain ⟨z, h, h', h''⟩ := this
  exact ⟨z, h, by simpa [Int.sub_eq_add_neg] using h', fun q => by
    rcases h'' q with h3 | ⟨h3, h4⟩
    · left; omega
    · right; exact ⟨h3, by simpa using h4⟩⟩

/-- The product of two finite words. -/
theorem mul_spec {x y R : Nat} (hx : fin x) (hy : fin y) (hR : R < 2139095040) (hb : rv (rg x) * rv (rg y) ≤ rv R * 2 ^ 149) :
    ∃ z, single.mul x y = some z ∧ Near (sv x * sv y) 149 z ∧ sg z = (sg x ^^ sg y) := by
  obtain ⟨m, i, a, e1, e2, e3, _⟩ := read_fin hx.1
  obtain ⟨n, j, c, f1, f2, f3, _⟩ := read_fin hy.1
  unfold Format.mul
  rw [e1, f1]
  simp only [Datum.product, Option.map_some, Format.write]
  refine ⟨_, rfl, ?_⟩
  have hp : (i + j + 149 + ((149 : Nat) : Int)).toNat = a + c := by omega
  have hmn : m * n * 2 ^ (a + c) = rv (rg x) * rv (rg y) := by
    rw [← e3, ← f3, Nat.pow_add, Nat.mul_assoc, Nat.mul_assoc]
    congr 1
    rw [← Nat.mul_assoc, Nat.mul_comm n, Nat.mul_assoc]
  refine near_words (sg x ^^ sg y) (m * n) (i + j) 149 R (sv x * sv y) (by omega) hR ?_ (by rw [hp, hmn]; exact hb)
  rw [hp, hmn]
  unfold sv
  cases sg x <;> cases sg y <;> simp [Int.neg_mul, Int.mul_neg]

/-- Whole numbers of 24 digits at a place are values of words. -/
theorem rep (g : Nat) : ∀ m : Nat, m ≤ 16777216 → ∃ s, rv s = m * 2 ^ g ∧ s ≤ g * 8388608 + 16777216 := by
  induction g with
  | zero =>
    intro m hm
    have h := rv_at 0 m hm (fun h => absurd h (Nat.lt_irrefl 0))
    rw [Nat.zero_mul, Nat.zero_add] at h
    exact ⟨m, h, by omega⟩
  | succ g ih =>
    intro m hm
    by_cases h : m < 8388608
    · obtain ⟨s, h1, h2⟩ := ih (2 * m) (by omega)
      exact ⟨s, by rw [h1, Nat.pow_succ]; rw [Nat.mul_comm 2 m, Nat.mul_assoc, Nat.mul_comm 2], Nat.le_trans h2 (Nat.add_le_add_right (Nat.mul_le_mul_right _ (Nat.le_succ g)) _)⟩
    · exact ⟨(g + 1) * 8388608 + m, rv_at (g + 1) m hm (by omega), by omega⟩

theorem sv_abs (x : Nat) : (sv x).natAbs = rv (rg x) := by unfold sv; split <;> omega
theorem sv_nonneg {x : Nat} (h : sg x = false) : sv x = rv (rg x) := by unfold sv; simp [h]
theorem sv_neg {x : Nat} (h : sg x = true) : sv x = -(rv (rg x) : Int) := by unfold sv; simp [h]

/-- A word is what its value's nearest word is. -/
theorem Near.self {x z : Nat} (h : Near (sv x) 0 z) : sv z = sv x := by
  cases hs : sg x
  · have e := sv_nonneg hs
    have h1 := h.lo (rg x) (by rw [e]; simp)
    have h2 := h.hi (rg x) (by rw [e]; simp)
    omega
  · have e := sv_neg hs
    have h1 := h.nlo (rg x) (by rw [e]; simp)
    have h2 := h.nhi (rg x) (by rw [e]; simp)
    omega

/-- Two finite words of one value and one sign are one word. -/
theorem eq_of_sv {x y : Nat} (hx : fin x) (hy : fin y) (h : sv x = sv y) (hs : sg x = sg y) : x = y := by
  have e : rv (rg x) = rv (rg y) := by rw [← sv_abs, ← sv_abs, h]
  have e' := rv_inj e
  rw [← word_eq x hx.2, ← word_eq y hy.2, hs, e']

/-! ### parts: numbers from 0 to 1 -/
/-- One. -/
abbrev ONE : Nat := 1065353216
theorem rv_one : rv 1065353216 = 2 ^ 149 := by
  have h := rv_at 126 8388608 (by decide) (by decide)
  have e : 126 * 8388608 + 8388608 = 1065353216 := by decide
  rw [e] at h
  rw [h]

end Go.FL
