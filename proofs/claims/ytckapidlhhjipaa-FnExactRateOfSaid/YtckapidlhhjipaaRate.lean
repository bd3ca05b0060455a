/-
  CONTRACTS: the rate of air.
-/
import Derived.Test.YtckapidlhhjipaaParts
import Derived.Test.YtckapidlhhjipaaMean
set_option linter.unusedVariables false
set_option linter.unusedSimpArgs false
namespace Go.FL
open Ieee
theorem upto_rv {j x : Nat} (h : upto j x) : rv (rg x) ≤ j * 2 ^ 149 := by
  have h1 := sv_abs x
  have h2 := h.2.1
  have h3 := h.2.2
  omega
theorem upto_mul {i j x y : Nat} (hx : upto i x) (hy : upto j y) (h : i * j ≤ 16777216) : ∃ z, single.mul x y = some z ∧ upto (i * j) z := by
  obtain ⟨s, h1, h2⟩ := two149_rep (i * j) h
  have hb : rv (rg x) * rv (rg y) ≤ rv s * 2 ^ 149 := by
    rw [h1]
    refine Nat.le_trans (Nat.mul_le_mul (upto_rv hx) (upto_rv hy)) (Nat.le_of_eq ?_)
    simp only [Nat.mul_comm, Nat.mul_left_comm, Nat.mul_assoc]
  obtain ⟨z, hz, hn, _⟩ := mul_spec hx.1 hy.1 h2 hb
  have hxy : 0 ≤ sv x * sv y := Int.mul_nonneg hx.2.1 hy.2.1
  refine ⟨z, hz, hn.fin, ?_, ?_⟩
  · have := hn.lo 0 (by simpa [rv] using hxy)
    simpa [rv] using this
  · have hle : sv x * sv y ≤ (rv s : Int) * 2 ^ 149 := by
      have e : sv x * sv y = ((rv (rg x) * rv (rg y) : Nat) : Int) := by
        have a := sv_abs x; have b := sv_abs y
        have a' : sv x = (rv (rg x) : Int) := by have := hx.2.1; omega
        have b' : sv y = (rv (rg y) : Int) := by have := hy.2.1; omega
        rw [a', b']; simp
      rw [e]
      have : ((rv s * 2 ^ 149 : Nat) : Int) = (rv s : Int) * 2 ^ 149 := by simp
      omega
    have := hn.hi s hle
    rw [h1] at this; exact this
theorem upto_one : upto 1 1065353216 := by
  refine ⟨⟨by decide, by decide⟩, by rw [sv_nonneg (by decide)]; omega, ?_⟩
  rw [sv_nonneg (by decide), show rg 1065353216 = 1065353216 by decide, rv_one]; omega
theorem upto_eighth : upto 1 1040187392 := by
  refine ⟨⟨by decide, by decide⟩, by rw [sv_nonneg (by decide)]; omega, ?_⟩
  rw [sv_nonneg (by decide), show rg 1040187392 = 1040187392 by decide]
  have := rv_mono (show 1040187392 ≤ 1065353216 by omega)
  rw [rv_one] at this; omega
end Go.FL
namespace Go.Proofs.Ytckapidlhhjipaa
open Go.RowKit Go.FV

def mulW (x y : Nat) : Nat := (Ieee.single.mul x y).getD 0
theorem mulW_spec {i j x y : Nat} (hx : FL.upto i x) (hy : FL.upto j y) (h : i * j ≤ 16777216) : Ieee.single.mul x y = some (mulW x y) ∧ FL.upto (i * j) (mulW x y) := by
  obtain ⟨z, hz, hu⟩ := FL.upto_mul hx hy h
  unfold mulW; rw [hz]; exact ⟨rfl, hu⟩
theorem run_mulW {i j x y : Nat} (hx : FL.upto i x) (hy : FL.upto j y) (h : i * j ≤ 16777216) (t : TypeId) (w : World) : (binOp .mul t (.float .f32 x) (.float .f32 y)).run Try.prog w = .ok (.float .f32 (mulW x y)) w :=
  run_fmul t (mulW_spec hx hy h).1 w
/-- The rate of air. -/
def rateW (x y : Nat) : Nat := mulW (mulW x 1040187392) (addW 1065353216 y)
theorem rateW_upto {x y : Nat} (hx : FL.upto 1 x) (hy : FL.upto 1 y) : FL.upto 2 (rateW x y) :=
  (mulW_spec (mulW_spec hx FL.upto_eighth (by omega)).2 (addW_spec FL.upto_one hy (by omega)).2 (by omega)).2
theorem run_rate {x y : Nat} (hx : FL.upto 1 x) (hy : FL.upto 1 y) (t : TypeId) (w : World) :
    (binOp .mul t (.float .f32 x) (.float .f32 1040187392)).run Try.prog w = .ok (.float .f32 (mulW x 1040187392)) w ∧
    (binOp .add t (.float .f32 1065353216) (.float .f32 y)).run Try.prog w = .ok (.float .f32 (addW 1065353216 y)) w ∧
    (binOp .mul t (.float .f32 (mulW x 1040187392)) (.float .f32 (addW 1065353216 y))).run Try.prog w = .ok (.float .f32 (rateW x y)) w :=
  ⟨run_mulW hx FL.upto_eighth (by omega) t w, run_addW FL.upto_one hy (by omega) t w, run_mulW (mulW_spec hx FL.upto_eighth (by omega)).2 (addW_spec FL.upto_one hy (by omega)).2 (by omega) t w⟩
theorem l01Rate_any (b x y : Nat) (hx : FL.upto 1 x) (hy : FL.upto 1 y) (w : World) (c0 : w.cell? ⟨b, 0, none⟩ = some (.float .f32 x)) (c1 : w.cell? ⟨b, 1, none⟩ = some (.float .f32 y)) :
    Calls Try.prog 45 #[.pointer (some ⟨b, 0, none⟩)] w fun e w' => e = .returned (.float .f32 (rateW x y)) ∧ ∃ m, w.drewN m = w' := by
  have r1 := fun w => (run_rate hx hy 22 w).1
  have r2 := fun w => (run_rate hx hy 22 w).2.1
  have r3 := fun w => (run_rate hx hy 22 w).2.2
  go_enter Try.func45, Try.ntmps45
  go_wp2
  go_quiet (fail)
  go_wp2
  go_ret; exact ⟨rfl, _, rfl⟩
theorem rate_any (x y : Nat) (hx : FL.upto 1 x) (hy : FL.upto 1 y) (w : World) :
    Calls Try.prog 47 #[.agg #[.float .f32 x, .float .f32 y]] w (Ret (.float .f32 (rateW x y)) w) := by
  have r1 := fun w => (run_rate hx hy 22 w).1
  have r2 := fun w => (run_rate hx hy 22 w).2.1
  have r3 := fun w => (run_rate hx hy 22 w).2.2
  go_enter Try.func47, Try.ntmps47
  go_wp2
  go_ret; refine ⟨rfl, ?_⟩; (repeat (first | exact Below.refl _ _ | assumption | refine below_new ?_ _ | refine below_step ?_ (by assumption) | refine Below.drew ?_ | refine below_dn ?_ _ | refine Below.setCell ?_ (by simp <;> omega) _))
def airOk (x y : Nat) : Bool := isPart x && isPart y
def rateX (x y : Nat) (V : Bool) : Nat := if V then rateW x y else 0
theorem spec_RateOf (x y : Nat) (hx : x < 4294967296) (hy : y < 4294967296) (w : World) : Calls Try.prog 15 #[.agg #[.float .f32 x, .float .f32 y]] w (Ret (.tuple #[.float .f32 (rateX x y (airOk x y)), .int .i64 (if airOk x y then 0 else 1)]) w) := by
  have HC := Lib.hid (spec_l01Air w.heap.size x y (w.alloc (.cells #[.float .f32 x, .float .f32 y] 27)) (by simp [go_sem]) (by simp [go_sem]))
  have HA : Hid (airOk x y = (isPart x && isPart y)) := rfl
  rw [← HA.out] at HC
  have HP : Hid (airOk x y = true → FL.upto 1 x ∧ FL.upto 1 y) := fun h => by
    unfold airOk at h
    rw [Bool.and_eq_true] at h
    exact ⟨part_upto h.1 (fin_part h.1 hx), part_upto h.2 (fin_part h.2 hy)⟩
  cases hV : airOk x y
  · rw [hV] at HC
    go_enter Try.func15, Try.ntmps15
    go_wp2_with (go_at_call 44; ((with_reducible refine (HC.out).mono ?_); rintro e w' ⟨rfl, rfl⟩))
    go_ret2; refine ⟨rfl, ?_⟩; (repeat (first | exact Below.refl _ _ | assumption | refine below_new ?_ _ | refine below_step ?_ (by assumption) | refine Below.drew ?_ | refine below_dn ?_ _ | refine Below.setCell ?_ (by simp <;> omega) _))
  · rw [hV] at HC
    obtain ⟨ux, uy⟩ := HP.out hV
    have HR := Lib.hid (l01Rate_any w.heap.size x y ux uy (w.alloc (.cells #[.float .f32 x, .float .f32 y] 27)) (by simp [go_sem]) (by simp [go_sem]))
    go_enter Try.func15, Try.ntmps15
    go_wp2_with (first | (go_at_call 44; ((with_reducible refine (HC.out).mono ?_); rintro e w' ⟨rfl, rfl⟩)) | (go_at_call 45; ((with_reducible refine (HR.out).mono ?_); rintro e w' ⟨rfl, m, rfl⟩)))
    go_ret2; refine ⟨rfl, ?_⟩; (repeat (first | exact Below.refl _ _ | assumption | refine below_new ?_ _ | refine below_step ?_ (by assumption) | refine Below.drew ?_ | refine below_dn ?_ _ | refine Below.setCell ?_ (by simp <;> omega) _))
theorem impl_RateOf (x y : Nat) (hx : x < 4294967296) (hy : y < 4294967296) (w : World) : Calls Try.prog 17 #[.agg #[.float .f32 x, .float .f32 y]] w (Ret (.tuple #[.float .f32 (rateX x y (airOk x y)), .int .i64 (if airOk x y then 0 else 1)]) w) := by
  have HC := Lib.hid (fun w => impl_ValidAir x y w)
  have HA : Hid (airOk x y = (isPart x && isPart y)) := rfl
  simp only [← HA.out] at HC
  have HP : Hid (airOk x y = true → FL.upto 1 x ∧ FL.upto 1 y) := fun h => by
    unfold airOk at h
    rw [Bool.and_eq_true] at h
    exact ⟨part_upto h.1 (fin_part h.1 hx), part_upto h.2 (fin_part h.2 hy)⟩
  cases hV : airOk x y
  · rw [hV] at HC
    go_enter Try.func17, Try.ntmps17
    go_wp2_with (go_at_call 46; ((with_reducible refine (HC.out _).mono ?_); rintro e w1 ⟨rfl, hb1⟩); obtain ⟨hc1, hf1⟩ := bcell hb1)
    go_ret2; refine ⟨rfl, ?_⟩; (repeat (first | exact Below.refl _ _ | assumption | refine below_new ?_ _ | refine below_step ?_ (by assumption) | refine Below.drew ?_ | refine below_dn ?_ _ | refine Below.setCell ?_ (by simp <;> omega) _))
  · rw [hV] at HC
    obtain ⟨ux, uy⟩ := HP.out hV
    go_enter Try.func17, Try.ntmps17
    go_wp2_with fail; ((with_reducible refine (HC.out _).mono ?_); rintro e w1 ⟨rfl, hb1⟩); obtain ⟨hc1, hf1⟩ := bcell hb1
    have hz1 : w.heap.size < w1.heap.size := by (have := hb1.size; simp at this; omega)
    go_wp2_with fail; ((with_reducible refine (rate_any x y ux uy _).mono ?_); rintro e w2 ⟨rfl, hb2⟩); obtain ⟨hc2, hf2⟩ := bcell hb2
    go_wp2
    go_ret2; refine ⟨rfl, ?_⟩; (repeat (first | exact Below.refl _ _ | assumption | refine below_new ?_ _ | refine below_step ?_ (by assumption) | refine Below.drew ?_ | refine below_dn ?_ _ | refine Below.setCell ?_ (by simp <;> omega) _))
theorem rateX_num {x y : Nat} (hx : x < 4294967296) (hy : y < 4294967296) : FL.num (rateX x y (airOk x y)) := by
  unfold rateX
  split
  case isTrue h =>
    unfold airOk at h
    rw [Bool.and_eq_true] at h
    exact (rateW_upto (part_upto h.1 (fin_part h.1 hx)) (part_upto h.2 (fin_part h.2 hy))).1.num
  case isFalse => exact ⟨by decide, by decide⟩
end Go.Proofs.Ytckapidlhhjipaa
