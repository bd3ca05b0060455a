/-
  CONTRACTS: the rate of air.
-/
import Derived.Test.YtldbpmpjfiglaaaParts
import Derived.Test.YtldbpmpjfiglaaaWords
set_option linter.unusedVariables false
set_option linter.unusedSimpArgs false
namespace Go.Proofs.Ytldbpmpjfiglaaa
open Go.RowKit Go.FV

/-- The rate of air. -/
def rateW (x y : Nat) : Nat := mulW (mulW x 1040187392) (addW 1065353216 y)
theorem rateW_upto {x y : Nat} (hx : FL.upto 1 x) (hy : FL.upto 1 y) : FL.upto 2 (rateW x y) :=
  (mulW_spec (mulW_spec hx FL.upto_eighth (by omega)).2 (addW_spec FL.upto_one hy (by omega)).2 (by omega)).2
theorem run_rate {x y : Nat} (hx : FL.upto 1 x) (hy : FL.upto 1 y) (t : TypeId) (w : World) :
    (binOp .mul t (.float .f32 x) (.float .f32 1040187392)).run Try.prog w = .ok (.float .f32 (mulW x 1040187392)) w ∧
    (binOp .add t (.float .f32 1065353216) (.float .f32 y)).run Try.prog w = .ok (.float .f32 (addW 1065353216 y)) w ∧
    (binOp .mul t (.float .f32 (mulW x 1040187392)) (.float .f32 (addW 1065353216 y))).run Try.prog w = .ok (.float .f32 (rateW x y)) w :=
  ⟨run_mulW hx FL.upto_eighth (by omega) t w, run_addW FL.upto_one hy (by omega) t w, run_mulW (mulW_spec hx FL.upto_eighth (by omega)).2 (addW_spec FL.upto_one hy (by omega)).2 (by omega) t w⟩
theorem l01Rate_any (b x y : Nat) (hx : FL.upto 1 x) (hy : FL.upto 1 y) (w : World) (c0 : w.cell? ⟨b, 0, none⟩ = some (.float .f32 x)) (c1 : w.cell? ⟨b, 1, none⟩ = some (.float .f32 y)) :
    Calls Try.prog 60 #[.pointer (some ⟨b, 0, none⟩)] w fun e w' => e = .returned (.float .f32 (rateW x y)) ∧ ∃ m, w.drewN m = w' := by
  have r1 := fun w => (run_rate hx hy 23 w).1
  have r2 := fun w => (run_rate hx hy 23 w).2.1
  have r3 := fun w => (run_rate hx hy 23 w).2.2
  go_enter Try.func60, Try.ntmps60
  go_wp2
  go_quiet (fail)
  go_wp2
  go_ret; exact ⟨rfl, _, rfl⟩
theorem rate_any (x y : Nat) (hx : FL.upto 1 x) (hy : FL.upto 1 y) (w : World) :
    Calls Try.prog 80 #[.agg #[.float .f32 x, .float .f32 y]] w (Ret (.float .f32 (rateW x y)) w) := by
  have r1 := fun w => (run_rate hx hy 23 w).1
  have r2 := fun w => (run_rate hx hy 23 w).2.1
  have r3 := fun w => (run_rate hx hy 23 w).2.2
  go_enter Try.func80, Try.ntmps80
  go_wp2
  go_ret; refine ⟨rfl, ?_⟩; (repeat (first | exact Below.refl _ _ | assumption | refine below_new ?_ _ | refine below_step ?_ (by assumption) | refine Below.drew ?_ | refine below_dn ?_ _ | refine Below.setCell ?_ (by simp <;> omega) _))
def airOk (x y : Nat) : Bool := isPart x && isPart y
def rateX (x y : Nat) (V : Bool) : Nat := if V then rateW x y else 0
theorem spec_RateOf (x y : Nat) (hx : x < 4294967296) (hy : y < 4294967296) (w : World) : Calls Try.prog 33 #[.agg #[.float .f32 x, .float .f32 y]] w (Ret (.tuple #[.float .f32 (rateX x y (airOk x y)), .int .i64 (if airOk x y then 0 else 1)]) w) := by
  have HC := Lib.hid (spec_l01Air w.heap.size x y (w.alloc (.cells #[.float .f32 x, .float .f32 y] 33)) (by simp [go_sem]) (by simp [go_sem]))
  have HA : Hid (airOk x y = (isPart x && isPart y)) := rfl
  rw [← HA.out] at HC
  have HP : Hid (airOk x y = true → FL.upto 1 x ∧ FL.upto 1 y) := fun h => by
    unfold airOk at h
    rw [Bool.and_eq_true] at h
    exact ⟨part_upto h.1 (fin_part h.1 hx), part_upto h.2 (fin_part h.2 hy)⟩
  cases hV : airOk x y
  · rw [hV] at HC
    go_enter Try.func33, Try.ntmps33
    go_wp2_with (go_at_call 81; ((with_reducible refine (HC.out).mono ?_); rintro e w' ⟨rfl, rfl⟩))
    go_ret2; refine ⟨rfl, ?_⟩; (repeat (first | exact Below.refl _ _ | assumption | refine below_new ?_ _ | refine below_step ?_ (by assumption) | refine Below.drew ?_ | refine below_dn ?_ _ | refine Below.setCell ?_ (by simp <;> omega) _))
  · rw [hV] at HC
    obtain ⟨ux, uy⟩ := HP.out hV
    have HR := Lib.hid (l01Rate_any w.heap.size x y ux uy (w.alloc (.cells #[.float .f32 x, .float .f32 y] 33)) (by simp [go_sem]) (by simp [go_sem]))
    go_enter Try.func33, Try.ntmps33
    go_wp2_with (first | (go_at_call 81; ((with_reducible refine (HC.out).mono ?_); rintro e w' ⟨rfl, rfl⟩)) | (go_at_call 60; ((with_reducible refine (HR.out).mono ?_); rintro e w' ⟨rfl, m, rfl⟩)))
    go_ret2; refine ⟨rfl, ?_⟩; (repeat (first | exact Below.refl _ _ | assumption | refine below_new ?_ _ | refine below_step ?_ (by assumption) | refine Below.drew ?_ | refine below_dn ?_ _ | refine Below.setCell ?_ (by simp <;> omega) _))
theorem impl_RateOf (x y : Nat) (hx : x < 4294967296) (hy : y < 4294967296) (w : World) : Calls Try.prog 32 #[.agg #[.float .f32 x, .float .f32 y]] w (Ret (.tuple #[.float .f32 (rateX x y (airOk x y)), .int .i64 (if airOk x y then 0 else 1)]) w) := by
  have HC := Lib.hid (fun w => impl_ValidAir x y w)
  have HA : Hid (airOk x y = (isPart x && isPart y)) := rfl
  simp only [← HA.out] at HC
  have HP : Hid (airOk x y = true → FL.upto 1 x ∧ FL.upto 1 y) := fun h => by
    unfold airOk at h
    rw [Bool.and_eq_true] at h
    exact ⟨part_upto h.1 (fin_part h.1 hx), part_upto h.2 (fin_part h.2 hy)⟩
  cases hV : airOk x y
  · rw [hV] at HC
    go_enter Try.func32, Try.ntmps32
    go_wp2_with (go_at_call 35; ((with_reducible refine (HC.out _).mono ?_); rintro e w1 ⟨rfl, hb1⟩); obtain ⟨hc1, hf1⟩ := bcell hb1)
    go_ret2; refine ⟨rfl, ?_⟩; (repeat (first | exact Below.refl _ _ | assumption | refine below_new ?_ _ | refine below_step ?_ (by assumption) | refine Below.drew ?_ | refine below_dn ?_ _ | refine Below.setCell ?_ (by simp <;> omega) _))
  · rw [hV] at HC
    obtain ⟨ux, uy⟩ := HP.out hV
    go_enter Try.func32, Try.ntmps32
    go_wp2_with fail; ((with_reducible refine (HC.out _).mono ?_); rintro e w1 ⟨rfl, hb1⟩); obtain ⟨hc1, hf1⟩ := bcell hb1
    have hz1 : w.heap.size < w1.heap.size := by (have := hb1.size; simp at this; omega)
    go_wp2_with fail; ((with_reducible refine (rate_any x y ux uy _).mono ?_); rintro e w2 ⟨rfl, hb2⟩); obtain ⟨hc2, hf2⟩ := bcell hb2
    go_wp2
    go_ret2; refine ⟨rfl, ?_⟩; (repeat (first | exact Below.refl _ _ | assumption | refine below_new ?_ _ | refine below_step ?_ (by assumption) | refine Below.drew ?_ | refine below_dn ?_ _ | refine Below.setCell ?_ (by simp <;> omega) _))
theorem rateX_num {x y : Nat} (hx : x < 4294967296) (hy : y < 4294967296) : FL.num (rateX x y (airOk x y)) := by
  unfold rateX
  split
  case isTrue h =>
    unfold airOk at h
    rw [Bool.and_eq_true] at h
    exact (rateW_upto (part_upto h.1 (fin_part h.1 hx)) (part_upto h.2 (fin_part h.2 hy))).1.num
  case isFalse => exact ⟨by decide, by decide⟩
end Go.Proofs.Ytldbpmpjfiglaaa
