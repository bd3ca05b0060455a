/-
  CONTRACTS of the small functions on numbers.
-/
import Derived.Test.YtkcacgoiajabfaaRows
import Derived.Test.YtkcacgoiajabfaaBase
set_option linter.unusedVariables false
set_option linter.unusedSimpArgs false
namespace Go.Proofs.Ytkcacgoiajabfaa
open Go.RowKit Go.FV

abbrev ord (a b : Nat) : Option Ordering := FloatKind.f32.format.order a b
/-- A part: at least 0 and at most 1. -/
def isPart (a : Nat) : Bool := (ord a 0 == some .gt || ord a 0 == some .eq) && (ord a 1065353216 == some .lt || ord a 1065353216 == some .eq)
def isPlain (a : Nat) : Bool := (ord a 3380609024 == some .gt || ord a 3380609024 == some .eq) && (ord a 1233125376 == some .lt || ord a 1233125376 == some .eq)
def isNan (a : Nat) : Bool := ord a a != some .eq
/-- The same number. -/
def sameN (a b : Nat) : Bool := if isNan a || isNan b then isNan a && isNan b else ((a : Int) == b)

theorem impl_IsPart (a : Nat) (w : World) : Calls Try.prog 16 #[.float .f32 a] w fun e w' => e = .returned (.bool (isPart a)) ∧ w = w' := by
  go_enter Try.func16, Try.ntmps16
  go_wp2
  all_goals (go_ret; exact ⟨by simp_all [isPart], rfl⟩)
theorem spec_l01Part (a : Nat) (w : World) : Calls Try.prog 42 #[.float .f32 a] w fun e w' => e = .returned (.bool (isPart a)) ∧ w = w' := by
  go_enter Try.func42, Try.ntmps42
  go_wp2
  all_goals (go_ret; exact ⟨by simp_all [isPart], rfl⟩)
theorem spec_part (a : Nat) (v : Bool) (h : isPart a = v) (w : World) : Calls Try.prog 42 #[.float .f32 a] w fun e w' => e = .returned (.bool v) ∧ w' = w := by
  subst h
  exact (spec_l01Part a w).mono fun _ _ ⟨x, y⟩ => ⟨x, y.symm⟩
theorem spec_IsPart (a : Nat) (w : World) : Calls Try.prog 15 #[.float .f32 a] w fun e w' => e = .returned (.bool (isPart a)) ∧ w = w' := by
  go_enter Try.func15, Try.ntmps15
  go_wp2_with (go_at_call 42; refine (spec_l01Part _ _).mono ?_; rintro e w' ⟨rfl, rfl⟩)
  go_ret; exact ⟨rfl, rfl⟩
theorem impl_IsPlain (a : Nat) (w : World) : Calls Try.prog 18 #[.float .f32 a] w fun e w' => e = .returned (.bool (isPlain a)) ∧ w = w' := by
  go_enter Try.func18, Try.ntmps18
  go_wp2
  all_goals (go_ret; exact ⟨by simp_all [isPlain], rfl⟩)
theorem spec_l01Plain (a : Nat) (w : World) : Calls Try.prog 43 #[.float .f32 a] w fun e w' => e = .returned (.bool (isPlain a)) ∧ w = w' := by
  go_enter Try.func43, Try.ntmps43
  go_wp2
  all_goals (go_ret; exact ⟨by simp_all [isPlain], rfl⟩)
theorem spec_IsPlain (a : Nat) (w : World) : Calls Try.prog 17 #[.float .f32 a] w fun e w' => e = .returned (.bool (isPlain a)) ∧ w = w' := by
  go_enter Try.func17, Try.ntmps17
  go_wp2_with (go_at_call 43; refine (spec_l01Plain _ _).mono ?_; rintro e w' ⟨rfl, rfl⟩)
  go_ret; exact ⟨rfl, rfl⟩
theorem run_bits (x : Nat) (w : World) : (callFunc 45 #[.float .f32 x]).run Try.prog w = .ok (.value (.int .u32 x)) w := by
  rw [run_callFunc_extern (e := Extern.MathFloatBits.float32bits) Try.func45 (by kernel_rfl) (by kernel_rfl) (by kernel_rfl) (by kernel_rfl)]
  rfl
theorem impl_SameNumber (a b : Nat) (w : World) : Calls Try.prog 20 #[.float .f32 a, .float .f32 b] w fun e w' => e = .returned (.bool (sameN a b)) ∧ w = w' := by
  have hb := run_bits
  go_enter Try.func20, Try.ntmps20
  go_wp2
  all_goals (go_ret; exact ⟨by simp_all [sameN, isNan], rfl⟩)
theorem spec_l01Same (a b : Nat) (w : World) : Calls Try.prog 44 #[.float .f32 a, .float .f32 b] w fun e w' => e = .returned (.bool (sameN a b)) ∧ w = w' := by
  have hb := run_bits
  go_enter Try.func44, Try.ntmps44
  go_wp2
  all_goals (go_ret; exact ⟨by simp_all [sameN, isNan], rfl⟩)
theorem spec_SameNumber (a b : Nat) (w : World) : Calls Try.prog 19 #[.float .f32 a, .float .f32 b] w fun e w' => e = .returned (.bool (sameN a b)) ∧ w = w' := by
  go_enter Try.func19, Try.ntmps19
  go_wp2_with (go_at_call 44; refine (spec_l01Same _ _ _).mono ?_; rintro e w' ⟨rfl, rfl⟩)
  go_ret; exact ⟨rfl, rfl⟩
theorem spec_l00In (a b c : Int) (w : World) : Calls Try.prog 46 #[.int .i64 a, .int .i64 b, .int .i64 c] w fun e w' => e = .returned (.bool (decide (b ≤ a) && decide (a ≤ c))) ∧ w = w' := by
  go_enter Try.func46, Try.ntmps46
  go_wp2
  all_goals (go_ret; exact ⟨by simp_all <;> omega, rfl⟩)
theorem impl_within (a b c : Int) (w : World) : Calls Try.prog 47 #[.int .i64 a, .int .i64 b, .int .i64 c] w fun e w' => e = .returned (.bool (decide (b ≤ a) && decide (a ≤ c))) ∧ w = w' := by
  go_enter Try.func47, Try.ntmps47
  go_wp2
  all_goals (go_ret; exact ⟨by simp_all <;> omega, rfl⟩)

end Go.Proofs.Ytkcacgoiajabfaa
