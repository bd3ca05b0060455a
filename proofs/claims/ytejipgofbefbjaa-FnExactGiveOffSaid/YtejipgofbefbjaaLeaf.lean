/-
  CONTRACTS of the small functions on numbers.
-/
import Derived.Test.YtejipgofbefbjaaRows
import Derived.Test.YtejipgofbefbjaaBase
set_option linter.unusedVariables false
set_option linter.unusedSimpArgs false
namespace Go.Proofs.Ytejipgofbefbjaa
open Go.RowKit Go.FV

abbrev ord (a b : Nat) : Option Ordering := FloatKind.f32.format.order a b
/-- A part: at least 0 and at most 1. -/
def isPart (a : Nat) : Bool := (ord a 0 == some .gt || ord a 0 == some .eq) && (ord a 1065353216 == some .lt || ord a 1065353216 == some .eq)
def isPlain (a : Nat) : Bool := (ord a 3380609024 == some .gt || ord a 3380609024 == some .eq) && (ord a 1233125376 == some .lt || ord a 1233125376 == some .eq)
def isNan (a : Nat) : Bool := ord a a != some .eq
/-- The same number. -/
def sameN (a b : Nat) : Bool := if isNan a || isNan b then isNan a && isNan b else ((a : Int) == b)

theorem impl_IsPart (a : Nat) (w : World) : Calls Try.prog 47 #[.float .f32 a] w fun e w' => e = .returned (.bool (isPart a)) ∧ w = w' := by
  go_enter Try.func47, Try.ntmps47
  go_wp2
  all_goals (go_ret; exact ⟨by simp_all [isPart], rfl⟩)
theorem spec_l01Part (a : Nat) (w : World) : Calls Try.prog 52 #[.float .f32 a] w fun e w' => e = .returned (.bool (isPart a)) ∧ w = w' := by
  go_enter Try.func52, Try.ntmps52
  go_wp2
  all_goals (go_ret; exact ⟨by simp_all [isPart], rfl⟩)
theorem spec_part (a : Nat) (v : Bool) (h : isPart a = v) (w : World) : Calls Try.prog 52 #[.float .f32 a] w fun e w' => e = .returned (.bool v) ∧ w' = w := by
  subst h
  exact (spec_l01Part a w).mono fun _ _ ⟨x, y⟩ => ⟨x, y.symm⟩
theorem run_bits (x : Nat) (w : World) : (callFunc 68 #[.float .f32 x]).run Try.prog w = .ok (.value (.int .u32 x)) w := by
  rw [run_callFunc_extern (e := Extern.MathFloatBits.float32bits) Try.func68 (by kernel_rfl) (by kernel_rfl) (by kernel_rfl) (by kernel_rfl)]
  rfl
theorem impl_SameNumber (a b : Nat) (w : World) : Calls Try.prog 48 #[.float .f32 a, .float .f32 b] w fun e w' => e = .returned (.bool (sameN a b)) ∧ w = w' := by
  have hb := run_bits
  go_enter Try.func48, Try.ntmps48
  go_wp2
  all_goals (go_ret; exact ⟨by simp_all [sameN, isNan], rfl⟩)
theorem spec_l01Same (a b : Nat) (w : World) : Calls Try.prog 40 #[.float .f32 a, .float .f32 b] w fun e w' => e = .returned (.bool (sameN a b)) ∧ w = w' := by
  have hb := run_bits
  go_enter Try.func40, Try.ntmps40
  go_wp2
  all_goals (go_ret; exact ⟨by simp_all [sameN, isNan], rfl⟩)
theorem spec_l00In (a b c : Int) (w : World) : Calls Try.prog 82 #[.int .i64 a, .int .i64 b, .int .i64 c] w fun e w' => e = .returned (.bool (decide (b ≤ a) && decide (a ≤ c))) ∧ w = w' := by
  go_enter Try.func82, Try.ntmps82
  go_wp2
  all_goals (go_ret; exact ⟨by simp_all <;> omega, rfl⟩)
theorem impl_within (a b c : Int) (w : World) : Calls Try.prog 73 #[.int .i64 a, .int .i64 b, .int .i64 c] w fun e w' => e = .returned (.bool (decide (b ≤ a) && decide (a ≤ c))) ∧ w = w' := by
  go_enter Try.func73, Try.ntmps73
  go_wp2
  all_goals (go_ret; exact ⟨by simp_all <;> omega, rfl⟩)

end Go.Proofs.Ytejipgofbefbjaa
