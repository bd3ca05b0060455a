/-
  CONTRACTS of the functions on small structs of floats.
-/
import Derived.Test.YtckapidlhhjipaaLeaf
set_option linter.unusedVariables false
set_option linter.unusedSimpArgs false
namespace Go.Proofs.Ytckapidlhhjipaa
open Go.RowKit Go.FV

def fle (a b : Nat) : Bool := ord a b == some .lt || ord a b == some .eq
def fge (a b : Nat) : Bool := ord a b == some .gt || ord a b == some .eq

theorem toAir_any (a b : Nat) (w : World) : Calls Try.prog 16 #[.agg #[.float .f32 a, .float .f32 b]] w (Ret (.agg #[.float .f32 a, .float .f32 b]) w) := by
  go_enter Try.func16, Try.ntmps16
  go_wp2
  refine bodyPost_ret (v := .agg #[.float .f32 a, .float .f32 b]) (by simp [results, Try.results16, go_sem]) rfl ⟨rfl, ?_⟩
  (repeat (first | exact Below.refl _ _ | assumption | refine below_new ?_ _ | refine below_step ?_ (by assumption) | refine Below.drew ?_ | refine below_dn ?_ _ | refine Below.setCell ?_ (by simp <;> omega) _))
theorem toLook_any (a b c : Nat) (w : World) : Calls Try.prog 42 #[.agg #[.float .f32 a, .float .f32 b, .float .f32 c]] w (Ret (.agg #[.float .f32 a, .float .f32 b, .float .f32 c]) w) := by
  go_enter Try.func42, Try.ntmps42
  go_wp2
  refine bodyPost_ret (v := .agg #[.float .f32 a, .float .f32 b, .float .f32 c]) (by simp [results, Try.results42, go_sem]) rfl ⟨rfl, ?_⟩
  (repeat (first | exact Below.refl _ _ | assumption | refine below_new ?_ _ | refine below_step ?_ (by assumption) | refine Below.drew ?_ | refine below_dn ?_ _ | refine Below.setCell ?_ (by simp <;> omega) _))
theorem spec_l01Air (b : Nat) (x y : Nat) (w : World) (h0 : w.cell? ⟨b, 0, none⟩ = some (.float .f32 x)) (h1 : w.cell? ⟨b, 1, none⟩ = some (.float .f32 y)) :
    Calls Try.prog 44 #[.pointer (some ⟨b, 0, none⟩)] w fun e w' => e = .returned (.bool (isPart x && isPart y)) ∧ w = w' := by
  go_enter Try.func44, Try.ntmps44
  go_wp2_with (go_at_call 58; ((with_reducible refine (spec_l01Part _ _).mono ?_); rintro e w' ⟨rfl, rfl⟩))
  all_goals (go_ret; exact ⟨by simp_all, rfl⟩)
theorem spec_l03Look (b : Nat) (x y z : Nat) (w : World) (h0 : w.cell? ⟨b, 0, none⟩ = some (.float .f32 x)) (h1 : w.cell? ⟨b, 1, none⟩ = some (.float .f32 y)) (h2 : w.cell? ⟨b, 2, none⟩ = some (.float .f32 z)) :
    Calls Try.prog 74 #[.pointer (some ⟨b, 0, none⟩)] w fun e w' => e = .returned (.bool (isPart x && isPart y && isPart z)) ∧ w = w' := by
  go_enter Try.func74, Try.ntmps74
  go_wp2_with (go_at_call 58; ((with_reducible refine (spec_l01Part _ _).mono ?_); rintro e w' ⟨rfl, rfl⟩))
  all_goals (go_ret; exact ⟨by simp_all, rfl⟩)

end Go.Proofs.Ytckapidlhhjipaa
