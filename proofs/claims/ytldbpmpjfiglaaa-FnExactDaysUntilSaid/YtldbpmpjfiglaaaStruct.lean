/-
  CONTRACTS of the functions on small structs of floats.
-/
import Derived.Test.YtldbpmpjfiglaaaLeaf
set_option linter.unusedVariables false
set_option linter.unusedSimpArgs false
namespace Go.Proofs.Ytldbpmpjfiglaaa
open Go.RowKit Go.FV

def fle (a b : Nat) : Bool := ord a b == some .lt || ord a b == some .eq
def fge (a b : Nat) : Bool := ord a b == some .gt || ord a b == some .eq

theorem toAir_any (a b : Nat) (w : World) : Calls Try.prog 17 #[.agg #[.float .f32 a, .float .f32 b]] w (Ret (.agg #[.float .f32 a, .float .f32 b]) w) := by
  go_enter Try.func17, Try.ntmps17
  go_wp2
  refine bodyPost_ret (v := .agg #[.float .f32 a, .float .f32 b]) (by simp [results, Try.results17, go_sem]) rfl ⟨rfl, ?_⟩
  (repeat (first | exact Below.refl _ _ | assumption | refine below_new ?_ _ | refine below_step ?_ (by assumption) | refine Below.drew ?_ | refine below_dn ?_ _ | refine Below.setCell ?_ (by simp <;> omega) _))
theorem toCooler_any (a b c d : Nat) (w : World) : Calls Try.prog 40 #[.agg #[.float .f32 a, .float .f32 b, .float .f32 c, .float .f32 d]] w (Ret (.agg #[.float .f32 a, .float .f32 b, .float .f32 c, .float .f32 d]) w) := by
  go_enter Try.func40, Try.ntmps40
  go_wp2
  refine bodyPost_ret (v := .agg #[.float .f32 a, .float .f32 b, .float .f32 c, .float .f32 d]) (by simp [results, Try.results40, go_sem]) rfl ⟨rfl, ?_⟩
  (repeat (first | exact Below.refl _ _ | assumption | refine below_new ?_ _ | refine below_step ?_ (by assumption) | refine Below.drew ?_ | refine below_dn ?_ _ | refine Below.setCell ?_ (by simp <;> omega) _))
theorem spec_l01Air (b : Nat) (x y : Nat) (w : World) (h0 : w.cell? ⟨b, 0, none⟩ = some (.float .f32 x)) (h1 : w.cell? ⟨b, 1, none⟩ = some (.float .f32 y)) :
    Calls Try.prog 81 #[.pointer (some ⟨b, 0, none⟩)] w fun e w' => e = .returned (.bool (isPart x && isPart y)) ∧ w = w' := by
  go_enter Try.func81, Try.ntmps81
  go_wp2_with (go_at_call 66; ((with_reducible refine (spec_l01Part _ _).mono ?_); rintro e w' ⟨rfl, rfl⟩))
  all_goals (go_ret; exact ⟨by simp_all, rfl⟩)
set_option maxHeartbeats 800000 in
theorem spec_l02Cooler (b : Nat) (x0 x1 x2 x3 : Nat) (w : World) (h0 : w.cell? ⟨b, 0, none⟩ = some (.float .f32 x0)) (h1 : w.cell? ⟨b, 1, none⟩ = some (.float .f32 x1))
    (h2 : w.cell? ⟨b, 2, none⟩ = some (.float .f32 x2)) (h3 : w.cell? ⟨b, 3, none⟩ = some (.float .f32 x3)) :
    Calls Try.prog 110 #[.pointer (some ⟨b, 0, none⟩)] w (Ret (.bool (isPart x0 && isPart x1 && isPart x2 && isPart x3 && fle x0 x1)) w) := by
  go_enter Try.func110, Try.ntmps110
  go_wp2_with fail
  cases p0 : isPart x0
  rotate_left
  cases p1 : isPart x1
  rotate_left
  cases p2 : isPart x2
  rotate_left
  cases p3 : isPart x3
  rotate_left
  all_goals
    go_quiet ((first | (go_at_call 66; with_reducible exact Calls.quiet_of_same (spec_part _ _ p0 _)) | (go_at_call 66; with_reducible exact Calls.quiet_of_same (spec_part _ _ p1 _)) | (go_at_call 66; with_reducible exact Calls.quiet_of_same (spec_part _ _ p2 _)) | (go_at_call 66; with_reducible exact Calls.quiet_of_same (spec_part _ _ p3 _))))
    go_wp2
    go_ret
    exact ⟨by simp [fle, *], bdrew _⟩

end Go.Proofs.Ytldbpmpjfiglaaa
