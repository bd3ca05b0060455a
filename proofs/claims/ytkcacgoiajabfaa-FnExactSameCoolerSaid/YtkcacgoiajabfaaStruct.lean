/-
  CONTRACTS of the functions on small structs of floats.
-/
import Derived.Test.YtkcacgoiajabfaaLeaf
set_option linter.unusedVariables false
set_option linter.unusedSimpArgs false
namespace Go.Proofs.Ytkcacgoiajabfaa
open Go.RowKit Go.FV

def fle (a b : Nat) : Bool := ord a b == some .lt || ord a b == some .eq
def fge (a b : Nat) : Bool := ord a b == some .gt || ord a b == some .eq

theorem toAir_any (a b : Nat) (w : World) : Calls Try.prog 27 #[.agg #[.float .f32 a, .float .f32 b]] w (Ret (.agg #[.float .f32 a, .float .f32 b]) w) := by
  go_enter Try.func27, Try.ntmps27
  go_wp2
  refine bodyPost_ret (v := .agg #[.float .f32 a, .float .f32 b]) (by simp [results, Try.results27, go_sem]) rfl ⟨rfl, ?_⟩
  (repeat (first | exact Below.refl _ _ | refine below_new ?_ _ | refine below_step ?_ (by assumption) | refine Below.drew ?_ | refine Below.setCell ?_ (by simp <;> omega) _))
theorem toLook_any (a b c : Nat) (w : World) : Calls Try.prog 30 #[.agg #[.float .f32 a, .float .f32 b, .float .f32 c]] w (Ret (.agg #[.float .f32 a, .float .f32 b, .float .f32 c]) w) := by
  go_enter Try.func30, Try.ntmps30
  go_wp2
  refine bodyPost_ret (v := .agg #[.float .f32 a, .float .f32 b, .float .f32 c]) (by simp [results, Try.results30, go_sem]) rfl ⟨rfl, ?_⟩
  (repeat (first | exact Below.refl _ _ | refine below_new ?_ _ | refine below_step ?_ (by assumption) | refine Below.drew ?_ | refine Below.setCell ?_ (by simp <;> omega) _))
theorem toScale_any (a b c : Nat) (w : World) : Calls Try.prog 24 #[.agg #[.float .f32 a, .float .f32 b, .float .f32 c]] w (Ret (.agg #[.float .f32 a, .float .f32 b, .float .f32 c]) w) := by
  go_enter Try.func24, Try.ntmps24
  go_wp2
  refine bodyPost_ret (v := .agg #[.float .f32 a, .float .f32 b, .float .f32 c]) (by simp [results, Try.results24, go_sem]) rfl ⟨rfl, ?_⟩
  (repeat (first | exact Below.refl _ _ | refine below_new ?_ _ | refine below_step ?_ (by assumption) | refine Below.drew ?_ | refine Below.setCell ?_ (by simp <;> omega) _))
theorem toCooler_any (a b c d : Nat) (w : World) : Calls Try.prog 33 #[.agg #[.float .f32 a, .float .f32 b, .float .f32 c, .float .f32 d]] w (Ret (.agg #[.float .f32 a, .float .f32 b, .float .f32 c, .float .f32 d]) w) := by
  go_enter Try.func33, Try.ntmps33
  go_wp2
  refine bodyPost_ret (v := .agg #[.float .f32 a, .float .f32 b, .float .f32 c, .float .f32 d]) (by simp [results, Try.results33, go_sem]) rfl ⟨rfl, ?_⟩
  (repeat (first | exact Below.refl _ _ | refine below_new ?_ _ | refine below_step ?_ (by assumption) | refine Below.drew ?_ | refine Below.setCell ?_ (by simp <;> omega) _))
theorem spec_l01Air (b : Nat) (x y : Nat) (w : World) (h0 : w.cell? ⟨b, 0, none⟩ = some (.float .f32 x)) (h1 : w.cell? ⟨b, 1, none⟩ = some (.float .f32 y)) :
    Calls Try.prog 49 #[.pointer (some ⟨b, 0, none⟩)] w fun e w' => e = .returned (.bool (isPart x && isPart y)) ∧ w = w' := by
  go_enter Try.func49, Try.ntmps49
  go_wp2_with (go_at_call 42; ((with_reducible refine (spec_l01Part _ _).mono ?_); rintro e w' ⟨rfl, rfl⟩))
  all_goals (go_ret; exact ⟨by simp_all, rfl⟩)
theorem spec_l03Look (b : Nat) (x y z : Nat) (w : World) (h0 : w.cell? ⟨b, 0, none⟩ = some (.float .f32 x)) (h1 : w.cell? ⟨b, 1, none⟩ = some (.float .f32 y)) (h2 : w.cell? ⟨b, 2, none⟩ = some (.float .f32 z)) :
    Calls Try.prog 51 #[.pointer (some ⟨b, 0, none⟩)] w fun e w' => e = .returned (.bool (isPart x && isPart y && isPart z)) ∧ w = w' := by
  go_enter Try.func51, Try.ntmps51
  go_wp2_with (go_at_call 42; ((with_reducible refine (spec_l01Part _ _).mono ?_); rintro e w' ⟨rfl, rfl⟩))
  all_goals (go_ret; exact ⟨by simp_all, rfl⟩)
set_option maxHeartbeats 800000 in
theorem spec_l02Cooler (b : Nat) (x0 x1 x2 x3 : Nat) (w : World) (h0 : w.cell? ⟨b, 0, none⟩ = some (.float .f32 x0)) (h1 : w.cell? ⟨b, 1, none⟩ = some (.float .f32 x1))
    (h2 : w.cell? ⟨b, 2, none⟩ = some (.float .f32 x2)) (h3 : w.cell? ⟨b, 3, none⟩ = some (.float .f32 x3)) :
    Calls Try.prog 52 #[.pointer (some ⟨b, 0, none⟩)] w (Ret (.bool (isPart x0 && isPart x1 && isPart x2 && isPart x3 && fle x0 x1)) w) := by
  go_enter Try.func52, Try.ntmps52
  go_wp2_with fail
  cases p0 : isPart x0
  rotate_left
  cases p1 : isPart x1
  rotate_left
  cases p2 : isPart x2
  rotate_left
  cases p3 : isPart x3
  rotate_left
  all_goals
    go_quiet ((first | (go_at_call 42; with_reducible exact Calls.quiet_of_same (spec_part _ _ p0 _)) | (go_at_call 42; with_reducible exact Calls.quiet_of_same (spec_part _ _ p1 _)) | (go_at_call 42; with_reducible exact Calls.quiet_of_same (spec_part _ _ p2 _)) | (go_at_call 42; with_reducible exact Calls.quiet_of_same (spec_part _ _ p3 _))))
    go_wp2
    go_ret
    exact ⟨by simp [fle, *], bdrew _⟩
def scaleB (x y z : Nat) : Bool := fge x 1015021568 && fle x 1065353216 && fge y x && fle y 1115684864 && isPart z
set_option maxHeartbeats 800000 in
theorem spec_l03Scale (b : Nat) (x y z : Nat) (w : World) (h0 : w.cell? ⟨b, 0, none⟩ = some (.float .f32 x)) (h1 : w.cell? ⟨b, 1, none⟩ = some (.float .f32 y)) (h2 : w.cell? ⟨b, 2, none⟩ = some (.float .f32 z)) :
    Calls Try.prog 48 #[.pointer (some ⟨b, 0, none⟩)] w (Ret (.bool (scaleB x y z)) w) := by
  go_enter Try.func48, Try.ntmps48
  go_wp2_with fail
  cases p0 : (ord x 1015021568 == some .gt || ord x 1015021568 == some .eq)
  rotate_left
  cases p1 : (ord x 1065353216 == some .lt || ord x 1065353216 == some .eq)
  rotate_left
  cases p2 : (ord y x == some .gt || ord y x == some .eq)
  rotate_left
  cases p3 : (ord y 1115684864 == some .lt || ord y 1115684864 == some .eq)
  rotate_left
  all_goals
    go_quiet ((first | (go_at_call 42; with_reducible exact Calls.quiet_of_same (spec_part _ _ rfl _))))
    go_wp2
    go_ret
    exact ⟨by simp_all [scaleB, fge, fle], bdrew _⟩

theorem spec_ValidAir (x y : Nat) (w : World) : Calls Try.prog 26 #[.agg #[.float .f32 x, .float .f32 y]] w (Ret (.bool (isPart x && isPart y)) w) := by
  go_enter Try.func26, Try.ntmps26
  go_wp2_with (go_at_call 49; ((with_reducible refine (spec_l01Air _ x y _ (by simp [go_sem]) (by simp [go_sem])).mono ?_); rintro e w' ⟨rfl, rfl⟩))
  go_ret; refine ⟨rfl, ?_⟩; (repeat (first | exact Below.refl _ _ | refine below_new ?_ _ | refine below_step ?_ (by assumption) | refine Below.drew ?_ | refine Below.setCell ?_ (by simp <;> omega) _))
theorem spec_ValidLook (x y z : Nat) (w : World) : Calls Try.prog 29 #[.agg #[.float .f32 x, .float .f32 y, .float .f32 z]] w (Ret (.bool (isPart x && isPart y && isPart z)) w) := by
  go_enter Try.func29, Try.ntmps29
  go_wp2_with (go_at_call 51; ((with_reducible refine (spec_l03Look _ x y z _ (by simp [go_sem]) (by simp [go_sem]) (by simp [go_sem])).mono ?_); rintro e w' ⟨rfl, rfl⟩))
  go_ret; refine ⟨rfl, ?_⟩; (repeat (first | exact Below.refl _ _ | refine below_new ?_ _ | refine below_step ?_ (by assumption) | refine Below.drew ?_ | refine Below.setCell ?_ (by simp <;> omega) _))
theorem spec_ValidCooler (x y z u : Nat) (w : World) : Calls Try.prog 35 #[.agg #[.float .f32 x, .float .f32 y, .float .f32 z, .float .f32 u]] w (Ret (.bool (isPart x && isPart y && isPart z && isPart u && fle x y)) w) := by
  go_enter Try.func35, Try.ntmps35
  go_wp2_with (go_at_call 52; ((with_reducible refine (spec_l02Cooler _ x y z u _ (by simp [go_sem]) (by simp [go_sem]) (by simp [go_sem]) (by simp [go_sem])).mono ?_); rintro e w1 ⟨rfl, hb1⟩); obtain ⟨hc1, hf1⟩ := bcell hb1)
  go_ret; refine ⟨rfl, Below.trans ?_ (hb1.mono (by simp))⟩; (repeat (first | exact Below.refl _ _ | refine below_new ?_ _ | refine below_step ?_ (by assumption) | refine Below.drew ?_ | refine Below.setCell ?_ (by simp <;> omega) _))
theorem spec_ValidScale (x y z : Nat) (w : World) : Calls Try.prog 23 #[.agg #[.float .f32 x, .float .f32 y, .float .f32 z]] w (Ret (.bool (scaleB x y z)) w) := by
  go_enter Try.func23, Try.ntmps23
  go_wp2_with (go_at_call 48; ((with_reducible refine (spec_l03Scale _ x y z _ (by simp [go_sem]) (by simp [go_sem]) (by simp [go_sem])).mono ?_); rintro e w1 ⟨rfl, hb1⟩); obtain ⟨hc1, hf1⟩ := bcell hb1)
  go_ret; refine ⟨rfl, Below.trans ?_ (hb1.mono (by simp))⟩; (repeat (first | exact Below.refl _ _ | refine below_new ?_ _ | refine below_step ?_ (by assumption) | refine Below.drew ?_ | refine Below.setCell ?_ (by simp <;> omega) _))
theorem impl_ValidScale (x y z : Nat) (w : World) : Calls Try.prog 25 #[.agg #[.float .f32 x, .float .f32 y, .float .f32 z]] w (Ret (.bool (scaleB x y z)) w) := by
  go_enter Try.func25, Try.ntmps25
  go_wp2_with (go_at_call 16; ((with_reducible refine (impl_IsPart _ _).mono ?_); rintro e w' ⟨rfl, rfl⟩))
  all_goals (go_ret; refine ⟨by simp_all [scaleB, fge, fle], ?_⟩; (repeat (first | exact Below.refl _ _ | refine below_new ?_ _ | refine below_step ?_ (by assumption) | refine Below.drew ?_ | refine Below.setCell ?_ (by simp <;> omega) _)))
end Go.Proofs.Ytkcacgoiajabfaa
