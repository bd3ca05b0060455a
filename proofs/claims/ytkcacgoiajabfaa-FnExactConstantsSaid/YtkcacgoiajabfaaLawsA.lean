/-
  The program's small functions on numbers and small structs return what the reference's return, for every argument: IsPart, IsPlain, SameNumber, CodeName, ValidScale, ValidAir, ValidLook, ValidCooler, SameCooler, and the constants.
-/
import Derived.Test.YtkcacgoiajabfaaParts
import Derived.Test.YtkcacgoiajabfaaLaw
namespace Go.Proofs.Ytkcacgoiajabfaa
open Go.ChangeShapes Go.WideShapes Go.ChangeAt Go.RowKit Go.FV

/-! ### constants -/
theorem FnExactConstants_walk (w : World) : Calls Try.prog 3 #[] w (Yes w) := by
  go_enter Try.func3, Try.ntmps3
  go_wp2
  go_ret; refine ⟨rfl, ?_⟩; (repeat (first | exact Below.refl _ _ | refine Below.alloc ?_ (by simp <;> omega) _ | refine Below.setCell ?_ (by simp <;> omega) _ | refine Below.drew ?_))

set_option maxRecDepth 100000 in
theorem FnExactConstants_lifted (os : Os) (started : os.Started) (H : Type) (enc : TypeId × Value → H) :
    ReturnsInHanded {} Try.checked os 3 .any (Rows.fnExactConstantsSpec.pre6 enc Try.prog Try.f3 Rows.fnExactConstantsRow.domain false) (Rows.fnExactConstantsSpec.post enc Try.prog Try.f3 false true false false) := by
  refine law_lifted (C := Try.checked) (b4 := 4) (s := Rows.fnExactConstantsSpec) os started H enc Try.own Try.laidOut (by kernel_rfl) Try.func3
      (ChangeSpec.witness6 (enc := enc) (C := Try.checked) false ⟨#[], #[], []⟩ 8 (by kernel_rfl) (by kernel_rfl) (by kernel_rfl) (by kernel_rfl))
      (of_decide_eq_true (by kernel_rfl)) (by kernel_rfl) (by kernel_rfl) rfl (fun ds h => by match ds, h with | [], _ => rfl) ?_
  intro W base args ds ps hG
  obtain ⟨hval0, hA0, hlt, hsz0⟩ := hG
  have hval : ∀ (j : Nat) t v, Try.f3.params[j]? = some t → args[j]? = some v → Value.okWide Try.prog W .any base t v := hval0
  have hA : DataW.TrodAll enc Try.prog W 0 (fun _ => true) true Try.f3.params.toList args.toList ds ps := hA0
  have hsz : (DataW.weightsEach Try.prog (Try.f3.params.toList ++ Rows.fnExactConstantsSpec.plain.varTypes Try.prog) (ds ++ [])).all (· ≤ reachBytes) = true := hsz0
  clear hval0 hA0 hsz0
  rw [Try.params3] at hA hval hsz
  obtain rfl := args0 (trodAll_length _ _ _ _ hA).2
  exact FnExactConstants_walk W

set_option maxRecDepth 100000 in
theorem FnExactConstants_holds : Rows.FnExactConstantsSaid :=
  OpenClaim.holds_of_wide 3 Try.f3 rfl rfl rfl rfl rfl rfl rfl ⟨rfl, rfl, rfl, rfl, rfl⟩ rfl rfl rfl rfl rfl (by kernel_rfl) Try.func3
    (by unfold joinedFacts
        repeat' (with_reducible refine and_tt ?_ ?_)
        all_goals first | with_reducible exact fact_enter | (rw [fact_lifts]; rfl) | ((with_reducible show (Program.make _ == some _) = true); exact fact_make) | kernel_rfl)
    (of_decide_eq_true (by kernel_rfl)) (by unfold Func.isWrapper; first | (rw [if_pos (by decide +kernel)]; kernel_rfl) | (rw [if_neg (by decide +kernel)]; exact ⟨rfl, rfl⟩))
    (fun os started H enc _ => FnExactConstants_lifted os started H enc)

/-! ### numbers -/
theorem FnExactIsPart_walk (a : Nat) (w : World) : Calls Try.prog 4 #[.float .f32 a] w (Yes w) := by
  go_enter Try.func4, Try.ntmps4
  go_wp2_with (first | (go_at_call 15; ((with_reducible refine (spec_IsPart _ _).mono ?_); rintro e w' ⟨rfl, rfl⟩)) | (go_at_call 16; ((with_reducible refine (impl_IsPart _ _).mono ?_); rintro e w' ⟨rfl, rfl⟩)))
  go_ret; refine ⟨rfl, ?_⟩; (repeat (first | exact Below.refl _ _ | refine Below.alloc ?_ (by simp <;> omega) _ | refine Below.setCell ?_ (by simp <;> omega) _ | refine Below.drew ?_))

set_option maxRecDepth 100000 in
theorem FnExactIsPart_lifted (os : Os) (started : os.Started) (H : Type) (enc : TypeId × Value → H) :
    ReturnsInHanded {} Try.checked os 4 .any (Rows.fnExactIsPartSpec.pre6 enc Try.prog Try.f4 Rows.fnExactIsPartRow.domain false) (Rows.fnExactIsPartSpec.post enc Try.prog Try.f4 false true false false) := by
  refine law_lifted (C := Try.checked) (b4 := 4) (s := Rows.fnExactIsPartSpec) os started H enc Try.own Try.laidOut (by kernel_rfl) Try.func4
      (ChangeSpec.witness6 (enc := enc) (C := Try.checked) false ⟨#[], #[.float .f32 0], []⟩ 8 (by kernel_rfl) (by kernel_rfl) (by kernel_rfl) (by kernel_rfl))
      (of_decide_eq_true (by kernel_rfl)) (by kernel_rfl) (by kernel_rfl) rfl (fun ds h => by match ds, h with | [_], _ => rfl) ?_
  intro W base args ds ps hG
  obtain ⟨hval0, hA0, hlt, hsz0⟩ := hG
  have hval : ∀ (j : Nat) t v, Try.f4.params[j]? = some t → args[j]? = some v → Value.okWide Try.prog W .any base t v := hval0
  have hA : DataW.TrodAll enc Try.prog W 0 (fun _ => true) true Try.f4.params.toList args.toList ds ps := hA0
  have hsz : (DataW.weightsEach Try.prog (Try.f4.params.toList ++ Rows.fnExactIsPartSpec.plain.varTypes Try.prog) (ds ++ [])).all (· ≤ reachBytes) = true := hsz0
  clear hval0 hA0 hsz0
  rw [Try.params4] at hA hval hsz
  obtain ⟨v0, rfl⟩ := args1 (trodAll_length _ _ _ _ hA).2
  obtain ⟨a, rfl, _⟩ := v_float Try.underlying23 (hval 0 _ v0 rfl rfl)
  exact FnExactIsPart_walk a W

set_option maxRecDepth 100000 in
theorem FnExactIsPart_holds : Rows.FnExactIsPartSaid :=
  OpenClaim.holds_of_wide 4 Try.f4 rfl rfl rfl rfl rfl rfl rfl ⟨rfl, rfl, rfl, rfl, rfl⟩ rfl rfl rfl rfl rfl (by kernel_rfl) Try.func4
    (by unfold joinedFacts
        repeat' (with_reducible refine and_tt ?_ ?_)
        all_goals first | with_reducible exact fact_enter | (rw [fact_lifts]; rfl) | ((with_reducible show (Program.make _ == some _) = true); exact fact_make) | kernel_rfl)
    (of_decide_eq_true (by kernel_rfl)) (by unfold Func.isWrapper; first | (rw [if_pos (by decide +kernel)]; kernel_rfl) | (rw [if_neg (by decide +kernel)]; exact ⟨rfl, rfl⟩))
    (fun os started H enc _ => FnExactIsPart_lifted os started H enc)

theorem FnExactIsPlain_walk (a : Nat) (w : World) : Calls Try.prog 5 #[.float .f32 a] w (Yes w) := by
  go_enter Try.func5, Try.ntmps5
  go_wp2_with (first | (go_at_call 17; ((with_reducible refine (spec_IsPlain _ _).mono ?_); rintro e w' ⟨rfl, rfl⟩)) | (go_at_call 18; ((with_reducible refine (impl_IsPlain _ _).mono ?_); rintro e w' ⟨rfl, rfl⟩)))
  go_ret; refine ⟨rfl, ?_⟩; (repeat (first | exact Below.refl _ _ | refine Below.alloc ?_ (by simp <;> omega) _ | refine Below.setCell ?_ (by simp <;> omega) _ | refine Below.drew ?_))

set_option maxRecDepth 100000 in
theorem FnExactIsPlain_lifted (os : Os) (started : os.Started) (H : Type) (enc : TypeId × Value → H) :
    ReturnsInHanded {} Try.checked os 5 .any (Rows.fnExactIsPlainSpec.pre6 enc Try.prog Try.f5 Rows.fnExactIsPlainRow.domain false) (Rows.fnExactIsPlainSpec.post enc Try.prog Try.f5 false true false false) := by
  refine law_lifted (C := Try.checked) (b4 := 4) (s := Rows.fnExactIsPlainSpec) os started H enc Try.own Try.laidOut (by kernel_rfl) Try.func5
      (ChangeSpec.witness6 (enc := enc) (C := Try.checked) false ⟨#[], #[.float .f32 0], []⟩ 8 (by kernel_rfl) (by kernel_rfl) (by kernel_rfl) (by kernel_rfl))
      (of_decide_eq_true (by kernel_rfl)) (by kernel_rfl) (by kernel_rfl) rfl (fun ds h => by match ds, h with | [_], _ => rfl) ?_
  intro W base args ds ps hG
  obtain ⟨hval0, hA0, hlt, hsz0⟩ := hG
  have hval : ∀ (j : Nat) t v, Try.f5.params[j]? = some t → args[j]? = some v → Value.okWide Try.prog W .any base t v := hval0
  have hA : DataW.TrodAll enc Try.prog W 0 (fun _ => true) true Try.f5.params.toList args.toList ds ps := hA0
  have hsz : (DataW.weightsEach Try.prog (Try.f5.params.toList ++ Rows.fnExactIsPlainSpec.plain.varTypes Try.prog) (ds ++ [])).all (· ≤ reachBytes) = true := hsz0
  clear hval0 hA0 hsz0
  rw [Try.params5] at hA hval hsz
  obtain ⟨v0, rfl⟩ := args1 (trodAll_length _ _ _ _ hA).2
  obtain ⟨a, rfl, _⟩ := v_float Try.underlying23 (hval 0 _ v0 rfl rfl)
  exact FnExactIsPlain_walk a W

set_option maxRecDepth 100000 in
theorem FnExactIsPlain_holds : Rows.FnExactIsPlainSaid :=
  OpenClaim.holds_of_wide 5 Try.f5 rfl rfl rfl rfl rfl rfl rfl ⟨rfl, rfl, rfl, rfl, rfl⟩ rfl rfl rfl rfl rfl (by kernel_rfl) Try.func5
    (by unfold joinedFacts
        repeat' (with_reducible refine and_tt ?_ ?_)
        all_goals first | with_reducible exact fact_enter | (rw [fact_lifts]; rfl) | ((with_reducible show (Program.make _ == some _) = true); exact fact_make) | kernel_rfl)
    (of_decide_eq_true (by kernel_rfl)) (by unfold Func.isWrapper; first | (rw [if_pos (by decide +kernel)]; kernel_rfl) | (rw [if_neg (by decide +kernel)]; exact ⟨rfl, rfl⟩))
    (fun os started H enc _ => FnExactIsPlain_lifted os started H enc)

theorem FnExactSameNumber_walk (a b : Nat) (w : World) : Calls Try.prog 6 #[.float .f32 a, .float .f32 b] w (Yes w) := by
  go_enter Try.func6, Try.ntmps6
  go_wp2_with (first | (go_at_call 19; ((with_reducible refine (spec_SameNumber _ _ _).mono ?_); rintro e w' ⟨rfl, rfl⟩)) | (go_at_call 20; ((with_reducible refine (impl_SameNumber _ _ _).mono ?_); rintro e w' ⟨rfl, rfl⟩)))
  go_ret; refine ⟨rfl, ?_⟩; (repeat (first | exact Below.refl _ _ | refine Below.alloc ?_ (by simp <;> omega) _ | refine Below.setCell ?_ (by simp <;> omega) _ | refine Below.drew ?_))

set_option maxRecDepth 100000 in
theorem FnExactSameNumber_lifted (os : Os) (started : os.Started) (H : Type) (enc : TypeId × Value → H) :
    ReturnsInHanded {} Try.checked os 6 .any (Rows.fnExactSameNumberSpec.pre6 enc Try.prog Try.f6 Rows.fnExactSameNumberRow.domain false) (Rows.fnExactSameNumberSpec.post enc Try.prog Try.f6 false true false false) := by
  refine law_lifted (C := Try.checked) (b4 := 4) (s := Rows.fnExactSameNumberSpec) os started H enc Try.own Try.laidOut (by kernel_rfl) Try.func6
      (ChangeSpec.witness6 (enc := enc) (C := Try.checked) false ⟨#[], #[.float .f32 0, .float .f32 0], []⟩ 8 (by kernel_rfl) (by kernel_rfl) (by kernel_rfl) (by kernel_rfl))
      (of_decide_eq_true (by kernel_rfl)) (by kernel_rfl) (by kernel_rfl) rfl (fun ds h => by match ds, h with | [_, _], _ => rfl) ?_
  intro W base args ds ps hG
  obtain ⟨hval0, hA0, hlt, hsz0⟩ := hG
  have hval : ∀ (j : Nat) t v, Try.f6.params[j]? = some t → args[j]? = some v → Value.okWide Try.prog W .any base t v := hval0
  have hA : DataW.TrodAll enc Try.prog W 0 (fun _ => true) true Try.f6.params.toList args.toList ds ps := hA0
  have hsz : (DataW.weightsEach Try.prog (Try.f6.params.toList ++ Rows.fnExactSameNumberSpec.plain.varTypes Try.prog) (ds ++ [])).all (· ≤ reachBytes) = true := hsz0
  clear hval0 hA0 hsz0
  rw [Try.params6] at hA hval hsz
  obtain ⟨v0, v1, rfl⟩ := args2 (trodAll_length _ _ _ _ hA).2
  obtain ⟨a, rfl, _⟩ := v_float Try.underlying23 (hval 0 _ v0 rfl rfl)
  obtain ⟨b, rfl, _⟩ := v_float Try.underlying23 (hval 1 _ v1 rfl rfl)
  exact FnExactSameNumber_walk a b W

set_option maxRecDepth 100000 in
theorem FnExactSameNumber_holds : Rows.FnExactSameNumberSaid :=
  OpenClaim.holds_of_wide 6 Try.f6 rfl rfl rfl rfl rfl rfl rfl ⟨rfl, rfl, rfl, rfl, rfl⟩ rfl rfl rfl rfl rfl (by kernel_rfl) Try.func6
    (by unfold joinedFacts
        repeat' (with_reducible refine and_tt ?_ ?_)
        all_goals first | with_reducible exact fact_enter | (rw [fact_lifts]; rfl) | ((with_reducible show (Program.make _ == some _) = true); exact fact_make) | kernel_rfl)
    (of_decide_eq_true (by kernel_rfl)) (by unfold Func.isWrapper; first | (rw [if_pos (by decide +kernel)]; kernel_rfl) | (rw [if_neg (by decide +kernel)]; exact ⟨rfl, rfl⟩))
    (fun os started H enc _ => FnExactSameNumber_lifted os started H enc)

end Go.Proofs.Ytkcacgoiajabfaa
