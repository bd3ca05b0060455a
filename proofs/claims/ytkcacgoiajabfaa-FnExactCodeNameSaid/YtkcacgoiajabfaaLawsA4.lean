/-
  The program's names of codes are the reference's, for every code.
-/
import Derived.Test.YtkcacgoiajabfaaLeaf
import Derived.Test.YtkcacgoiajabfaaLaw
set_option linter.unusedVariables false
set_option linter.unusedSimpArgs false
namespace Go.Proofs.Ytkcacgoiajabfaa
open Go.ChangeShapes Go.WideShapes Go.ChangeAt Go.RowKit Go.FV

theorem FnExactCodeName_out (n : Int) (h : ¬ (0 ≤ n ∧ n ≤ 8)) (w : World) : Calls Try.prog 7 #[.int .i64 n] w (Yes w) := by
  have h' : decide (0 ≤ n ∧ n ≤ 8) = false := by simpa using h
  have h2 := h
  go_enter Try.func7, Try.ntmps7
  go_wp2_with (first | (go_at_call 46; ((with_reducible refine (spec_l00In _ _ _ _).mono ?_); rintro e w' ⟨rfl, rfl⟩; rw [h'])) | (go_at_call 47; ((with_reducible refine (impl_within _ _ _ _).mono ?_); rintro e w' ⟨rfl, rfl⟩; rw [h'])) | go_in)
  go_ret; refine ⟨rfl, ?_⟩; (repeat (first | exact Below.refl _ _ | assumption | refine below_new ?_ _ | refine below_step ?_ (by assumption) | refine Below.drew ?_ | refine Below.setCell ?_ (by simp <;> omega) _))

set_option maxHeartbeats 1600000 in
theorem FnExactCodeName_in (n : Int) (h : n = 0 ∨ n = 1 ∨ n = 2 ∨ n = 3 ∨ n = 4 ∨ n = 5 ∨ n = 6 ∨ n = 7 ∨ n = 8) (w : World) : Calls Try.prog 7 #[.int .i64 n] w (Yes w) := by
  rcases h with rfl | rfl | rfl | rfl | rfl | rfl | rfl | rfl | rfl
  all_goals
    go_enter Try.func7, Try.ntmps7
    go_wp2
    go_ret; refine ⟨rfl, ?_⟩; (repeat (first | exact Below.refl _ _ | assumption | refine below_new ?_ _ | refine below_step ?_ (by assumption) | refine Below.drew ?_ | refine Below.setCell ?_ (by simp <;> omega) _))

set_option maxRecDepth 100000 in
theorem FnExactCodeName_lifted (os : Os) (started : os.Started) (H : Type) (enc : TypeId × Value → H) :
    ReturnsInHanded {} Try.checked os 7 .any (Rows.fnExactCodeNameSpec.pre6 enc Try.prog Try.f7 Rows.fnExactCodeNameRow.domain false) (Rows.fnExactCodeNameSpec.post enc Try.prog Try.f7 false true false false) := by
  refine law_lifted (C := Try.checked) (b4 := 4) (s := Rows.fnExactCodeNameSpec) os started H enc Try.own Try.laidOut (by kernel_rfl) Try.func7
      (ChangeSpec.witness6 (enc := enc) (C := Try.checked) false ⟨#[], #[.int .i64 0], []⟩ 8 (by kernel_rfl) (by kernel_rfl) (by kernel_rfl) (by kernel_rfl))
      (of_decide_eq_true (by kernel_rfl)) (by kernel_rfl) (by kernel_rfl) rfl (fun ds h => by match ds, h with | [_], _ => rfl) ?_
  intro W base args ds ps hG
  obtain ⟨hval0, hA0, hlt, hsz0⟩ := hG
  have hval : ∀ (j : Nat) t v, Try.f7.params[j]? = some t → args[j]? = some v → Value.okWide Try.prog W .any base t v := hval0
  have hA : DataW.TrodAll enc Try.prog W 0 (fun _ => true) true Try.f7.params.toList args.toList ds ps := hA0
  have hsz : (DataW.weightsEach Try.prog (Try.f7.params.toList ++ Rows.fnExactCodeNameSpec.plain.varTypes Try.prog) (ds ++ [])).all (· ≤ reachBytes) = true := hsz0
  clear hval0 hA0 hsz0
  rw [Try.params7] at hA hval hsz
  obtain ⟨v0, rfl⟩ := args1 (trodAll_length _ _ _ _ hA).2
  obtain ⟨n, rfl, _⟩ := v_int Try.underlying2 (hval 0 _ v0 rfl rfl)
  by_cases h : 0 ≤ n ∧ n ≤ 8
  · exact FnExactCodeName_in n (by omega) W
  · exact FnExactCodeName_out n h W

set_option maxRecDepth 100000 in
theorem FnExactCodeName_holds : Rows.FnExactCodeNameSaid :=
  OpenClaim.holds_of_wide 7 Try.f7 rfl rfl rfl rfl rfl rfl rfl ⟨rfl, rfl, rfl, rfl, rfl⟩ rfl rfl rfl rfl rfl (by kernel_rfl) Try.func7
    (by unfold joinedFacts
        repeat' (with_reducible refine and_tt ?_ ?_)
        all_goals first | with_reducible exact fact_enter | (rw [fact_lifts]; rfl) | ((with_reducible show (Program.make _ == some _) = true); exact fact_make) | kernel_rfl)
    (of_decide_eq_true (by kernel_rfl)) (by unfold Func.isWrapper; first | (rw [if_pos (by decide +kernel)]; kernel_rfl) | (rw [if_neg (by decide +kernel)]; exact ⟨rfl, rfl⟩))
    (fun os started H enc _ => FnExactCodeName_lifted os started H enc)

end Go.Proofs.Ytkcacgoiajabfaa
