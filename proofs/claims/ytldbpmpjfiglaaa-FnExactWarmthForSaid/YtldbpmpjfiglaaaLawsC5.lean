/-
  The warmth that is enough is the one that the reference finds, for all numbers.
-/
import Derived.Test.YtldbpmpjfiglaaaWarmthI
import Derived.Test.YtldbpmpjfiglaaaOpen
set_option linter.unusedVariables false
set_option linter.unusedSimpArgs false
namespace Go.Proofs.Ytldbpmpjfiglaaa
open Go.ChangeShapes Go.WideShapes Go.ChangeAt Go.RowKit Go.FV

set_option maxRecDepth 100000 in
set_option maxHeartbeats 1600000 in
theorem FnExactWarmthFor_walk (x to g : Nat) (n : Int) (bx : x < 4294967296) (bg : g < 4294967296) (w : World) :
    Calls Try.prog 6 #[.float .f32 x, .float .f32 to, .float .f32 g, .int .i64 n] w (Yes w) := by
  have HS := Lib.hid (fun w => spec_WarmthFor x to g n bx bg w)
  have HI := Lib.hid (fun w => impl_WarmthFor x to g n bx bg w)
  have HF : FL.num (warmthX x to g n (isPart x && isPart to && isPart g && stepsB n)) := by
    unfold warmthX
    split
    case isTrue => exact (halves_upto _ 30).2.1.num
    case isFalse => exact ⟨by decide, by decide⟩
  obtain ⟨z, hz⟩ : ∃ z, warmthX x to g n (isPart x && isPart to && isPart g && stepsB n) = z := ⟨_, rfl⟩
  obtain ⟨c, hc⟩ : ∃ c, warmthE x to g n (isPart x && isPart to && isPart g && stepsB n) = c := ⟨_, rfl⟩
  rw [hz] at HF
  simp only [hz, hc] at HS HI
  clear hz hc bx bg
  have hcv := run_cvn z HF
  have HQ := Lib.hid (sameFloat_self (cv z) (cvn_self _ HF))
  clear HF
  go_enter Try.func6, Try.ntmps6
  go_wp2_with fail; ((with_reducible refine (HS.out _).mono ?_); rintro e w2 ⟨rfl, hb2⟩); obtain ⟨hc2, hf2⟩ := bcell hb2
  go_wp2_with fail; ((with_reducible refine (HI.out _).mono ?_); rintro e w4 ⟨rfl, hb4⟩); obtain ⟨hc4, hf4⟩ := bcell hb4
  go_wp2_with (go_at_call 26; ((with_reducible refine (HQ.out _).mono ?_); rintro e w' ⟨rfl, rfl⟩))
  go_ret; refine ⟨rfl, ?_⟩; (repeat (first | exact Below.refl _ _ | assumption | refine below_new ?_ _ | refine below_step ?_ (by assumption) | refine Below.drew ?_ | refine below_dn ?_ _ | refine Below.setCell ?_ (by simp <;> omega) _))

set_option maxRecDepth 100000 in
theorem FnExactWarmthFor_lifted (os : Os) (started : os.Started) (H : Type) (enc : TypeId × Value → H) :
    ReturnsInHanded {} Try.checked os 6 .any (Rows.fnExactWarmthForSpec.pre6 enc Try.prog Try.f6 Rows.fnExactWarmthForRow.domain false) (Rows.fnExactWarmthForSpec.post enc Try.prog Try.f6 false true false false) := by
  refine law_lifted (C := Try.checked) (b4 := 4) (s := Rows.fnExactWarmthForSpec) os started H enc Try.own Try.laidOut (by kernel_rfl) Try.func6
      (ChangeSpec.witness6 (enc := enc) (C := Try.checked) false ⟨#[], #[.float .f32 0, .float .f32 0, .float .f32 0, .int .i64 0], []⟩ 8 (by kernel_rfl) (by kernel_rfl) (by kernel_rfl) (by kernel_rfl))
      (of_decide_eq_true (by kernel_rfl)) (by kernel_rfl) (by kernel_rfl) rfl (fun ds h => by match ds, h with | [_, _, _, _], _ => rfl) ?_
  intro W base args ds ps hG
  obtain ⟨hval0, hA0, hlt, hsz0⟩ := hG
  have hval : ∀ (j : Nat) t v, Try.f6.params[j]? = some t → args[j]? = some v → Value.okWide Try.prog W .any base t v := hval0
  have hA : DataW.TrodAll enc Try.prog W 0 (fun _ => true) true Try.f6.params.toList args.toList ds ps := hA0
  have hsz : (DataW.weightsEach Try.prog (Try.f6.params.toList ++ Rows.fnExactWarmthForSpec.plain.varTypes Try.prog) (ds ++ [])).all (· ≤ reachBytes) = true := hsz0
  clear hval0 hA0 hsz0
  rw [Try.params6] at hA hval hsz
  obtain ⟨v0, v1, v2, v3, rfl⟩ := args4 (trodAll_length _ _ _ _ hA).2
  obtain ⟨x, rfl, hx⟩ := v_float Try.underlying23 (hval 0 _ v0 rfl rfl)
  obtain ⟨to, rfl, _⟩ := v_float Try.underlying23 (hval 1 _ v1 rfl rfl)
  obtain ⟨g, rfl, hg⟩ := v_float Try.underlying23 (hval 2 _ v2 rfl rfl)
  obtain ⟨n, rfl, _⟩ := v_int Try.underlying2 (hval 3 _ v3 rfl rfl)
  exact FnExactWarmthFor_walk x to g n (f32_lt hx) (f32_lt hg) W

set_option maxRecDepth 100000 in
theorem FnExactWarmthFor_holds : Rows.FnExactWarmthForSaid :=
  OpenClaim.holds_of_wide 6 Try.f6 rfl rfl rfl rfl rfl rfl rfl ⟨rfl, rfl, rfl, rfl, rfl⟩ rfl rfl rfl rfl rfl (by kernel_rfl) Try.func6
    (by unfold joinedFacts
        repeat' (with_reducible refine and_tt ?_ ?_)
        all_goals first | with_reducible exact fact_enter | (rw [fact_lifts]; rfl) | ((with_reducible show (Program.make _ == some _) = true); exact fact_make) | kernel_rfl)
    (of_decide_eq_true (by kernel_rfl)) (by unfold Func.isWrapper; first | (rw [if_pos (by decide +kernel)]; kernel_rfl) | (rw [if_neg (by decide +kernel)]; exact ⟨rfl, rfl⟩))
    (fun os started H enc _ => FnExactWarmthFor_lifted os started H enc)

end Go.Proofs.Ytldbpmpjfiglaaa
