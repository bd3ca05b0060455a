/-
  The steps of a cooler are the reference's, for every cooler, warmth, state and number of steps.
-/
import Derived.Test.YtldbpmpjfiglaaaStepsN
import Derived.Test.YtldbpmpjfiglaaaOpen
set_option linter.unusedVariables false
set_option linter.unusedSimpArgs false
namespace Go.Proofs.Ytldbpmpjfiglaaa
open Go.ChangeShapes Go.WideShapes Go.ChangeAt Go.RowKit Go.FV

set_option maxRecDepth 100000 in
set_option maxHeartbeats 1600000 in
theorem FnExactCoolSteps_walk (l h p k x o : Nat) (on : Bool) (n : Int) (bp : p < 4294967296) (bk : k < 4294967296) (bx : x < 4294967296) (bo : o < 4294967296) (w : World) :
    Calls Try.prog 10 #[.agg #[.float .f32 l, .float .f32 h, .float .f32 p, .float .f32 k], .float .f32 x, .float .f32 o, .bool on, .int .i64 n] w (Yes w) := by
  have HS := Lib.hid (fun w => spec_CoolSteps l h p k x o on n bp bk bx bo w)
  have HI := Lib.hid (fun w => impl_CoolSteps l h p k x o on n bp bk bx bo w)
  have HF : FL.num (warmX l h p k o x on n (coolerB l h p k) (isPart x && isPart o && stepsB n)) := by
    unfold warmX
    split
    case isTrue hh =>
      simp only [Bool.and_eq_true] at hh
      obtain ⟨u1, u2⟩ := coolerB_upto hh.1 bp bk
      exact (coolP_upto (l := l) (h := h) (on := on) u1 u2 (part_upto hh.2.1.2 (fin_part hh.2.1.2 bo)) (upto_two (part_upto hh.2.1.1 (fin_part hh.2.1.1 bx))) n.toNat).1.num
    case isFalse => exact ⟨by decide, by decide⟩
  obtain ⟨z, hz⟩ : ∃ z, warmX l h p k o x on n (coolerB l h p k) (isPart x && isPart o && stepsB n) = z := ⟨_, rfl⟩
  obtain ⟨N, hN⟩ : ∃ N, onX l h p k o x on n (coolerB l h p k) (isPart x && isPart o && stepsB n) = N := ⟨_, rfl⟩
  obtain ⟨m, hm⟩ : ∃ m, countX l h p k o x on n (coolerB l h p k) (isPart x && isPart o && stepsB n) = m := ⟨_, rfl⟩
  obtain ⟨c, hc⟩ : ∃ c, asked (coolerB l h p k) (isPart x && isPart o && stepsB n) = c := ⟨_, rfl⟩
  rw [hz] at HF
  simp only [hz, hN, hm, hc] at HS HI
  clear hz hc hm hN bp bk bx bo
  have hcv := run_cvn z HF
  have HQ := Lib.hid (sameFloat_self (cv z) (cvn_self _ HF))
  clear HF
  go_enter Try.func10, Try.ntmps10
  go_wp2_with fail; ((with_reducible refine (toCooler_any _ _ _ _ _).mono ?_); rintro e w1 ⟨rfl, hb1⟩); obtain ⟨hc1, hf1⟩ := bcell hb1
  have hz1 : w.heap.size < w1.heap.size := by (have := hb1.size; simp at this; omega)
  go_wp2_with fail; ((with_reducible refine (HS.out _).mono ?_); rintro e w2 ⟨rfl, hb2⟩); obtain ⟨hc2, hf2⟩ := bcell hb2
  have hz2 : w.heap.size < w2.heap.size := Nat.lt_of_lt_of_le hz1 hb2.size
  go_wp2_with fail; ((with_reducible refine (toCooler_any _ _ _ _ _).mono ?_); rintro e w3 ⟨rfl, hb3⟩); obtain ⟨hc3, hf3⟩ := bcell hb3
  have hz3 : w.heap.size < w3.heap.size := Nat.lt_of_lt_of_le hz2 hb3.size
  go_wp2_with fail; ((with_reducible refine (HI.out _).mono ?_); rintro e w4 ⟨rfl, hb4⟩); obtain ⟨hc4, hf4⟩ := bcell hb4
  go_wp2_with (go_at_call 26; ((with_reducible refine (HQ.out _).mono ?_); rintro e w' ⟨rfl, rfl⟩))
  go_ret; refine ⟨rfl, ?_⟩; (repeat (first | exact Below.refl _ _ | assumption | refine below_new ?_ _ | refine below_step ?_ (by assumption) | refine Below.drew ?_ | refine below_dn ?_ _ | refine Below.setCell ?_ (by simp <;> omega) _))

set_option maxRecDepth 100000 in
theorem FnExactCoolSteps_lifted (os : Os) (started : os.Started) (H : Type) (enc : TypeId × Value → H) :
    ReturnsInHanded {} Try.checked os 10 .any (Rows.fnExactCoolStepsSpec.pre6 enc Try.prog Try.f10 Rows.fnExactCoolStepsRow.domain false) (Rows.fnExactCoolStepsSpec.post enc Try.prog Try.f10 false true false false) := by
  refine law_lifted (C := Try.checked) (b4 := 4) (s := Rows.fnExactCoolStepsSpec) os started H enc Try.own Try.laidOut (by kernel_rfl) Try.func10
      (ChangeSpec.witness6 (enc := enc) (C := Try.checked) false ⟨#[], #[.agg #[.float .f32 0, .float .f32 0, .float .f32 0, .float .f32 0], .float .f32 0, .float .f32 0, .bool false, .int .i64 0], []⟩ 8 (by kernel_rfl) (by kernel_rfl) (by kernel_rfl) (by kernel_rfl))
      (of_decide_eq_true (by kernel_rfl)) (by kernel_rfl) (by kernel_rfl) rfl (fun ds h => by match ds, h with | [_, _, _, _, _], _ => rfl) ?_
  intro W base args ds ps hG
  obtain ⟨hval0, hA0, hlt, hsz0⟩ := hG
  have hval : ∀ (j : Nat) t v, Try.f10.params[j]? = some t → args[j]? = some v → Value.okWide Try.prog W .any base t v := hval0
  have hA : DataW.TrodAll enc Try.prog W 0 (fun _ => true) true Try.f10.params.toList args.toList ds ps := hA0
  have hsz : (DataW.weightsEach Try.prog (Try.f10.params.toList ++ Rows.fnExactCoolStepsSpec.plain.varTypes Try.prog) (ds ++ [])).all (· ≤ reachBytes) = true := hsz0
  clear hval0 hA0 hsz0
  rw [Try.params10] at hA hval hsz
  obtain ⟨v0, v1, v2, v3, v4, rfl⟩ := args5 (trodAll_length _ _ _ _ hA).2
  obtain ⟨l, hl, rfl, hb⟩ := open_fl (m := 4) (by kernel_rfl) (by kernel_rfl) (by kernel_rfl) (hval 0 _ v0 rfl rfl)
  obtain ⟨a, b, c, d, rfl⟩ := list4 hl
  obtain ⟨x, rfl, hx⟩ := v_float Try.underlying23 (hval 1 _ v1 rfl rfl)
  obtain ⟨o, rfl, ho⟩ := v_float Try.underlying23 (hval 2 _ v2 rfl rfl)
  obtain ⟨on, rfl⟩ := v_bool Try.underlying4 (hval 3 _ v3 rfl rfl)
  obtain ⟨n, rfl, _⟩ := v_int Try.underlying2 (hval 4 _ v4 rfl rfl)
  exact FnExactCoolSteps_walk a b c d x o on n (hb 2) (hb 3) (f32_lt hx) (f32_lt ho) W

set_option maxRecDepth 100000 in
theorem FnExactCoolSteps_holds : Rows.FnExactCoolStepsSaid :=
  OpenClaim.holds_of_wide 10 Try.f10 rfl rfl rfl rfl rfl rfl rfl ⟨rfl, rfl, rfl, rfl, rfl⟩ rfl rfl rfl rfl rfl (by kernel_rfl) Try.func10
    (by unfold joinedFacts
        repeat' (with_reducible refine and_tt ?_ ?_)
        all_goals first | with_reducible exact fact_enter | (rw [fact_lifts]; rfl) | ((with_reducible show (Program.make _ == some _) = true); exact fact_make) | kernel_rfl)
    (of_decide_eq_true (by kernel_rfl)) (by unfold Func.isWrapper; first | (rw [if_pos (by decide +kernel)]; kernel_rfl) | (rw [if_neg (by decide +kernel)]; exact ⟨rfl, rfl⟩))
    (fun os started H enc _ => FnExactCoolSteps_lifted os started H enc)

end Go.Proofs.Ytldbpmpjfiglaaa
