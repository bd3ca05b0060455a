/-
  The power that is enough is the one that the reference finds, for every cooler and all numbers.
-/
import Derived.Test.YtldbpmpjfiglaaaPowerI
import Derived.Test.YtldbpmpjfiglaaaOpen
set_option linter.unusedVariables false
set_option linter.unusedSimpArgs false
namespace Go.Proofs.Ytldbpmpjfiglaaa
open Go.ChangeShapes Go.WideShapes Go.ChangeAt Go.RowKit Go.FV

set_option maxRecDepth 100000 in
set_option maxHeartbeats 1600000 in
theorem FnExactPowerFor_walk (l u p k x o wt : Nat) (n : Int) (bp : p < 4294967296) (bk : k < 4294967296) (bx : x < 4294967296) (bo : o < 4294967296) (bt : wt < 4294967296) (w : World) :
    Calls Try.prog 11 #[.agg #[.float .f32 l, .float .f32 u, .float .f32 p, .float .f32 k], .float .f32 x, .float .f32 o, .float .f32 wt, .int .i64 n] w (Yes w) := by
  have HS := Lib.hid (fun w => spec_PowerFor l u p k x o wt n bp bk bx bo bt w)
  have HI := Lib.hid (fun w => impl_PowerFor l u p k x o wt n bp bk bx bo w)
  have HF : FL.num (powerX l u k o x wt n (coolerB l u p k) (isPart x && isPart o && isPart wt && stepsB n)) := by
    unfold powerX
    split
    case isTrue => exact (halves_upto _ 30).2.1.num
    case isFalse => exact ⟨by decide, by decide⟩
  obtain ⟨z, hz⟩ : ∃ z, powerX l u k o x wt n (coolerB l u p k) (isPart x && isPart o && isPart wt && stepsB n) = z := ⟨_, rfl⟩
  obtain ⟨c, hc⟩ : ∃ c, powerE l u k o x wt n (coolerB l u p k) (isPart x && isPart o && isPart wt && stepsB n) = c := ⟨_, rfl⟩
  rw [hz] at HF
  simp only [hz, hc] at HS HI
  clear hz hc bp bk bx bo bt
  have hcv := run_cvn z HF
  have HQ := Lib.hid (sameFloat_self (cv z) (cvn_self _ HF))
  clear HF
  go_enter Try.func11, Try.ntmps11
  go_wp2_with fail; ((with_reducible refine (toCooler_any _ _ _ _ _).mono ?_); rintro e w1 ⟨rfl, hb1⟩); obtain ⟨hc1, hf1⟩ := bcell hb1
  have hz1 : w.heap.size < w1.heap.size := by (have := hb1.size; simp at this; omega)
  go_wp2_with fail; ((with_reducible refine (HS.out _).mono ?_); rintro e w2 ⟨rfl, hb2⟩); obtain ⟨hc2, hf2⟩ := bcell hb2
  have hz2 : w.heap.size < w2.heap.size := Nat.lt_of_lt_of_le hz1 hb2.size
  go_wp2_with fail; ((with_reducible refine (toCooler_any _ _ _ _ _).mono ?_); rintro e w3 ⟨rfl, hb3⟩); obtain ⟨hc3, hf3⟩ := bcell hb3
  have hz3 : w.heap.size < w3.heap.size := Nat.lt_of_lt_of_le hz2 hb3.size
  go_wp2_with fail; ((with_reducible refine (HI.out _).mono ?_); rintro e w4 ⟨rfl, hb4⟩); obtain ⟨hc4, hf4⟩ := bcell hb4
  go_wp2_with (go_at_call 26; ((with_reducible refine (HQ.out _).mono ?_); rintro e w' ⟨rfl, rfl⟩))
  go_ret; refine ⟨rfl, ?_⟩; (repeat (first | exact Below.refl _ _ | assumption | refine below_new ?_ _ | refine below_step ?_ (by assumption) | refine Below.drew ?_ | refine below_dn ?_ _ | refine Below.setCell ?_ (by simp <;> omega) _))

set_option maxRecDepth 100000 in
theorem FnExactPowerFor_lifted (os : Os) (started : os.Started) (H : Type) (enc : TypeId × Value → H) :
    ReturnsInHanded {} Try.checked os 11 .any (Rows.fnExactPowerForSpec.pre6 enc Try.prog Try.f11 Rows.fnExactPowerForRow.domain false) (Rows.fnExactPowerForSpec.post enc Try.prog Try.f11 false true false false) := by
  refine law_lifted (C := Try.checked) (b4 := 4) (s := Rows.fnExactPowerForSpec) os started H enc Try.own Try.laidOut (by kernel_rfl) Try.func11
      (ChangeSpec.witness6 (enc := enc) (C := Try.checked) false ⟨#[], #[.agg #[.float .f32 0, .float .f32 0, .float .f32 0, .float .f32 0], .float .f32 0, .float .f32 0, .float .f32 0, .int .i64 0], []⟩ 8 (by kernel_rfl) (by kernel_rfl) (by kernel_rfl) (by kernel_rfl))
      (of_decide_eq_true (by kernel_rfl)) (by kernel_rfl) (by kernel_rfl) rfl (fun ds h => by match ds, h with | [_, _, _, _, _], _ => rfl) ?_
  intro W base args ds ps hG
  obtain ⟨hval0, hA0, hlt, hsz0⟩ := hG
  have hval : ∀ (j : Nat) t v, Try.f11.params[j]? = some t → args[j]? = some v → Value.okWide Try.prog W .any base t v := hval0
  have hA : DataW.TrodAll enc Try.prog W 0 (fun _ => true) true Try.f11.params.toList args.toList ds ps := hA0
  have hsz : (DataW.weightsEach Try.prog (Try.f11.params.toList ++ Rows.fnExactPowerForSpec.plain.varTypes Try.prog) (ds ++ [])).all (· ≤ reachBytes) = true := hsz0
  clear hval0 hA0 hsz0
  rw [Try.params11] at hA hval hsz
  obtain ⟨v0, v1, v2, v3, v4, rfl⟩ := args5 (trodAll_length _ _ _ _ hA).2
  obtain ⟨l, hl, rfl, hb⟩ := open_fl (m := 4) (by kernel_rfl) (by kernel_rfl) (by kernel_rfl) (hval 0 _ v0 rfl rfl)
  obtain ⟨a, b, c, d, rfl⟩ := list4 hl
  obtain ⟨x, rfl, hx⟩ := v_float Try.underlying23 (hval 1 _ v1 rfl rfl)
  obtain ⟨o, rfl, ho⟩ := v_float Try.underlying23 (hval 2 _ v2 rfl rfl)
  obtain ⟨wt, rfl, ht⟩ := v_float Try.underlying23 (hval 3 _ v3 rfl rfl)
  obtain ⟨n, rfl, _⟩ := v_int Try.underlying2 (hval 4 _ v4 rfl rfl)
  exact FnExactPowerFor_walk a b c d x o wt n (hb 2) (hb 3) (f32_lt hx) (f32_lt ho) (f32_lt ht) W

set_option maxRecDepth 100000 in
theorem FnExactPowerFor_holds : Rows.FnExactPowerForSaid :=
  OpenClaim.holds_of_wide 11 Try.f11 rfl rfl rfl rfl rfl rfl rfl ⟨rfl, rfl, rfl, rfl, rfl⟩ rfl rfl rfl rfl rfl (by kernel_rfl) Try.func11
    (by unfold joinedFacts
        repeat' (with_reducible refine and_tt ?_ ?_)
        all_goals first | with_reducible exact fact_enter | (rw [fact_lifts]; rfl) | ((with_reducible show (Program.make _ == some _) = true); exact fact_make) | kernel_rfl)
    (of_decide_eq_true (by kernel_rfl)) (by unfold Func.isWrapper; first | (rw [if_pos (by decide +kernel)]; kernel_rfl) | (rw [if_neg (by decide +kernel)]; exact ⟨rfl, rfl⟩))
    (fun os started H enc _ => FnExactPowerFor_lifted os started H enc)

end Go.Proofs.Ytldbpmpjfiglaaa
