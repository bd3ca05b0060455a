/-
  The rate of air is the reference's, for all air.
-/
import Derived.Test.YtckapidlhhjipaaRate
import Derived.Test.YtckapidlhhjipaaLaw
set_option linter.unusedVariables false
set_option linter.unusedSimpArgs false
namespace Go.Proofs.Ytckapidlhhjipaa
open Go.ChangeShapes Go.WideShapes Go.ChangeAt Go.RowKit Go.FV

set_option maxRecDepth 100000 in
theorem open_air {W : World} {r : Reach} {base : Nat} {v : Value} (h : Value.okWide Try.prog W r base 24 v) :
    ∃ x y : Nat, v = .agg #[.float .f32 x, .float .f32 y] ∧ x < 4294967296 ∧ y < 4294967296 := by
  obtain ⟨cs, rfl, h2, h3⟩ := cells_of_okWide (ts := [22, 22]) (by kernel_rfl) (by kernel_rfl) h
  rw [show Try.prog.cellsOf 24 = 2 by kernel_rfl] at h2
  have at_ : ∀ i, i < 2 → ∃ b, cs[i]? = some (.float .f32 b) ∧ b < 4294967296 := fun i hi => by
    have hlt : i < cs.size := by omega
    obtain ⟨u', hu', hok⟩ := h3 i cs[i] (by simp [hlt])
    have hu : [22, 22][i % [22, 22].length]? = some 22 := by
      rcases (show i = 0 ∨ i = 1 by omega) with rfl | rfl <;> rfl
    rw [hu] at hu'
    cases hu'
    obtain ⟨b, hb, wb⟩ := cell_float Try.underlying22 hok
    exact ⟨b, by rw [← hb]; simp [hlt], f32_lt wb⟩
  obtain ⟨x, ex, hx⟩ := at_ 0 (by omega)
  obtain ⟨y, ey, hy⟩ := at_ 1 (by omega)
  refine ⟨x, y, ?_, hx, hy⟩
  congr 1
  apply Array.ext_getElem?; intro i
  by_cases hi : i < 2
  · rcases (show i = 0 ∨ i = 1 by omega) with rfl | rfl
    · rw [ex]; rfl
    · rw [ey]; rfl
  · rw [Array.getElem?_eq_none (by omega), Array.getElem?_eq_none (by simp; omega)]

set_option maxHeartbeats 1600000 in
theorem FnExactRateOf_walk (x y : Nat) (hx : x < 4294967296) (hy : y < 4294967296) (w : World) : Calls Try.prog 3 #[.agg #[.float .f32 x, .float .f32 y]] w (Yes w) := by
  have HS := Lib.hid (fun w => spec_RateOf x y hx hy w)
  have HI := Lib.hid (fun w => impl_RateOf x y hx hy w)
  have HF := Lib.hid (rateX_num hx hy)
  obtain ⟨z, hz⟩ : ∃ z, rateX x y (airOk x y) = z := ⟨_, rfl⟩
  obtain ⟨c, hc⟩ : ∃ c : Int, (if airOk x y then 0 else 1) = c := ⟨_, rfl⟩
  rw [hz] at HF
  simp only [hz, hc] at HS HI
  clear hz hc
  have hcv := run_cvn z HF.out
  have HQ := Lib.hid (sameFloat_self (cv z) (cvn_self _ HF.out))
  go_enter Try.func3, Try.ntmps3
  go_wp2_with fail; ((with_reducible refine (toAir_any _ _ _).mono ?_); rintro e w1 ⟨rfl, hb1⟩); obtain ⟨hc1, hf1⟩ := bcell hb1
  have hz1 : w.heap.size < w1.heap.size := by (have := hb1.size; simp at this; omega)
  go_wp2_with fail; ((with_reducible refine (HS.out _).mono ?_); rintro e w2 ⟨rfl, hb2⟩); obtain ⟨hc2, hf2⟩ := bcell hb2
  have hz2 : w.heap.size < w2.heap.size := Nat.lt_of_lt_of_le hz1 hb2.size
  go_wp2_with fail; ((with_reducible refine (toAir_any _ _ _).mono ?_); rintro e w3 ⟨rfl, hb3⟩); obtain ⟨hc3, hf3⟩ := bcell hb3
  have hz3 : w.heap.size < w3.heap.size := Nat.lt_of_lt_of_le hz2 hb3.size
  go_wp2_with fail; ((with_reducible refine (HI.out _).mono ?_); rintro e w4 ⟨rfl, hb4⟩); obtain ⟨hc4, hf4⟩ := bcell hb4
  go_wp2_with (go_at_call 18; ((with_reducible refine (HQ.out _).mono ?_); rintro e w' ⟨rfl, rfl⟩))
  go_ret; refine ⟨rfl, ?_⟩; (repeat (first | exact Below.refl _ _ | assumption | refine below_new ?_ _ | refine below_step ?_ (by assumption) | refine Below.drew ?_ | refine below_dn ?_ _ | refine Below.setCell ?_ (by simp <;> omega) _))

set_option maxRecDepth 100000 in
theorem FnExactRateOf_lifted (os : Os) (started : os.Started) (H : Type) (enc : TypeId × Value → H) :
    ReturnsInHanded {} Try.checked os 3 .any (Rows.fnExactRateOfSpec.pre6 enc Try.prog Try.f3 Rows.fnExactRateOfRow.domain false) (Rows.fnExactRateOfSpec.post enc Try.prog Try.f3 false true false false) := by
  refine law_lifted (C := Try.checked) (b4 := 4) (s := Rows.fnExactRateOfSpec) os started H enc Try.own Try.laidOut (by kernel_rfl) Try.func3
      (ChangeSpec.witness6 (enc := enc) (C := Try.checked) false ⟨#[], #[.agg #[.float .f32 0, .float .f32 0]], []⟩ 8 (by kernel_rfl) (by kernel_rfl) (by kernel_rfl) (by kernel_rfl))
      (of_decide_eq_true (by kernel_rfl)) (by kernel_rfl) (by kernel_rfl) rfl (fun ds h => by match ds, h with | [_], _ => rfl) ?_
  intro W base args ds ps hG
  obtain ⟨hval0, hA0, hlt, hsz0⟩ := hG
  have hval : ∀ (j : Nat) t v, Try.f3.params[j]? = some t → args[j]? = some v → Value.okWide Try.prog W .any base t v := hval0
  have hA : DataW.TrodAll enc Try.prog W 0 (fun _ => true) true Try.f3.params.toList args.toList ds ps := hA0
  have hsz : (DataW.weightsEach Try.prog (Try.f3.params.toList ++ Rows.fnExactRateOfSpec.plain.varTypes Try.prog) (ds ++ [])).all (· ≤ reachBytes) = true := hsz0
  clear hval0 hA0 hsz0
  rw [Try.params3] at hA hval hsz
  obtain ⟨v0, rfl⟩ := args1 (trodAll_length _ _ _ _ hA).2
  obtain ⟨x, y, rfl, hx, hy⟩ := open_air (hval 0 _ v0 rfl rfl)
  exact FnExactRateOf_walk x y hx hy W

set_option maxRecDepth 100000 in
theorem FnExactRateOf_holds : Rows.FnExactRateOfSaid :=
  OpenClaim.holds_of_wide 3 Try.f3 rfl rfl rfl rfl rfl rfl rfl ⟨rfl, rfl, rfl, rfl, rfl⟩ rfl rfl rfl rfl rfl (by kernel_rfl) Try.func3
    (by unfold joinedFacts
        repeat' (with_reducible refine and_tt ?_ ?_)
        all_goals first | with_reducible exact fact_enter | (rw [fact_lifts]; rfl) | ((with_reducible show (Program.make _ == some _) = true); exact fact_make) | kernel_rfl)
    (of_decide_eq_true (by kernel_rfl)) (by unfold Func.isWrapper; first | (rw [if_pos (by decide +kernel)]; kernel_rfl) | (rw [if_neg (by decide +kernel)]; exact ⟨rfl, rfl⟩))
    (fun os started H enc _ => FnExactRateOf_lifted os started H enc)

end Go.Proofs.Ytckapidlhhjipaa
