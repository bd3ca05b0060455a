/-
  The program's validity tests of small structs, its names of codes and its comparison of coolers return what the reference's return, for every argument.
-/
import Derived.Test.YtkcacgoiajabfaaParts
import Derived.Test.YtkcacgoiajabfaaLaw
set_option linter.unusedVariables false
set_option linter.unusedSimpArgs false
namespace Go.Proofs.Ytkcacgoiajabfaa
open Go.ChangeShapes Go.WideShapes Go.ChangeAt Go.RowKit Go.FV

/-! ### opening small structs of floats -/
theorem open_fl {W : World} {r : Reach} {base : Nat} {t : TypeId} {v : Value} {m : Nat}
    (hs : (match Try.prog.underlying t with | some (.struct _) | some (.array _ _) => true | _ => false) = true) (hct : Try.prog.cellTypes Try.prog.depth t = some (List.replicate m 23)) (hm : Try.prog.cellsOf t = m)
    (h : Value.okWide Try.prog W r base t v) : ∃ l : List Nat, l.length = m ∧ v = .agg (flCells l) ∧ ∀ i, ix l i < 4294967296 := by
  obtain ⟨cs, rfl, h2, h3⟩ := cells_of_okWide hs hct h
  obtain ⟨l, hl, hx, hb⟩ := floats_of cs 0 m (fun i hi => by
    have hi' : i < cs.size := by omega
    obtain ⟨u, hu, hok⟩ := h3 i cs[i] (by simp [hi'])
    have hmod : i % (List.replicate m 23).length = i := by simp; exact Nat.mod_eq_of_lt hi
    rw [hmod] at hu
    have hu' : u = 23 := by rw [List.getElem?_replicate] at hu; simp [hi] at hu; exact hu.symm
    subst hu'
    obtain ⟨b, hb, hw⟩ := cell_float Try.underlying23 hok
    exact ⟨b, by simp [hi', hb], f32_lt hw⟩)
  refine ⟨l, hl, ?_, hb⟩
  congr 1
  apply Array.ext_getElem?; intro i
  by_cases hi : i < m
  · have := hx i hi; rw [Nat.zero_add] at this; rw [this, flCells_at (by omega)]
  · rw [Array.getElem?_eq_none (by omega), Array.getElem?_eq_none (by simp; omega)]
theorem list2 {l : List Nat} (h : l.length = 2) : ∃ a b, l = [a, b] := by match l, h with | [a, b], _ => exact ⟨a, b, rfl⟩
theorem list3 {l : List Nat} (h : l.length = 3) : ∃ a b c, l = [a, b, c] := by match l, h with | [a, b, c], _ => exact ⟨a, b, c, rfl⟩
theorem list4 {l : List Nat} (h : l.length = 4) : ∃ a b c d, l = [a, b, c, d] := by match l, h with | [a, b, c, d], _ => exact ⟨a, b, c, d, rfl⟩

/-! ### air -/
set_option maxHeartbeats 400000 in
theorem FnExactValidAir_walk (a b : Nat) (w : World) : Calls Try.prog 9 #[.agg #[.float .f32 a, .float .f32 b]] w (Yes w) := by
  go_enter Try.func9, Try.ntmps9
  go_wp2_with fail; ((with_reducible refine (toAir_any _ _ _).mono ?_); rintro e w1 ⟨rfl, hb1⟩); obtain ⟨hc1, hf1⟩ := bcell hb1
  have hz1 : w.heap.size < w1.heap.size := by (have := hb1.size; simp at this; omega)
  go_wp2_with fail; ((with_reducible refine (spec_ValidAir _ _ _).mono ?_); rintro e w2 ⟨rfl, hb2⟩); obtain ⟨hc2, hf2⟩ := bcell hb2
  have hz2 : w.heap.size < w2.heap.size := Nat.lt_of_lt_of_le hz1 hb2.size
  go_wp2_with fail; ((with_reducible refine (toAir_any _ _ _).mono ?_); rintro e w3 ⟨rfl, hb3⟩); obtain ⟨hc3, hf3⟩ := bcell hb3
  have hz3 : w.heap.size < w3.heap.size := Nat.lt_of_lt_of_le hz2 hb3.size
  go_wp2_with fail; ((with_reducible refine (impl_ValidAir _ _ _).mono ?_); rintro e w4 ⟨rfl, hb4⟩); obtain ⟨hc4, hf4⟩ := bcell hb4
  go_wp2
  go_ret; refine ⟨rfl, ?_⟩; (repeat (first | exact Below.refl _ _ | refine below_new ?_ _ | refine below_step ?_ (by assumption) | refine Below.drew ?_ | refine Below.setCell ?_ (by simp <;> omega) _))

set_option maxRecDepth 100000 in
theorem FnExactValidAir_lifted (os : Os) (started : os.Started) (H : Type) (enc : TypeId × Value → H) :
    ReturnsInHanded {} Try.checked os 9 .any (Rows.fnExactValidAirSpec.pre6 enc Try.prog Try.f9 Rows.fnExactValidAirRow.domain false) (Rows.fnExactValidAirSpec.post enc Try.prog Try.f9 false true false false) := by
  refine law_lifted (C := Try.checked) (b4 := 4) (s := Rows.fnExactValidAirSpec) os started H enc Try.own Try.laidOut (by kernel_rfl) Try.func9
      (ChangeSpec.witness6 (enc := enc) (C := Try.checked) false ⟨#[], #[.agg #[.float .f32 0, .float .f32 0]], []⟩ 8 (by kernel_rfl) (by kernel_rfl) (by kernel_rfl) (by kernel_rfl))
      (of_decide_eq_true (by kernel_rfl)) (by kernel_rfl) (by kernel_rfl) rfl (fun ds h => by match ds, h with | [_], _ => rfl) ?_
  intro W base args ds ps hG
  obtain ⟨hval0, hA0, hlt, hsz0⟩ := hG
  have hval : ∀ (j : Nat) t v, Try.f9.params[j]? = some t → args[j]? = some v → Value.okWide Try.prog W .any base t v := hval0
  have hA : DataW.TrodAll enc Try.prog W 0 (fun _ => true) true Try.f9.params.toList args.toList ds ps := hA0
  have hsz : (DataW.weightsEach Try.prog (Try.f9.params.toList ++ Rows.fnExactValidAirSpec.plain.varTypes Try.prog) (ds ++ [])).all (· ≤ reachBytes) = true := hsz0
  clear hval0 hA0 hsz0
  rw [Try.params9] at hA hval hsz
  obtain ⟨v0, rfl⟩ := args1 (trodAll_length _ _ _ _ hA).2
  obtain ⟨l, hl, rfl, _⟩ := open_fl (m := 2) (by kernel_rfl) (by kernel_rfl) (by kernel_rfl) (hval 0 _ v0 rfl rfl)
  obtain ⟨a, b, rfl⟩ := list2 hl
  exact FnExactValidAir_walk a b W

set_option maxRecDepth 100000 in
theorem FnExactValidAir_holds : Rows.FnExactValidAirSaid :=
  OpenClaim.holds_of_wide 9 Try.f9 rfl rfl rfl rfl rfl rfl rfl ⟨rfl, rfl, rfl, rfl, rfl⟩ rfl rfl rfl rfl rfl (by kernel_rfl) Try.func9
    (by unfold joinedFacts
        repeat' (with_reducible refine and_tt ?_ ?_)
        all_goals first | with_reducible exact fact_enter | (rw [fact_lifts]; rfl) | ((with_reducible show (Program.make _ == some _) = true); exact fact_make) | kernel_rfl)
    (of_decide_eq_true (by kernel_rfl)) (by unfold Func.isWrapper; first | (rw [if_pos (by decide +kernel)]; kernel_rfl) | (rw [if_neg (by decide +kernel)]; exact ⟨rfl, rfl⟩))
    (fun os started H enc _ => FnExactValidAir_lifted os started H enc)

/-! ### looks -/
set_option maxHeartbeats 400000 in
theorem FnExactValidLook_walk (a b c : Nat) (w : World) : Calls Try.prog 10 #[.agg #[.float .f32 a, .float .f32 b, .float .f32 c]] w (Yes w) := by
  go_enter Try.func10, Try.ntmps10
  go_wp2_with fail; ((with_reducible refine (toLook_any _ _ _ _).mono ?_); rintro e w1 ⟨rfl, hb1⟩); obtain ⟨hc1, hf1⟩ := bcell hb1
  have hz1 : w.heap.size < w1.heap.size := by (have := hb1.size; simp at this; omega)
  go_wp2_with fail; ((with_reducible refine (spec_ValidLook _ _ _ _).mono ?_); rintro e w2 ⟨rfl, hb2⟩); obtain ⟨hc2, hf2⟩ := bcell hb2
  have hz2 : w.heap.size < w2.heap.size := Nat.lt_of_lt_of_le hz1 hb2.size
  go_wp2_with fail; ((with_reducible refine (toLook_any _ _ _ _).mono ?_); rintro e w3 ⟨rfl, hb3⟩); obtain ⟨hc3, hf3⟩ := bcell hb3
  have hz3 : w.heap.size < w3.heap.size := Nat.lt_of_lt_of_le hz2 hb3.size
  go_wp2_with fail; ((with_reducible refine (impl_ValidLook _ _ _ _).mono ?_); rintro e w4 ⟨rfl, hb4⟩); obtain ⟨hc4, hf4⟩ := bcell hb4
  go_wp2
  go_ret; refine ⟨rfl, ?_⟩; (repeat (first | exact Below.refl _ _ | refine below_new ?_ _ | refine below_step ?_ (by assumption) | refine Below.drew ?_ | refine Below.setCell ?_ (by simp <;> omega) _))

set_option maxRecDepth 100000 in
theorem FnExactValidLook_lifted (os : Os) (started : os.Started) (H : Type) (enc : TypeId × Value → H) :
    ReturnsInHanded {} Try.checked os 10 .any (Rows.fnExactValidLookSpec.pre6 enc Try.prog Try.f10 Rows.fnExactValidLookRow.domain false) (Rows.fnExactValidLookSpec.post enc Try.prog Try.f10 false true false false) := by
  refine law_lifted (C := Try.checked) (b4 := 4) (s := Rows.fnExactValidLookSpec) os started H enc Try.own Try.laidOut (by kernel_rfl) Try.func10
      (ChangeSpec.witness6 (enc := enc) (C := Try.checked) false ⟨#[], #[.agg #[.float .f32 0, .float .f32 0, .float .f32 0]], []⟩ 8 (by kernel_rfl) (by kernel_rfl) (by kernel_rfl) (by kernel_rfl))
      (of_decide_eq_true (by kernel_rfl)) (by kernel_rfl) (by kernel_rfl) rfl (fun ds h => by match ds, h with | [_], _ => rfl) ?_
  intro W base args ds ps hG
  obtain ⟨hval0, hA0, hlt, hsz0⟩ := hG
  have hval : ∀ (j : Nat) t v, Try.f10.params[j]? = some t → args[j]? = some v → Value.okWide Try.prog W .any base t v := hval0
  have hA : DataW.TrodAll enc Try.prog W 0 (fun _ => true) true Try.f10.params.toList args.toList ds ps := hA0
  have hsz : (DataW.weightsEach Try.prog (Try.f10.params.toList ++ Rows.fnExactValidLookSpec.plain.varTypes Try.prog) (ds ++ [])).all (· ≤ reachBytes) = true := hsz0
  clear hval0 hA0 hsz0
  rw [Try.params10] at hA hval hsz
  obtain ⟨v0, rfl⟩ := args1 (trodAll_length _ _ _ _ hA).2
  obtain ⟨l, hl, rfl, _⟩ := open_fl (m := 3) (by kernel_rfl) (by kernel_rfl) (by kernel_rfl) (hval 0 _ v0 rfl rfl)
  obtain ⟨a, b, c, rfl⟩ := list3 hl
  exact FnExactValidLook_walk a b c W

set_option maxRecDepth 100000 in
theorem FnExactValidLook_holds : Rows.FnExactValidLookSaid :=
  OpenClaim.holds_of_wide 10 Try.f10 rfl rfl rfl rfl rfl rfl rfl ⟨rfl, rfl, rfl, rfl, rfl⟩ rfl rfl rfl rfl rfl (by kernel_rfl) Try.func10
    (by unfold joinedFacts
        repeat' (with_reducible refine and_tt ?_ ?_)
        all_goals first | with_reducible exact fact_enter | (rw [fact_lifts]; rfl) | ((with_reducible show (Program.make _ == some _) = true); exact fact_make) | kernel_rfl)
    (of_decide_eq_true (by kernel_rfl)) (by unfold Func.isWrapper; first | (rw [if_pos (by decide +kernel)]; kernel_rfl) | (rw [if_neg (by decide +kernel)]; exact ⟨rfl, rfl⟩))
    (fun os started H enc _ => FnExactValidLook_lifted os started H enc)

/-! ### scales -/
set_option maxHeartbeats 400000 in
theorem FnExactValidScale_walk (a b c : Nat) (w : World) : Calls Try.prog 8 #[.agg #[.float .f32 a, .float .f32 b, .float .f32 c]] w (Yes w) := by
  go_enter Try.func8, Try.ntmps8
  go_wp2_with fail; ((with_reducible refine (toScale_any _ _ _ _).mono ?_); rintro e w1 ⟨rfl, hb1⟩); obtain ⟨hc1, hf1⟩ := bcell hb1
  have hz1 : w.heap.size < w1.heap.size := by (have := hb1.size; simp at this; omega)
  go_wp2_with fail; ((with_reducible refine (spec_ValidScale _ _ _ _).mono ?_); rintro e w2 ⟨rfl, hb2⟩); obtain ⟨hc2, hf2⟩ := bcell hb2
  have hz2 : w.heap.size < w2.heap.size := Nat.lt_of_lt_of_le hz1 hb2.size
  go_wp2_with fail; ((with_reducible refine (toScale_any _ _ _ _).mono ?_); rintro e w3 ⟨rfl, hb3⟩); obtain ⟨hc3, hf3⟩ := bcell hb3
  have hz3 : w.heap.size < w3.heap.size := Nat.lt_of_lt_of_le hz2 hb3.size
  go_wp2_with fail; ((with_reducible refine (impl_ValidScale _ _ _ _).mono ?_); rintro e w4 ⟨rfl, hb4⟩); obtain ⟨hc4, hf4⟩ := bcell hb4
  go_wp2
  go_ret; refine ⟨rfl, ?_⟩; (repeat (first | exact Below.refl _ _ | refine below_new ?_ _ | refine below_step ?_ (by assumption) | refine Below.drew ?_ | refine Below.setCell ?_ (by simp <;> omega) _))

set_option maxRecDepth 100000 in
theorem FnExactValidScale_lifted (os : Os) (started : os.Started) (H : Type) (enc : TypeId × Value → H) :
    ReturnsInHanded {} Try.checked os 8 .any (Rows.fnExactValidScaleSpec.pre6 enc Try.prog Try.f8 Rows.fnExactValidScaleRow.domain false) (Rows.fnExactValidScaleSpec.post enc Try.prog Try.f8 false true false false) := by
  refine law_lifted (C := Try.checked) (b4 := 4) (s := Rows.fnExactValidScaleSpec) os started H enc Try.own Try.laidOut (by kernel_rfl) Try.func8
      (ChangeSpec.witness6 (enc := enc) (C := Try.checked) false ⟨#[], #[.agg #[.float .f32 0, .float .f32 0, .float .f32 0]], []⟩ 8 (by kernel_rfl) (by kernel_rfl) (by kernel_rfl) (by kernel_rfl))
      (of_decide_eq_true (by kernel_rfl)) (by kernel_rfl) (by kernel_rfl) rfl (fun ds h => by match ds, h with | [_], _ => rfl) ?_
  intro W base args ds ps hG
  obtain ⟨hval0, hA0, hlt, hsz0⟩ := hG
  have hval : ∀ (j : Nat) t v, Try.f8.params[j]? = some t → args[j]? = some v → Value.okWide Try.prog W .any base t v := hval0
  have hA : DataW.TrodAll enc Try.prog W 0 (fun _ => true) true Try.f8.params.toList args.toList ds ps := hA0
  have hsz : (DataW.weightsEach Try.prog (Try.f8.params.toList ++ Rows.fnExactValidScaleSpec.plain.varTypes Try.prog) (ds ++ [])).all (· ≤ reachBytes) = true := hsz0
  clear hval0 hA0 hsz0
  rw [Try.params8] at hA hval hsz
  obtain ⟨v0, rfl⟩ := args1 (trodAll_length _ _ _ _ hA).2
  obtain ⟨l, hl, rfl, _⟩ := open_fl (m := 3) (by kernel_rfl) (by kernel_rfl) (by kernel_rfl) (hval 0 _ v0 rfl rfl)
  obtain ⟨a, b, c, rfl⟩ := list3 hl
  exact FnExactValidScale_walk a b c W

set_option maxRecDepth 100000 in
theorem FnExactValidScale_holds : Rows.FnExactValidScaleSaid :=
  OpenClaim.holds_of_wide 8 Try.f8 rfl rfl rfl rfl rfl rfl rfl ⟨rfl, rfl, rfl, rfl, rfl⟩ rfl rfl rfl rfl rfl (by kernel_rfl) Try.func8
    (by unfold joinedFacts
        repeat' (with_reducible refine and_tt ?_ ?_)
        all_goals first | with_reducible exact fact_enter | (rw [fact_lifts]; rfl) | ((with_reducible show (Program.make _ == some _) = true); exact fact_make) | kernel_rfl)
    (of_decide_eq_true (by kernel_rfl)) (by unfold Func.isWrapper; first | (rw [if_pos (by decide +kernel)]; kernel_rfl) | (rw [if_neg (by decide +kernel)]; exact ⟨rfl, rfl⟩))
    (fun os started H enc _ => FnExactValidScale_lifted os started H enc)

/-! ### coolers -/
set_option maxHeartbeats 400000 in
theorem FnExactValidCooler_walk (a b c d : Nat) (w : World) : Calls Try.prog 12 #[.agg #[.float .f32 a, .float .f32 b, .float .f32 c, .float .f32 d]] w (Yes w) := by
  go_enter Try.func12, Try.ntmps12
  go_wp2_with fail; ((with_reducible refine (toCooler_any _ _ _ _ _).mono ?_); rintro e w1 ⟨rfl, hb1⟩); obtain ⟨hc1, hf1⟩ := bcell hb1
  have hz1 : w.heap.size < w1.heap.size := by (have := hb1.size; simp at this; omega)
  go_wp2_with fail; ((with_reducible refine (spec_ValidCooler _ _ _ _ _).mono ?_); rintro e w2 ⟨rfl, hb2⟩); obtain ⟨hc2, hf2⟩ := bcell hb2
  have hz2 : w.heap.size < w2.heap.size := Nat.lt_of_lt_of_le hz1 hb2.size
  go_wp2_with fail; ((with_reducible refine (toCooler_any _ _ _ _ _).mono ?_); rintro e w3 ⟨rfl, hb3⟩); obtain ⟨hc3, hf3⟩ := bcell hb3
  have hz3 : w.heap.size < w3.heap.size := Nat.lt_of_lt_of_le hz2 hb3.size
  go_wp2_with fail; ((with_reducible refine (impl_ValidCooler _ _ _ _ _).mono ?_); rintro e w4 ⟨rfl, hb4⟩); obtain ⟨hc4, hf4⟩ := bcell hb4
  go_wp2
  go_ret; refine ⟨rfl, ?_⟩; (repeat (first | exact Below.refl _ _ | refine below_new ?_ _ | refine below_step ?_ (by assumption) | refine Below.drew ?_ | refine Below.setCell ?_ (by simp <;> omega) _))

set_option maxRecDepth 100000 in
theorem FnExactValidCooler_lifted (os : Os) (started : os.Started) (H : Type) (enc : TypeId × Value → H) :
    ReturnsInHanded {} Try.checked os 12 .any (Rows.fnExactValidCoolerSpec.pre6 enc Try.prog Try.f12 Rows.fnExactValidCoolerRow.domain false) (Rows.fnExactValidCoolerSpec.post enc Try.prog Try.f12 false true false false) := by
  refine law_lifted (C := Try.checked) (b4 := 4) (s := Rows.fnExactValidCoolerSpec) os started H enc Try.own Try.laidOut (by kernel_rfl) Try.func12
      (ChangeSpec.witness6 (enc := enc) (C := Try.checked) false ⟨#[], #[.agg #[.float .f32 0, .float .f32 0, .float .f32 0, .float .f32 0]], []⟩ 8 (by kernel_rfl) (by kernel_rfl) (by kernel_rfl) (by kernel_rfl))
      (of_decide_eq_true (by kernel_rfl)) (by kernel_rfl) (by kernel_rfl) rfl (fun ds h => by match ds, h with | [_], _ => rfl) ?_
  intro W base args ds ps hG
  obtain ⟨hval0, hA0, hlt, hsz0⟩ := hG
  have hval : ∀ (j : Nat) t v, Try.f12.params[j]? = some t → args[j]? = some v → Value.okWide Try.prog W .any base t v := hval0
  have hA : DataW.TrodAll enc Try.prog W 0 (fun _ => true) true Try.f12.params.toList args.toList ds ps := hA0
  have hsz : (DataW.weightsEach Try.prog (Try.f12.params.toList ++ Rows.fnExactValidCoolerSpec.plain.varTypes Try.prog) (ds ++ [])).all (· ≤ reachBytes) = true := hsz0
  clear hval0 hA0 hsz0
  rw [Try.params12] at hA hval hsz
  obtain ⟨v0, rfl⟩ := args1 (trodAll_length _ _ _ _ hA).2
  obtain ⟨l, hl, rfl, _⟩ := open_fl (m := 4) (by kernel_rfl) (by kernel_rfl) (by kernel_rfl) (hval 0 _ v0 rfl rfl)
  obtain ⟨a, b, c, d, rfl⟩ := list4 hl
  exact FnExactValidCooler_walk a b c d W

set_option maxRecDepth 100000 in
theorem FnExactValidCooler_holds : Rows.FnExactValidCoolerSaid :=
  OpenClaim.holds_of_wide 12 Try.f12 rfl rfl rfl rfl rfl rfl rfl ⟨rfl, rfl, rfl, rfl, rfl⟩ rfl rfl rfl rfl rfl (by kernel_rfl) Try.func12
    (by unfold joinedFacts
        repeat' (with_reducible refine and_tt ?_ ?_)
        all_goals first | with_reducible exact fact_enter | (rw [fact_lifts]; rfl) | ((with_reducible show (Program.make _ == some _) = true); exact fact_make) | kernel_rfl)
    (of_decide_eq_true (by kernel_rfl)) (by unfold Func.isWrapper; first | (rw [if_pos (by decide +kernel)]; kernel_rfl) | (rw [if_neg (by decide +kernel)]; exact ⟨rfl, rfl⟩))
    (fun os started H enc _ => FnExactValidCooler_lifted os started H enc)

end Go.Proofs.Ytkcacgoiajabfaa
