/-
  The program's comparison of coolers returns what the reference's returns, for every two coolers.
-/
import Derived.Test.YtkcacgoiajabfaaLawsA2
import Derived.Deep.RegionHeld3
set_option linter.unusedVariables false
set_option linter.unusedSimpArgs false
namespace Go.Proofs.Ytkcacgoiajabfaa
open Go.ChangeShapes Go.WideShapes Go.ChangeAt Go.RowKit Go.FV

def sameCooler (a b c d a' b' c' d' : Nat) : Bool := sameN a a' && sameN b b' && sameN c c' && sameN d d'
set_option maxHeartbeats 800000 in
theorem impl_SameCooler (a b c d a' b' c' d' : Nat) (w : World) : Calls Try.prog 34 #[.agg #[.float .f32 a, .float .f32 b, .float .f32 c, .float .f32 d], .agg #[.float .f32 a', .float .f32 b', .float .f32 c', .float .f32 d']] w (Ret (.bool (sameCooler a b c d a' b' c' d')) w) := by
  go_enter Try.func34, Try.ntmps34
  go_wp2_with (go_at_call 20; ((with_reducible refine (impl_SameNumber _ _ _).mono ?_); rintro e w' ⟨rfl, rfl⟩))
  all_goals (go_ret; refine ⟨by simp_all [sameCooler], ?_⟩; (repeat (first | exact Below.refl _ _ | assumption | refine below_new ?_ _ | refine below_step ?_ (by assumption) | refine Below.drew ?_ | refine Below.setCell ?_ (by simp <;> omega) _)))
set_option maxHeartbeats 800000 in
theorem spec_SameCooler (a b c d a' b' c' d' : Nat) (w : World) : Calls Try.prog 32 #[.agg #[.float .f32 a, .float .f32 b, .float .f32 c, .float .f32 d], .agg #[.float .f32 a', .float .f32 b', .float .f32 c', .float .f32 d']] w (Ret (.bool (sameCooler a b c d a' b' c' d')) w) := by
  go_enter Try.func32, Try.ntmps32
  go_wp2_with (go_at_call 44; ((with_reducible refine (spec_l01Same _ _ _).mono ?_); rintro e w' ⟨rfl, rfl⟩))
  all_goals (go_ret; refine ⟨by simp_all [sameCooler], ?_⟩; (repeat (first | exact Below.refl _ _ | assumption | refine below_new ?_ _ | refine below_step ?_ (by assumption) | refine Below.drew ?_ | refine Below.setCell ?_ (by simp <;> omega) _)))
set_option maxHeartbeats 1600000 in
theorem FnExactSameCooler_walk (a b c d a' b' c' d' : Nat) (w : World) : Calls Try.prog 11 #[.agg #[.float .f32 a, .float .f32 b, .float .f32 c, .float .f32 d], .agg #[.float .f32 a', .float .f32 b', .float .f32 c', .float .f32 d']] w (Yes w) := by
  go_enter Try.func11, Try.ntmps11
  go_wp2_with fail
  have hlt2 : w.heap.size < w.heap.size + 1 + 1 := by omega
  go_region_held3 (fun W => ((w.heap.size < W.heap.size ∧ w.heap.size + 1 < W.heap.size) ∧ Below w.heap.size w W) ∧ W.cell? ⟨w.heap.size, 0, none⟩ = some (.float .f32 a) ∧ W.cell? ⟨w.heap.size, 1, none⟩ = some (.float .f32 b) ∧ W.cell? ⟨w.heap.size, 2, none⟩ = some (.float .f32 c) ∧ W.cell? ⟨w.heap.size, 3, none⟩ = some (.float .f32 d)
      ∧ W.cell? ⟨w.heap.size + 1, 0, none⟩ = some (.float .f32 a') ∧ W.cell? ⟨w.heap.size + 1, 1, none⟩ = some (.float .f32 b') ∧ W.cell? ⟨w.heap.size + 1, 2, none⟩ = some (.float .f32 c') ∧ W.cell? ⟨w.heap.size + 1, 3, none⟩ = some (.float .f32 d'))
    (first | (go_keep; done) | ((try go_split_ands); refine ⟨⟨⟨?_, ?_⟩, ?_⟩, ?_⟩; (focus (first | (simp <;> omega) | (have := hb.size; (try simp at this); omega))); (focus (first | (simp <;> omega) | (have := hb.size; (try simp at this); omega))); (focus (repeat (first | exact Below.refl _ _ | assumption | refine below_new ?_ _ | refine below_step ?_ (by assumption) | refine Below.drew ?_ | refine Below.setCell ?_ (by simp <;> omega) _))); (focus (refine ⟨?_, ?_, ?_, ?_, ?_, ?_, ?_, ?_⟩ <;> (first | (rw [hb.cell (by simp <;> omega)]; simp [*, go_sem]) | simp [*, go_sem])))))
    (first | (go_at_call 33; refine (toCooler_any _ _ _ _ _).mono ?_; rintro e w1 ⟨rfl, hb⟩) | (go_at_call 32; refine (spec_SameCooler _ _ _ _ _ _ _ _ _).mono ?_; rintro e w1 ⟨rfl, hb⟩))
  rename_i hH
  obtain ⟨⟨⟨s1, s2⟩, s3⟩, k0, k1, k2, k3, m0, m1, m2, m3⟩ := hH
  go_wp2_with fail
  go_region_held3 (fun W => ((w.heap.size < W.heap.size ∧ w.heap.size + 1 < W.heap.size) ∧ Below w.heap.size w W) ∧ W.cell? ⟨w.heap.size, 0, none⟩ = some (.float .f32 a) ∧ W.cell? ⟨w.heap.size, 1, none⟩ = some (.float .f32 b) ∧ W.cell? ⟨w.heap.size, 2, none⟩ = some (.float .f32 c) ∧ W.cell? ⟨w.heap.size, 3, none⟩ = some (.float .f32 d)
      ∧ W.cell? ⟨w.heap.size + 1, 0, none⟩ = some (.float .f32 a') ∧ W.cell? ⟨w.heap.size + 1, 1, none⟩ = some (.float .f32 b') ∧ W.cell? ⟨w.heap.size + 1, 2, none⟩ = some (.float .f32 c') ∧ W.cell? ⟨w.heap.size + 1, 3, none⟩ = some (.float .f32 d'))
    (first | (go_keep; done) | ((try go_split_ands); refine ⟨⟨⟨?_, ?_⟩, ?_⟩, ?_⟩; (focus (first | (simp <;> omega) | (have := hb.size; (try simp at this); omega))); (focus (first | (simp <;> omega) | (have := hb.size; (try simp at this); omega))); (focus (repeat (first | exact Below.refl _ _ | assumption | refine below_new ?_ _ | refine below_step ?_ (by assumption) | refine Below.drew ?_ | refine Below.setCell ?_ (by simp <;> omega) _))); (focus (refine ⟨?_, ?_, ?_, ?_, ?_, ?_, ?_, ?_⟩ <;> (first | (rw [hb.cell (by simp <;> omega)]; simp [*, go_sem]) | simp [*, go_sem])))))
    (first | (go_at_call 33; refine (toCooler_any _ _ _ _ _).mono ?_; rintro e w1 ⟨rfl, hb⟩) | (go_at_call 34; refine (impl_SameCooler _ _ _ _ _ _ _ _ _).mono ?_; rintro e w1 ⟨rfl, hb⟩))
  rename_i hH
  obtain ⟨⟨⟨t1, t2⟩, t3⟩, _⟩ := hH
  go_wp2
  go_ret; refine ⟨rfl, ?_⟩; (repeat (first | exact Below.refl _ _ | assumption | refine below_new ?_ _ | refine below_step ?_ (by assumption) | refine Below.drew ?_ | refine Below.setCell ?_ (by simp <;> omega) _))

set_option maxRecDepth 100000 in
theorem FnExactSameCooler_lifted (os : Os) (started : os.Started) (H : Type) (enc : TypeId × Value → H) :
    ReturnsInHanded {} Try.checked os 11 .any (Rows.fnExactSameCoolerSpec.pre6 enc Try.prog Try.f11 Rows.fnExactSameCoolerRow.domain false) (Rows.fnExactSameCoolerSpec.post enc Try.prog Try.f11 false true false false) := by
  refine law_lifted (C := Try.checked) (b4 := 4) (s := Rows.fnExactSameCoolerSpec) os started H enc Try.own Try.laidOut (by kernel_rfl) Try.func11
      (ChangeSpec.witness6 (enc := enc) (C := Try.checked) false ⟨#[], #[.agg #[.float .f32 0, .float .f32 0, .float .f32 0, .float .f32 0], .agg #[.float .f32 0, .float .f32 0, .float .f32 0, .float .f32 0]], []⟩ 8 (by kernel_rfl) (by kernel_rfl) (by kernel_rfl) (by kernel_rfl))
      (of_decide_eq_true (by kernel_rfl)) (by kernel_rfl) (by kernel_rfl) rfl (fun ds h => by match ds, h with | [_, _], _ => rfl) ?_
  intro W base args ds ps hG
  obtain ⟨hval0, hA0, hlt, hsz0⟩ := hG
  have hval : ∀ (j : Nat) t v, Try.f11.params[j]? = some t → args[j]? = some v → Value.okWide Try.prog W .any base t v := hval0
  have hA : DataW.TrodAll enc Try.prog W 0 (fun _ => true) true Try.f11.params.toList args.toList ds ps := hA0
  have hsz : (DataW.weightsEach Try.prog (Try.f11.params.toList ++ Rows.fnExactSameCoolerSpec.plain.varTypes Try.prog) (ds ++ [])).all (· ≤ reachBytes) = true := hsz0
  clear hval0 hA0 hsz0
  rw [Try.params11] at hA hval hsz
  obtain ⟨v0, v1, rfl⟩ := args2 (trodAll_length _ _ _ _ hA).2
  obtain ⟨l, hl, rfl, _⟩ := open_fl (m := 4) (by kernel_rfl) (by kernel_rfl) (by kernel_rfl) (hval 0 _ v0 rfl rfl)
  obtain ⟨l', hl', rfl, _⟩ := open_fl (m := 4) (by kernel_rfl) (by kernel_rfl) (by kernel_rfl) (hval 1 _ v1 rfl rfl)
  obtain ⟨a, b, c, d, rfl⟩ := list4 hl
  obtain ⟨a', b', c', d', rfl⟩ := list4 hl'
  exact FnExactSameCooler_walk a b c d a' b' c' d' W

set_option maxRecDepth 100000 in
theorem FnExactSameCooler_holds : Rows.FnExactSameCoolerSaid :=
  OpenClaim.holds_of_wide 11 Try.f11 rfl rfl rfl rfl rfl rfl rfl ⟨rfl, rfl, rfl, rfl, rfl⟩ rfl rfl rfl rfl rfl (by kernel_rfl) Try.func11
    (by unfold joinedFacts
        repeat' (with_reducible refine and_tt ?_ ?_)
        all_goals first | with_reducible exact fact_enter | (rw [fact_lifts]; rfl) | ((with_reducible show (Program.make _ == some _) = true); exact fact_make) | kernel_rfl)
    (of_decide_eq_true (by kernel_rfl)) (by unfold Func.isWrapper; first | (rw [if_pos (by decide +kernel)]; kernel_rfl) | (rw [if_neg (by decide +kernel)]; exact ⟨rfl, rfl⟩))
    (fun os started H enc _ => FnExactSameCooler_lifted os started H enc)

end Go.Proofs.Ytkcacgoiajabfaa
