/-
  The mean ripeness is the reference's, for every crate.
-/
import Derived.Test.YtckapidlhhjipaaLawsB
import Derived.Test.YtckapidlhhjipaaMean
set_option linter.unusedVariables false
set_option linter.unusedSimpArgs false
namespace Go.Proofs.Ytckapidlhhjipaa
open Go.ChangeShapes Go.WideShapes Go.ChangeAt Go.RowKit Go.FV

set_option maxRecDepth 100000 in
set_option maxHeartbeats 1600000 in
theorem FnExactMeanRipe_walk (n : Int) (l : List Nat) (hl : l.length = 16) (h1 : -128 ≤ n) (h2 : n ≤ 127) (hlt : ∀ i, ix l i < 4294967296) (w : World) : Calls Try.prog 8 #[.agg (crateCells n l)] w (Yes w) := by
  have HL := Lib.hid hl
  have HS := Lib.hid (fun w => spec_MeanRipe n l hl hlt w h1 h2)
  have HI := Lib.hid (fun w => impl_MeanRipe n l hl hlt w h1 h2)
  have HF := Lib.hid (meanX_num (n := n) hlt)
  obtain ⟨x, hx⟩ : ∃ x, meanX n l (validCrate n l) = x := ⟨_, rfl⟩
  obtain ⟨c, hc⟩ : ∃ c, found n (validCrate n l) = c := ⟨_, rfl⟩
  rw [hx] at HF
  simp only [hx, hc] at HS HI
  clear hx hc hl hlt
  have hcv := run_cvn x HF.out
  have HQ := Lib.hid (sameFloat_self (cv x) (cvn_self _ HF.out))
  go_enter Try.func8, Try.ntmps8
  go_wp2_with ((with_reducible show wpList _ _ _ (⟨some 8, _, _, _, _, _⟩ :: _) _ _); refine wpList_load_row rfl 35 (.tmp 1) rfl (w.heap.size) rfl 35 (crateCells n l) (0, 0) _ (ha1 _ _) Try.underlying35 rfl (by rw [crateCells_size, HL.out]; kernel_rfl) ?_)
  ((with_reducible refine (toCrate_any n l HL.out _).mono ?_); rintro e w1 ⟨rfl, hb1⟩)
  have G1 : Hid (w1.heap[w.heap.size]? = some (.cells (crateCells n l) 35 (0, 0))) := below_heap hb1 (ha1 _ _)
  have hz1 : w.heap.size < w1.heap.size := by (have := hb1.size; simp at this; omega)
  go_wp2_with fail
  ((with_reducible refine (HS.out _).mono ?_); rintro e w2 ⟨rfl, hb2⟩)
  have G2 : Hid (w2.heap[w.heap.size]? = some (.cells (crateCells n l) 35 (0, 0))) := below_heap hb2 G1.out
  have hz2 : w.heap.size < w2.heap.size := Nat.lt_of_lt_of_le hz1 hb2.size
  go_wp2_with ((with_reducible show wpList _ _ _ (⟨some 14, _, _, _, _, _⟩ :: _) _ _); refine wpList_load_row rfl 35 (.tmp 1) rfl (w.heap.size) rfl 35 (crateCells n l) (0, 0) _ (G2.out) Try.underlying35 rfl (by rw [crateCells_size, HL.out]; kernel_rfl) ?_)
  ((with_reducible refine (toCrate_any n l HL.out _).mono ?_); rintro e w3 ⟨rfl, hb3⟩)
  go_wp2_with fail
  ((with_reducible refine (HI.out _).mono ?_); rintro e w4 ⟨rfl, hb4⟩)
  go_wp2_with (go_at_call 18; ((with_reducible refine (HQ.out _).mono ?_); rintro e w' ⟨rfl, rfl⟩))
  go_ret; refine ⟨rfl, ?_⟩; (repeat (first | exact Below.refl _ _ | assumption | refine below_new ?_ _ | refine below_step ?_ (by assumption) | refine Below.drew ?_ | refine below_dn ?_ _ | refine Below.setCell ?_ (by simp <;> omega) _))

set_option maxRecDepth 100000 in
theorem FnExactMeanRipe_lifted (os : Os) (started : os.Started) (H : Type) (enc : TypeId × Value → H) :
    ReturnsInHanded {} Try.checked os 8 .any (Rows.fnExactMeanRipeSpec.pre6 enc Try.prog Try.f8 Rows.fnExactMeanRipeRow.domain false) (Rows.fnExactMeanRipeSpec.post enc Try.prog Try.f8 false true false false) := by
  refine law_lifted (C := Try.checked) (b4 := 4) (s := Rows.fnExactMeanRipeSpec) os started H enc Try.own Try.laidOut (by kernel_rfl) Try.func8
      (ChangeSpec.witness6 (enc := enc) (C := Try.checked) false ⟨#[], #[.agg (crateCells 0 zero16)], []⟩ 8 (by kernel_rfl) (by kernel_rfl) (by kernel_rfl) (by kernel_rfl))
      (of_decide_eq_true (by kernel_rfl)) (by kernel_rfl) (by kernel_rfl) rfl (fun ds h => by match ds, h with | [_], _ => rfl) ?_
  intro W base args ds ps hG
  obtain ⟨hval0, hA0, hlt, hsz0⟩ := hG
  have hval : ∀ (j : Nat) t v, Try.f8.params[j]? = some t → args[j]? = some v → Value.okWide Try.prog W .any base t v := hval0
  have hA : DataW.TrodAll enc Try.prog W 0 (fun _ => true) true Try.f8.params.toList args.toList ds ps := hA0
  have hsz : (DataW.weightsEach Try.prog (Try.f8.params.toList ++ Rows.fnExactMeanRipeSpec.plain.varTypes Try.prog) (ds ++ [])).all (· ≤ reachBytes) = true := hsz0
  clear hval0 hA0 hsz0
  rw [Try.params8] at hA hval hsz
  obtain ⟨v0, rfl⟩ := args1 (trodAll_length _ _ _ _ hA).2
  obtain ⟨n, l, rfl, hl, h1, h2, hlt'⟩ := open_crate (hval 0 _ v0 rfl rfl)
  exact FnExactMeanRipe_walk n l hl h1 h2 hlt' W

set_option maxRecDepth 100000 in
theorem FnExactMeanRipe_holds : Rows.FnExactMeanRipeSaid :=
  OpenClaim.holds_of_wide 8 Try.f8 rfl rfl rfl rfl rfl rfl rfl ⟨rfl, rfl, rfl, rfl, rfl⟩ rfl rfl rfl rfl rfl (by kernel_rfl) Try.func8
    (by unfold joinedFacts
        repeat' (with_reducible refine and_tt ?_ ?_)
        all_goals first | with_reducible exact fact_enter | (rw [fact_lifts]; rfl) | ((with_reducible show (Program.make _ == some _) = true); exact fact_make) | kernel_rfl)
    (of_decide_eq_true (by kernel_rfl)) (by unfold Func.isWrapper; first | (rw [if_pos (by decide +kernel)]; kernel_rfl) | (rw [if_neg (by decide +kernel)]; exact ⟨rfl, rfl⟩))
    (fun os started H enc _ => FnExactMeanRipe_lifted os started H enc)

end Go.Proofs.Ytckapidlhhjipaa
