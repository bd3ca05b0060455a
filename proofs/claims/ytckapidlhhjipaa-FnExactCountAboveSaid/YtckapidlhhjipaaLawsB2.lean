/-
  The program's count of ripe fruits returns what the reference's returns, for every crate and bound.
-/
import Derived.Test.YtckapidlhhjipaaLawsB
set_option linter.unusedVariables false
set_option linter.unusedSimpArgs false
namespace Go.Proofs.Ytckapidlhhjipaa
open Go.ChangeShapes Go.WideShapes Go.ChangeAt Go.RowKit Go.FV

set_option maxRecDepth 100000 in
set_option maxHeartbeats 800000 in
theorem FnExactCountAbove_walk (n : Int) (l : List Nat) (hl : l.length = 16) (h1 : -128 ≤ n) (h2 : n ≤ 127) (b : Nat) (w : World) : Calls Try.prog 6 #[.agg (crateCells n l), .float .f32 b] w (Yes w) := by
  have HL := Lib.hid hl; clear hl
  go_enter Try.func6, Try.ntmps6
  go_wp2_with (first
    | ((with_reducible show wpList _ _ _ (⟨some 10, _, _, _, _, _⟩ :: _) _ _); refine wpList_load_row rfl 35 (.tmp 2) rfl w.heap.size rfl 35 (crateCells n l) (0, 0) _ (ha1 _ _) Try.underlying35 rfl (by rw [crateCells_size, HL.out]; kernel_rfl) ?_))
  ((with_reducible refine (toCrate_any n l HL.out _).mono ?_); rintro e w1 ⟨rfl, hb1⟩)
  have G1 : Hid (w1.heap[w.heap.size]? = some (.cells (crateCells n l) 35 (0, 0))) := below_heap hb1 (ha1 _ _)
  have hz1 : w.heap.size < w1.heap.size := by (have := hb1.size; simp at this; omega)
  go_wp2_with fail
  ((with_reducible refine (spec_CountAbove n l HL.out b _ h1 h2).mono ?_); rintro e w2 ⟨rfl, hb2⟩)
  have G2 : Hid (w2.heap[w.heap.size]? = some (.cells (crateCells n l) 35 (0, 0))) := below_heap hb2 G1.out
  have hz2 : w.heap.size < w2.heap.size := Nat.lt_of_lt_of_le hz1 hb2.size
  go_wp2_with (first
    | ((with_reducible show wpList _ _ _ (⟨some 17, _, _, _, _, _⟩ :: _) _ _); refine wpList_load_row rfl 35 (.tmp 2) rfl w.heap.size rfl 35 (crateCells n l) (0, 0) _ G2.out Try.underlying35 rfl (by rw [crateCells_size, HL.out]; kernel_rfl) ?_))
  ((with_reducible refine (toCrate_any n l HL.out _).mono ?_); rintro e w3 ⟨rfl, hb3⟩)
  go_wp2_with fail
  ((with_reducible refine (impl_CountAbove n l HL.out b _ h1 h2).mono ?_); rintro e w4 ⟨rfl, hb4⟩)
  go_wp2
  go_ret; refine ⟨rfl, ?_⟩; (repeat (first | exact Below.refl _ _ | assumption | refine below_new ?_ _ | refine below_step ?_ (by assumption) | refine Below.drew ?_ | refine below_dn ?_ _ | refine Below.setCell ?_ (by simp <;> omega) _))

set_option maxRecDepth 100000 in
theorem FnExactCountAbove_lifted (os : Os) (started : os.Started) (H : Type) (enc : TypeId × Value → H) :
    ReturnsInHanded {} Try.checked os 6 .any (Rows.fnExactCountAboveSpec.pre6 enc Try.prog Try.f6 Rows.fnExactCountAboveRow.domain false) (Rows.fnExactCountAboveSpec.post enc Try.prog Try.f6 false true false false) := by
  refine law_lifted (C := Try.checked) (b4 := 4) (s := Rows.fnExactCountAboveSpec) os started H enc Try.own Try.laidOut (by kernel_rfl) Try.func6
      (ChangeSpec.witness6 (enc := enc) (C := Try.checked) false ⟨#[], #[.agg (crateCells 0 zero16), .float .f32 0], []⟩ 8 (by kernel_rfl) (by kernel_rfl) (by kernel_rfl) (by kernel_rfl))
      (of_decide_eq_true (by kernel_rfl)) (by kernel_rfl) (by kernel_rfl) rfl (fun ds h => by match ds, h with | [_, _], _ => rfl) ?_
  intro W base args ds ps hG
  obtain ⟨hval0, hA0, hlt, hsz0⟩ := hG
  have hval : ∀ (j : Nat) t v, Try.f6.params[j]? = some t → args[j]? = some v → Value.okWide Try.prog W .any base t v := hval0
  have hA : DataW.TrodAll enc Try.prog W 0 (fun _ => true) true Try.f6.params.toList args.toList ds ps := hA0
  have hsz : (DataW.weightsEach Try.prog (Try.f6.params.toList ++ Rows.fnExactCountAboveSpec.plain.varTypes Try.prog) (ds ++ [])).all (· ≤ reachBytes) = true := hsz0
  clear hval0 hA0 hsz0
  rw [Try.params6] at hA hval hsz
  obtain ⟨v0, v1, rfl⟩ := args2 (trodAll_length _ _ _ _ hA).2
  obtain ⟨n, l, rfl, hl, h1, h2, _⟩ := open_crate (hval 0 _ v0 rfl rfl)
  obtain ⟨b, rfl, _⟩ := v_float Try.underlying22 (hval 1 _ v1 rfl rfl)
  exact FnExactCountAbove_walk n l hl h1 h2 b W

set_option maxRecDepth 100000 in
theorem FnExactCountAbove_holds : Rows.FnExactCountAboveSaid :=
  OpenClaim.holds_of_wide 6 Try.f6 rfl rfl rfl rfl rfl rfl rfl ⟨rfl, rfl, rfl, rfl, rfl⟩ rfl rfl rfl rfl rfl (by kernel_rfl) Try.func6
    (by unfold joinedFacts
        repeat' (with_reducible refine and_tt ?_ ?_)
        all_goals first | with_reducible exact fact_enter | (rw [fact_lifts]; rfl) | ((with_reducible show (Program.make _ == some _) = true); exact fact_make) | kernel_rfl)
    (of_decide_eq_true (by kernel_rfl)) (by unfold Func.isWrapper; first | (rw [if_pos (by decide +kernel)]; kernel_rfl) | (rw [if_neg (by decide +kernel)]; exact ⟨rfl, rfl⟩))
    (fun os started H enc _ => FnExactCountAbove_lifted os started H enc)

end Go.Proofs.Ytckapidlhhjipaa
