/-
  The ripest fruit is the reference's, for every crate.
-/
import Derived.Test.YtckapidlhhjipaaLawsB
import Derived.Test.YtckapidlhhjipaaRipe
set_option linter.unusedVariables false
set_option linter.unusedSimpArgs false
namespace Go.Proofs.Ytckapidlhhjipaa
open Go.ChangeShapes Go.WideShapes Go.ChangeAt Go.RowKit Go.FV

theorem ripestX_fin {n : Int} {l : List Nat} (hb : ∀ i, ix l i < 4294967296) : FL.fin (ripestX n l (validCrate n l)) := by
  unfold ripestX
  split
  case isTrue hc =>
    rw [Bool.and_eq_true, decide_eq_true_eq] at hc
    obtain ⟨k, rfl, hk⟩ := valid_count hc.1
    refine fin_crate hc.1 hb _ ?_
    obtain ⟨d, rfl⟩ : ∃ d, k = d + 1 := ⟨k - 1, by omega⟩
    have := best_lt l d
    rw [Int.toNat_natCast]; omega
  case isFalse => exact ⟨by decide, by decide⟩

set_option maxRecDepth 100000 in
set_option maxHeartbeats 1600000 in
theorem FnExactRipestOf_walk (n : Int) (l : List Nat) (hl : l.length = 16) (h1 : -128 ≤ n) (h2 : n ≤ 127) (hlt : ∀ i, ix l i < 4294967296) (w : World) : Calls Try.prog 7 #[.agg (crateCells n l)] w (Yes w) := by
  have HL := Lib.hid hl
  have HS := Lib.hid (fun w => spec_RipestOf n l hl w h1 h2)
  have HI := Lib.hid (fun w => impl_RipestOf n l hl w h1 h2)
  have HF := Lib.hid (ripestX_fin (n := n) hlt)
  obtain ⟨m, hm⟩ : ∃ m, ripest n l (validCrate n l) = m := ⟨_, rfl⟩
  obtain ⟨x, hx⟩ : ∃ x, ripestX n l (validCrate n l) = x := ⟨_, rfl⟩
  obtain ⟨c, hc⟩ : ∃ c, found n (validCrate n l) = c := ⟨_, rfl⟩
  rw [hx] at HF
  simp only [hm, hx, hc] at HS HI
  clear hm hx hc hl hlt
  have hcv := run_cv x HF.out
  have HQ := Lib.hid (sameFloat_self (cv x) (cv_self _ HF.out))
  go_enter Try.func7, Try.ntmps7
  go_wp2_with ((with_reducible show wpList _ _ _ (⟨some 10, _, _, _, _, _⟩ :: _) _ _); refine wpList_load_row rfl 35 (.tmp 1) rfl (w.heap.size) rfl 35 (crateCells n l) (0, 0) _ (ha1 _ _) Try.underlying35 rfl (by rw [crateCells_size, HL.out]; kernel_rfl) ?_)
  ((with_reducible refine (toCrate_any n l HL.out _).mono ?_); rintro e w1 ⟨rfl, hb1⟩)
  have G1 : Hid (w1.heap[w.heap.size]? = some (.cells (crateCells n l) 35 (0, 0))) := below_heap hb1 (ha1 _ _)
  have hz1 : w.heap.size < w1.heap.size := by (have := hb1.size; simp at this; omega)
  go_wp2_with fail
  ((with_reducible refine (HS.out _).mono ?_); rintro e w2 ⟨rfl, hb2⟩)
  have G2 : Hid (w2.heap[w.heap.size]? = some (.cells (crateCells n l) 35 (0, 0))) := below_heap hb2 G1.out
  have hz2 : w.heap.size < w2.heap.size := Nat.lt_of_lt_of_le hz1 hb2.size
  go_wp2_with ((with_reducible show wpList _ _ _ (⟨some 17, _, _, _, _, _⟩ :: _) _ _); refine wpList_load_row rfl 35 (.tmp 1) rfl (w.heap.size) rfl 35 (crateCells n l) (0, 0) _ (G2.out) Try.underlying35 rfl (by rw [crateCells_size, HL.out]; kernel_rfl) ?_)
  ((with_reducible refine (toCrate_any n l HL.out _).mono ?_); rintro e w3 ⟨rfl, hb3⟩)
  go_wp2_with fail
  ((with_reducible refine (HI.out _).mono ?_); rintro e w4 ⟨rfl, hb4⟩)
  go_wp2_with (go_at_call 18; ((with_reducible refine (HQ.out _).mono ?_); rintro e w' ⟨rfl, rfl⟩))
  go_ret; refine ⟨rfl, ?_⟩; (repeat (first | exact Below.refl _ _ | assumption | refine below_new ?_ _ | refine below_step ?_ (by assumption) | refine Below.drew ?_ | refine below_dn ?_ _ | refine Below.setCell ?_ (by simp <;> omega) _))

set_option maxRecDepth 100000 in
theorem FnExactRipestOf_lifted (os : Os) (started : os.Started) (H : Type) (enc : TypeId × Value → H) :
    ReturnsInHanded {} Try.checked os 7 .any (Rows.fnExactRipestOfSpec.pre6 enc Try.prog Try.f7 Rows.fnExactRipestOfRow.domain false) (Rows.fnExactRipestOfSpec.post enc Try.prog Try.f7 false true false false) := by
  refine law_lifted (C := Try.checked) (b4 := 4) (s := Rows.fnExactRipestOfSpec) os started H enc Try.own Try.laidOut (by kernel_rfl) Try.func7
      (ChangeSpec.witness6 (enc := enc) (C := Try.checked) false ⟨#[], #[.agg (crateCells 0 zero16)], []⟩ 8 (by kernel_rfl) (by kernel_rfl) (by kernel_rfl) (by kernel_rfl))
      (of_decide_eq_true (by kernel_rfl)) (by kernel_rfl) (by kernel_rfl) rfl (fun ds h => by match ds, h with | [_], _ => rfl) ?_
  intro W base args ds ps hG
  obtain ⟨hval0, hA0, hlt, hsz0⟩ := hG
  have hval : ∀ (j : Nat) t v, Try.f7.params[j]? = some t → args[j]? = some v → Value.okWide Try.prog W .any base t v := hval0
  have hA : DataW.TrodAll enc Try.prog W 0 (fun _ => true) true Try.f7.params.toList args.toList ds ps := hA0
  have hsz : (DataW.weightsEach Try.prog (Try.f7.params.toList ++ Rows.fnExactRipestOfSpec.plain.varTypes Try.prog) (ds ++ [])).all (· ≤ reachBytes) = true := hsz0
  clear hval0 hA0 hsz0
  rw [Try.params7] at hA hval hsz
  obtain ⟨v0, rfl⟩ := args1 (trodAll_length _ _ _ _ hA).2
  obtain ⟨n, l, rfl, hl, h1, h2, hlt'⟩ := open_crate (hval 0 _ v0 rfl rfl)
  exact FnExactRipestOf_walk n l hl h1 h2 hlt' W

set_option maxRecDepth 100000 in
theorem FnExactRipestOf_holds : Rows.FnExactRipestOfSaid :=
  OpenClaim.holds_of_wide 7 Try.f7 rfl rfl rfl rfl rfl rfl rfl ⟨rfl, rfl, rfl, rfl, rfl⟩ rfl rfl rfl rfl rfl (by kernel_rfl) Try.func7
    (by unfold joinedFacts
        repeat' (with_reducible refine and_tt ?_ ?_)
        all_goals first | with_reducible exact fact_enter | (rw [fact_lifts]; rfl) | ((with_reducible show (Program.make _ == some _) = true); exact fact_make) | kernel_rfl)
    (of_decide_eq_true (by kernel_rfl)) (by unfold Func.isWrapper; first | (rw [if_pos (by decide +kernel)]; kernel_rfl) | (rw [if_neg (by decide +kernel)]; exact ⟨rfl, rfl⟩))
    (fun os started H enc _ => FnExactRipestOf_lifted os started H enc)

end Go.Proofs.Ytckapidlhhjipaa
