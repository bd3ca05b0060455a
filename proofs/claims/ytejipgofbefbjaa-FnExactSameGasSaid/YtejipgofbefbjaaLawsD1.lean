/-
  The comparison of gas is the reference's, for all gas.
-/
import Derived.Test.YtejipgofbefbjaaSameGas
import Derived.Test.YtejipgofbefbjaaOpen
import Derived.Test.YtejipgofbefbjaaIns
import Derived.Deep.RegionHeld3
set_option linter.unusedVariables false
set_option linter.unusedSimpArgs false
namespace Go.Proofs.Ytejipgofbefbjaa
open Go.ChangeShapes Go.WideShapes Go.ChangeAt Go.RowKit Go.FV

set_option maxRecDepth 100000 in
set_option maxHeartbeats 3200000 in
theorem FnExactSameGas_walk (l l' : List Nat) (hl : l.length = 36) (hl' : l'.length = 36) (w : World) :
    Calls Try.prog 3 #[.agg (flCells l), .agg (flCells l')] w (Yes w) := by
  have HL := Lib.hid hl
  have HL' := Lib.hid hl'
  have HS := Lib.hid (fun w => spec_SameGas l l' hl hl' w)
  have HI := Lib.hid (fun w => impl_SameGas l l' hl hl' w)
  have T1 := Lib.hid (fun w => toGas_any l hl w)
  have T2 := Lib.hid (fun w => toGas_any l' hl' w)
  obtain ⟨c, hc⟩ : ∃ c, sameGas l l' = c := ⟨_, rfl⟩
  simp only [hc] at HS HI
  clear hl hl' hc
  obtain ⟨W, hW⟩ : ∃ W, W = (w.alloc (.cells (flCells l) 24)).alloc (.cells (flCells l') 24) := ⟨_, rfl⟩
  have HI0 : Ins w [.cells (flCells l) 24 (0, 0), .cells (flCells l') 24 (0, 0)] W := by
    rw [hW]
    refine ⟨by rw [size_al, size_al]; exact Nat.le_refl _, by (repeat (first | exact Below.refl _ _ | assumption | refine below_new ?_ _ | refine below_step ?_ (by assumption) | refine Below.drew ?_ | refine below_dn ?_ _ | refine Below.setCell ?_ (by simp <;> omega) _)), fun i o ho => ?_⟩
    match i, ho with
    | 0, ho => cases ho; exact ha2_0 _ _ _
    | 1, ho => cases ho; exact ha2_1 _ _ _
  have HW := Lib.hid hW
  clear hW
  obtain ⟨os, hos⟩ : ∃ os, os = [Obj.cells (flCells l) 24 (0, 0), Obj.cells (flCells l') 24 (0, 0)] := ⟨_, rfl⟩
  rw [← hos] at HI0
  have O0 : os[0]? = some (.cells (flCells l) 24 (0, 0)) := by rw [hos]; rfl
  have O1 : os[1]? = some (.cells (flCells l') 24 (0, 0)) := by rw [hos]; rfl
  clear hos
  go_enter Try.func3, Try.ntmps3
  go_wp2_with fail
  rw [← HW.out]
  clear HW
  refine wp_region_held_drew (S := (Ins w os)) (by kernel_rfl) (Ins.drew HI0) (fun hHeld => ?_)
  refine wpAnyH_take (i := 0) rfl (by kernel_rfl) (by kernel_rfl) (by kernel_rfl) (fun _ _ _ h => h) (yieldsIf_load_mid (by rfl) _ _ rfl _ _ rfl (flCells l).toList _ (fun W hW j v hv => (cell_of_row _ _ _ _ _ _ (hW.2.2 0 _ O0)).trans (by rw [Nat.zero_add, ← hv]; simp)) Try.underlying24 rfl (by rw [Array.length_toList, flCells_size, HL.out]; kernel_rfl)) hHeld ?_
  refine wpAnyH_take (i := 2) rfl (by kernel_rfl) (by kernel_rfl) (by kernel_rfl) (fun _ _ _ h => h) (yieldsIf_load_mid (by rfl) _ _ rfl _ _ rfl (flCells l').toList _ (fun W hW j v hv => (cell_of_row _ _ _ _ _ _ (hW.2.2 1 _ O1)).trans (by rw [Nat.zero_add, ← hv]; simp)) Try.underlying24 rfl (by rw [Array.length_toList, flCells_size, HL'.out]; kernel_rfl)) hHeld ?_
  refine wpAnyH_ready (rs := [1]) (by kernel_rfl) (by simp) (AllReadyH.cons rfl (fun K' hK => ?_) AllReadyH.nil)
  rw [if_pos (by rfl)]
  (try simp only [Act.put, List.setIfInBounds_toArray, List.set_cons_zero, List.set_cons_succ])
  go_wp2_with fail
  ((with_reducible refine (T1.out _).mono ?_); rintro e wx3 ⟨rfl, hb2⟩)
  refine hK.out _ _ (Ins.below hHeld hb2) (fun hH1 => ?_)
  clear hK
  refine wpAnyH_ready (rs := [3]) (by kernel_rfl) (by simp) (AllReadyH.cons rfl (fun K' hK => ?_) AllReadyH.nil)
  rw [if_pos (by rfl)]
  (try simp only [Act.put, List.setIfInBounds_toArray, List.set_cons_zero, List.set_cons_succ])
  go_wp2_with fail
  ((with_reducible refine (T2.out _).mono ?_); rintro e wx6 ⟨rfl, hb5⟩)
  refine hK.out _ _ (Ins.below hH1 hb5) (fun hH4 => ?_)
  clear hK
  refine wpAnyH_ready (rs := [4]) (by kernel_rfl) (by simp) (AllReadyH.cons rfl (fun K' hK => ?_) AllReadyH.nil)
  rw [if_pos (by rfl)]
  (try simp only [Act.put, List.setIfInBounds_toArray, List.set_cons_zero, List.set_cons_succ])
  go_wp2_with fail
  ((with_reducible refine (HS.out _).mono ?_); rintro e wx9 ⟨rfl, hb8⟩)
  refine hK.out _ _ (Ins.below hH4 hb8) (fun hH7 => ?_)
  clear hK
  refine wpAnyH_ready (rs := [5]) (by kernel_rfl) (by simp) (AllReadyH.cons rfl (fun K' hK => ?_) AllReadyH.nil)
  rw [if_pos (by rfl)]
  (try simp only [Act.put, List.setIfInBounds_toArray, List.set_cons_zero, List.set_cons_succ])
  go_wp2_with fail
  refine hK.out _ _ hH7 (fun hH10 => ?_)
  clear hK
  refine wpAnyH_done (by kernel_rfl) ?_ _
  go_wp2_with fail
  have I1 := Ins.drew hH10
  refine wp_region_held_drew (S := (Ins w os)) (by kernel_rfl) I1 (fun hHeld => ?_)
  refine wpAnyH_take (i := 0) rfl (by kernel_rfl) (by kernel_rfl) (by kernel_rfl) (fun _ _ _ h => h) (yieldsIf_load_mid (by rfl) _ _ rfl _ _ rfl (flCells l).toList _ (fun W hW j v hv => (cell_of_row _ _ _ _ _ _ (hW.2.2 0 _ O0)).trans (by rw [Nat.zero_add, ← hv]; simp)) Try.underlying24 rfl (by rw [Array.length_toList, flCells_size, HL.out]; kernel_rfl)) hHeld ?_
  refine wpAnyH_take (i := 2) rfl (by kernel_rfl) (by kernel_rfl) (by kernel_rfl) (fun _ _ _ h => h) (yieldsIf_load_mid (by rfl) _ _ rfl _ _ rfl (flCells l').toList _ (fun W hW j v hv => (cell_of_row _ _ _ _ _ _ (hW.2.2 1 _ O1)).trans (by rw [Nat.zero_add, ← hv]; simp)) Try.underlying24 rfl (by rw [Array.length_toList, flCells_size, HL'.out]; kernel_rfl)) hHeld ?_
  refine wpAnyH_ready (rs := [1]) (by kernel_rfl) (by simp) (AllReadyH.cons rfl (fun K' hK => ?_) AllReadyH.nil)
  rw [if_pos (by rfl)]
  (try simp only [Act.put, List.setIfInBounds_toArray, List.set_cons_zero, List.set_cons_succ])
  go_wp2_with fail
  ((with_reducible refine (T1.out _).mono ?_); rintro e wx3 ⟨rfl, hb2⟩)
  refine hK.out _ _ (Ins.below hHeld hb2) (fun hH1 => ?_)
  clear hK
  refine wpAnyH_ready (rs := [3]) (by kernel_rfl) (by simp) (AllReadyH.cons rfl (fun K' hK => ?_) AllReadyH.nil)
  rw [if_pos (by rfl)]
  (try simp only [Act.put, List.setIfInBounds_toArray, List.set_cons_zero, List.set_cons_succ])
  go_wp2_with fail
  ((with_reducible refine (T2.out _).mono ?_); rintro e wx6 ⟨rfl, hb5⟩)
  refine hK.out _ _ (Ins.below hH1 hb5) (fun hH4 => ?_)
  clear hK
  refine wpAnyH_ready (rs := [4]) (by kernel_rfl) (by simp) (AllReadyH.cons rfl (fun K' hK => ?_) AllReadyH.nil)
  rw [if_pos (by rfl)]
  (try simp only [Act.put, List.setIfInBounds_toArray, List.set_cons_zero, List.set_cons_succ])
  go_wp2_with fail
  ((with_reducible refine (HI.out _).mono ?_); rintro e wx9 ⟨rfl, hb8⟩)
  refine hK.out _ _ (Ins.below hH4 hb8) (fun hH7 => ?_)
  clear hK
  refine wpAnyH_ready (rs := [5]) (by kernel_rfl) (by simp) (AllReadyH.cons rfl (fun K' hK => ?_) AllReadyH.nil)
  rw [if_pos (by rfl)]
  (try simp only [Act.put, List.setIfInBounds_toArray, List.set_cons_zero, List.set_cons_succ])
  go_wp2_with fail
  refine hK.out _ _ hH7 (fun hH10 => ?_)
  clear hK
  refine wpAnyH_done (by kernel_rfl) ?_ _
  go_wp2_with fail
  have hB := hH10.2.1
  clear HI0
  go_wp2
  go_ret; exact ⟨rfl, hB⟩

set_option maxRecDepth 100000 in
theorem FnExactSameGas_lifted (os : Os) (started : os.Started) (H : Type) (enc : TypeId × Value → H) :
    ReturnsInHanded {} Try.checked os 3 .any (Rows.fnExactSameGasSpec.pre6 enc Try.prog Try.f3 Rows.fnExactSameGasRow.domain false) (Rows.fnExactSameGasSpec.post enc Try.prog Try.f3 false true false false) := by
  refine law_lifted (C := Try.checked) (b4 := 4) (s := Rows.fnExactSameGasSpec) os started H enc Try.own Try.laidOut (by kernel_rfl) Try.func3
      (ChangeSpec.witness6 (enc := enc) (C := Try.checked) false ⟨#[], #[.agg (flCells zero36), .agg (flCells zero36)], []⟩ 8 (by kernel_rfl) (by kernel_rfl) (by kernel_rfl) (by kernel_rfl))
      (of_decide_eq_true (by kernel_rfl)) (by kernel_rfl) (by kernel_rfl) rfl (fun ds h => by match ds, h with | [_, _], _ => rfl) ?_
  intro W base args ds ps hG
  obtain ⟨hval0, hA0, hlt, hsz0⟩ := hG
  have hval : ∀ (j : Nat) t v, Try.f3.params[j]? = some t → args[j]? = some v → Value.okWide Try.prog W .any base t v := hval0
  have hA : DataW.TrodAll enc Try.prog W 0 (fun _ => true) true Try.f3.params.toList args.toList ds ps := hA0
  have hsz : (DataW.weightsEach Try.prog (Try.f3.params.toList ++ Rows.fnExactSameGasSpec.plain.varTypes Try.prog) (ds ++ [])).all (· ≤ reachBytes) = true := hsz0
  clear hval0 hA0 hsz0
  rw [Try.params3] at hA hval hsz
  obtain ⟨v0, v1, rfl⟩ := args2 (trodAll_length _ _ _ _ hA).2
  obtain ⟨l, hl, rfl, _⟩ := open_fl (m := 36) (by kernel_rfl) (by kernel_rfl) (by kernel_rfl) (hval 0 _ v0 rfl rfl)
  obtain ⟨l', hl', rfl, _⟩ := open_fl (m := 36) (by kernel_rfl) (by kernel_rfl) (by kernel_rfl) (hval 1 _ v1 rfl rfl)
  exact FnExactSameGas_walk l l' hl hl' W

set_option maxRecDepth 100000 in
theorem FnExactSameGas_holds : Rows.FnExactSameGasSaid :=
  OpenClaim.holds_of_wide 3 Try.f3 rfl rfl rfl rfl rfl rfl rfl ⟨rfl, rfl, rfl, rfl, rfl⟩ rfl rfl rfl rfl rfl (by kernel_rfl) Try.func3
    (by unfold joinedFacts
        repeat' (with_reducible refine and_tt ?_ ?_)
        all_goals first | with_reducible exact fact_enter | (rw [fact_lifts]; rfl) | ((with_reducible show (Program.make _ == some _) = true); exact fact_make) | kernel_rfl)
    (of_decide_eq_true (by kernel_rfl)) (by unfold Func.isWrapper; first | (rw [if_pos (by decide +kernel)]; kernel_rfl) | (rw [if_neg (by decide +kernel)]; exact ⟨rfl, rfl⟩))
    (fun os started H enc _ => FnExactSameGas_lifted os started H enc)

end Go.Proofs.Ytejipgofbefbjaa
