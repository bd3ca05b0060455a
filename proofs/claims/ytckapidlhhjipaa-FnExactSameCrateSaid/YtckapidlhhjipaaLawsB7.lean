/-
  The comparison of crates is the reference's, for every two crates.
-/
import Derived.Test.YtckapidlhhjipaaLawsB
import Derived.Test.YtckapidlhhjipaaSame
set_option linter.unusedVariables false
set_option linter.unusedSimpArgs false
namespace Go.Proofs.Ytckapidlhhjipaa
open Go.ChangeShapes Go.WideShapes Go.ChangeAt Go.RowKit Go.FV

set_option maxRecDepth 100000 in
set_option maxHeartbeats 1600000 in
theorem FnExactSameCrate_walk (n : Int) (l : List Nat) (n' : Int) (l' : List Nat) (hl : l.length = 16) (hl' : l'.length = 16) (w : World) : Calls Try.prog 4 #[.agg (crateCells n l), .agg (crateCells n' l')] w (Yes w) := by
  have HL := Lib.hid hl
  have HL' := Lib.hid hl'
  have HS := Lib.hid (fun w => spec_SameCrate n l n' l' hl hl' w)
  have HI := Lib.hid (fun w => impl_SameCrate n l n' l' hl hl' w)
  have T1 := Lib.hid (fun w => toCrate_any n l hl w)
  have T2 := Lib.hid (fun w => toCrate_any n' l' hl' w)
  clear hl hl'
  obtain ⟨R, hR⟩ : ∃ R, sameCrate n l n' l' = R := ⟨_, rfl⟩
  simp only [hR] at HS HI
  clear hR
  obtain ⟨W, hW⟩ : ∃ W, W = (w.alloc (.cells (crateCells n l) 35)).alloc (.cells (crateCells n' l') 35) := ⟨_, rfl⟩
  have G0 : W.heap[w.heap.size]? = some (.cells (crateCells n l) 35 (0, 0)) := by rw [hW]; exact ha2_0 _ _ _
  have G1 : W.heap[w.heap.size + 1]? = some (.cells (crateCells n' l') 35 (0, 0)) := by rw [hW]; exact ha2_1 _ _ _
  have hB : Below w.heap.size w W := by rw [hW]; show Below _ _ _; (repeat (first | exact Below.refl _ _ | assumption | refine below_new ?_ _ | refine below_step ?_ (by assumption) | refine Below.drew ?_ | refine below_dn ?_ _ | refine Below.setCell ?_ (by simp <;> omega) _))
  have hs0 : w.heap.size < W.heap.size := by rw [hW, size_al, size_al]; omega
  have hs1 : w.heap.size + 1 < W.heap.size := by rw [hW, size_al, size_al]; omega
  have HW := Lib.hid hW
  clear hW
  go_enter Try.func4, Try.ntmps4
  go_wp2_with fail
  rw [← HW.out]
  clear HW
  refine wp_region_held_drew (S := fun W => (w.heap.size < W.heap.size ∧ w.heap.size + 1 < W.heap.size) ∧ Below w.heap.size w W ∧ W.heap[w.heap.size]? = some (.cells (crateCells n l) 35 (0, 0)) ∧ W.heap[w.heap.size + 1]? = some (.cells (crateCells n' l') 35 (0, 0))) (by kernel_rfl) ⟨⟨hs0, hs1⟩, Below.drew hB, G0, G1⟩ (fun hHeld => ?_)
  refine wpAnyH_take (i := 0) rfl (by kernel_rfl) (by kernel_rfl) (by kernel_rfl) (fun _ _ _ h => h) (yieldsIf_load_mid (by rfl) _ _ rfl _ _ rfl (crateCells n l).toList _ (fun W hW j v hv => (cell_of_row _ _ _ _ _ _ hW.2.2.1).trans (by rw [Nat.zero_add, ← hv]; simp)) Try.underlying35 rfl (by rw [Array.length_toList, crateCells_size, HL.out]; kernel_rfl)) hHeld ?_
  refine wpAnyH_take (i := 2) rfl (by kernel_rfl) (by kernel_rfl) (by kernel_rfl) (fun _ _ _ h => h) (yieldsIf_load_mid (by rfl) _ _ rfl _ _ rfl (crateCells n' l').toList _ (fun W hW j v hv => (cell_of_row _ _ _ _ _ _ hW.2.2.2).trans (by rw [Nat.zero_add, ← hv]; simp)) Try.underlying35 rfl (by rw [Array.length_toList, crateCells_size, HL'.out]; kernel_rfl)) hHeld ?_
  refine wpAnyH_ready (rs := [1]) (by kernel_rfl) (by simp) (AllReadyH.cons rfl (fun K' hK => ?_) AllReadyH.nil)
  rw [if_pos (by rfl)]
  try simp only [Act.put, List.setIfInBounds_toArray, List.set_cons_zero, List.set_cons_succ]
  go_wp2_with fail
  ((with_reducible refine (T1.out _).mono ?_); rintro e w1 ⟨rfl, hb1⟩)
  refine hK.out _ _ ⟨⟨Nat.lt_of_lt_of_le hHeld.1.1 hb1.size, Nat.lt_of_lt_of_le hHeld.1.2 hb1.size⟩, below_step hHeld.2.1 hb1, below_heap hb1 hHeld.2.2.1, below_heap hb1 hHeld.2.2.2⟩ (fun hH1 => ?_)
  clear hK
  refine wpAnyH_ready (rs := [3]) (by kernel_rfl) (by simp) (AllReadyH.cons rfl (fun K' hK => ?_) AllReadyH.nil)
  rw [if_pos (by rfl)]
  try simp only [Act.put, List.setIfInBounds_toArray, List.set_cons_zero, List.set_cons_succ]
  go_wp2_with fail
  ((with_reducible refine (T2.out _).mono ?_); rintro e w2 ⟨rfl, hb2⟩)
  refine hK.out _ _ ⟨⟨Nat.lt_of_lt_of_le hH1.1.1 hb2.size, Nat.lt_of_lt_of_le hH1.1.2 hb2.size⟩, below_step hH1.2.1 hb2, below_heap hb2 hH1.2.2.1, below_heap hb2 hH1.2.2.2⟩ (fun hH2 => ?_)
  clear hK
  refine wpAnyH_ready (rs := [4]) (by kernel_rfl) (by simp) (AllReadyH.cons rfl (fun K' hK => ?_) AllReadyH.nil)
  rw [if_pos (by rfl)]
  try simp only [Act.put, List.setIfInBounds_toArray, List.set_cons_zero, List.set_cons_succ]
  go_wp2_with fail
  ((with_reducible refine (HS.out _).mono ?_); rintro e w3 ⟨rfl, hb3⟩)
  refine hK.out _ _ ⟨⟨Nat.lt_of_lt_of_le hH2.1.1 hb3.size, Nat.lt_of_lt_of_le hH2.1.2 hb3.size⟩, below_step hH2.2.1 hb3, below_heap hb3 hH2.2.2.1, below_heap hb3 hH2.2.2.2⟩ (fun hH3 => ?_)
  clear hK
  refine wpAnyH_ready (rs := [5]) (by kernel_rfl) (by simp) (AllReadyH.cons rfl (fun K' hK => ?_) AllReadyH.nil)
  rw [if_pos (by rfl)]
  go_wp2_with fail
  refine hK.out _ _ hH3 (fun hH4 => ?_)
  clear hK
  refine wpAnyH_done (by kernel_rfl) ?_ _
  obtain ⟨q1, q2, q3, q4⟩ := hH3
  clear hH1 hH2 hH4 hHeld G0 G1 hB hs0 hs1 hb1 hb2 hb3
  go_wp2_with fail
  refine wp_region_held_drew (S := fun W => (w.heap.size < W.heap.size ∧ w.heap.size + 1 < W.heap.size) ∧ Below w.heap.size w W ∧ W.heap[w.heap.size]? = some (.cells (crateCells n l) 35 (0, 0)) ∧ W.heap[w.heap.size + 1]? = some (.cells (crateCells n' l') 35 (0, 0))) (by kernel_rfl) ⟨q1, Below.drew q2, q3, q4⟩ (fun hHeld => ?_)
  refine wpAnyH_take (i := 0) rfl (by kernel_rfl) (by kernel_rfl) (by kernel_rfl) (fun _ _ _ h => h) (yieldsIf_load_mid (by rfl) _ _ rfl _ _ rfl (crateCells n l).toList _ (fun W hW j v hv => (cell_of_row _ _ _ _ _ _ hW.2.2.1).trans (by rw [Nat.zero_add, ← hv]; simp)) Try.underlying35 rfl (by rw [Array.length_toList, crateCells_size, HL.out]; kernel_rfl)) hHeld ?_
  refine wpAnyH_take (i := 2) rfl (by kernel_rfl) (by kernel_rfl) (by kernel_rfl) (fun _ _ _ h => h) (yieldsIf_load_mid (by rfl) _ _ rfl _ _ rfl (crateCells n' l').toList _ (fun W hW j v hv => (cell_of_row _ _ _ _ _ _ hW.2.2.2).trans (by rw [Nat.zero_add, ← hv]; simp)) Try.underlying35 rfl (by rw [Array.length_toList, crateCells_size, HL'.out]; kernel_rfl)) hHeld ?_
  refine wpAnyH_ready (rs := [1]) (by kernel_rfl) (by simp) (AllReadyH.cons rfl (fun K' hK => ?_) AllReadyH.nil)
  rw [if_pos (by rfl)]
  try simp only [Act.put, List.setIfInBounds_toArray, List.set_cons_zero, List.set_cons_succ]
  go_wp2_with fail
  ((with_reducible refine (T1.out _).mono ?_); rintro e w1 ⟨rfl, hb1⟩)
  refine hK.out _ _ ⟨⟨Nat.lt_of_lt_of_le hHeld.1.1 hb1.size, Nat.lt_of_lt_of_le hHeld.1.2 hb1.size⟩, below_step hHeld.2.1 hb1, below_heap hb1 hHeld.2.2.1, below_heap hb1 hHeld.2.2.2⟩ (fun hH1 => ?_)
  clear hK
  refine wpAnyH_ready (rs := [3]) (by kernel_rfl) (by simp) (AllReadyH.cons rfl (fun K' hK => ?_) AllReadyH.nil)
  rw [if_pos (by rfl)]
  try simp only [Act.put, List.setIfInBounds_toArray, List.set_cons_zero, List.set_cons_succ]
  go_wp2_with fail
  ((with_reducible refine (T2.out _).mono ?_); rintro e w2 ⟨rfl, hb2⟩)
  refine hK.out _ _ ⟨⟨Nat.lt_of_lt_of_le hH1.1.1 hb2.size, Nat.lt_of_lt_of_le hH1.1.2 hb2.size⟩, below_step hH1.2.1 hb2, below_heap hb2 hH1.2.2.1, below_heap hb2 hH1.2.2.2⟩ (fun hH2 => ?_)
  clear hK
  refine wpAnyH_ready (rs := [4]) (by kernel_rfl) (by simp) (AllReadyH.cons rfl (fun K' hK => ?_) AllReadyH.nil)
  rw [if_pos (by rfl)]
  try simp only [Act.put, List.setIfInBounds_toArray, List.set_cons_zero, List.set_cons_succ]
  go_wp2_with fail
  ((with_reducible refine (HI.out _).mono ?_); rintro e w3 ⟨rfl, hb3⟩)
  refine hK.out _ _ ⟨⟨Nat.lt_of_lt_of_le hH2.1.1 hb3.size, Nat.lt_of_lt_of_le hH2.1.2 hb3.size⟩, below_step hH2.2.1 hb3, below_heap hb3 hH2.2.2.1, below_heap hb3 hH2.2.2.2⟩ (fun hH3 => ?_)
  clear hK
  refine wpAnyH_ready (rs := [5]) (by kernel_rfl) (by simp) (AllReadyH.cons rfl (fun K' hK => ?_) AllReadyH.nil)
  rw [if_pos (by rfl)]
  go_wp2_with fail
  refine hK.out _ _ hH3 (fun hH4 => ?_)
  clear hK
  refine wpAnyH_done (by kernel_rfl) ?_ _
  obtain ⟨_, u3, _⟩ := hH3
  clear hH1 hH2 hH4 hHeld
  go_wp2
  go_ret; exact ⟨rfl, u3⟩

set_option maxRecDepth 100000 in
theorem FnExactSameCrate_lifted (os : Os) (started : os.Started) (H : Type) (enc : TypeId × Value → H) :
    ReturnsInHanded {} Try.checked os 4 .any (Rows.fnExactSameCrateSpec.pre6 enc Try.prog Try.f4 Rows.fnExactSameCrateRow.domain false) (Rows.fnExactSameCrateSpec.post enc Try.prog Try.f4 false true false false) := by
  refine law_lifted (C := Try.checked) (b4 := 4) (s := Rows.fnExactSameCrateSpec) os started H enc Try.own Try.laidOut (by kernel_rfl) Try.func4
      (ChangeSpec.witness6 (enc := enc) (C := Try.checked) false ⟨#[], #[.agg (crateCells 0 zero16), .agg (crateCells 0 zero16)], []⟩ 8 (by kernel_rfl) (by kernel_rfl) (by kernel_rfl) (by kernel_rfl))
      (of_decide_eq_true (by kernel_rfl)) (by kernel_rfl) (by kernel_rfl) rfl (fun ds h => by match ds, h with | [_, _], _ => rfl) ?_
  intro W base args ds ps hG
  obtain ⟨hval0, hA0, hlt, hsz0⟩ := hG
  have hval : ∀ (j : Nat) t v, Try.f4.params[j]? = some t → args[j]? = some v → Value.okWide Try.prog W .any base t v := hval0
  have hA : DataW.TrodAll enc Try.prog W 0 (fun _ => true) true Try.f4.params.toList args.toList ds ps := hA0
  have hsz : (DataW.weightsEach Try.prog (Try.f4.params.toList ++ Rows.fnExactSameCrateSpec.plain.varTypes Try.prog) (ds ++ [])).all (· ≤ reachBytes) = true := hsz0
  clear hval0 hA0 hsz0
  rw [Try.params4] at hA hval hsz
  obtain ⟨v0, v1, rfl⟩ := args2 (trodAll_length _ _ _ _ hA).2
  obtain ⟨n, l, rfl, hl, _, _, _⟩ := open_crate (hval 0 _ v0 rfl rfl)
  obtain ⟨n', l', rfl, hl', _, _, _⟩ := open_crate (hval 1 _ v1 rfl rfl)
  exact FnExactSameCrate_walk n l n' l' hl hl' W

set_option maxRecDepth 100000 in
theorem FnExactSameCrate_holds : Rows.FnExactSameCrateSaid :=
  OpenClaim.holds_of_wide 4 Try.f4 rfl rfl rfl rfl rfl rfl rfl ⟨rfl, rfl, rfl, rfl, rfl⟩ rfl rfl rfl rfl rfl (by kernel_rfl) Try.func4
    (by unfold joinedFacts
        repeat' (with_reducible refine and_tt ?_ ?_)
        all_goals first | with_reducible exact fact_enter | (rw [fact_lifts]; rfl) | ((with_reducible show (Program.make _ == some _) = true); exact fact_make) | kernel_rfl)
    (of_decide_eq_true (by kernel_rfl)) (by unfold Func.isWrapper; first | (rw [if_pos (by decide +kernel)]; kernel_rfl) | (rw [if_neg (by decide +kernel)]; exact ⟨rfl, rfl⟩))
    (fun os started H enc _ => FnExactSameCrate_lifted os started H enc)

end Go.Proofs.Ytckapidlhhjipaa
