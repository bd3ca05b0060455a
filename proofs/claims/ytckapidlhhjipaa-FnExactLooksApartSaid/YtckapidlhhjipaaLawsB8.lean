/-
  By how much two looks are apart is told as the reference tells it, for all looks.
-/
import Derived.Test.YtckapidlhhjipaaApart
import Derived.Test.YtckapidlhhjipaaOpen
import Derived.Test.YtckapidlhhjipaaIns
import Derived.Deep.RegionHeld3
set_option linter.unusedVariables false
set_option linter.unusedSimpArgs false
namespace Go.Proofs.Ytckapidlhhjipaa
open Go.ChangeShapes Go.WideShapes Go.ChangeAt Go.RowKit Go.FV

set_option maxRecDepth 100000 in
set_option maxHeartbeats 3200000 in
theorem FnExactLooksApart_walk (x y z x' y' z' : Nat) (hb : x < 4294967296 ∧ y < 4294967296 ∧ z < 4294967296) (hb' : x' < 4294967296 ∧ y' < 4294967296 ∧ z' < 4294967296) (w : World) :
    Calls Try.prog 14 #[.agg #[.float .f32 x, .float .f32 y, .float .f32 z], .agg #[.float .f32 x', .float .f32 y', .float .f32 z']] w (Yes w) := by
  have HS := Lib.hid (fun w => spec_LooksApart x y z x' y' z' hb hb' w)
  have HI := Lib.hid (fun w => impl_LooksApart x y z x' y' z' hb hb' w)
  have T1 := Lib.hid (fun w => toLook_any x y z w)
  have T2 := Lib.hid (fun w => toLook_any x' y' z' w)
  have HF : FL.num (apartX x y z x' y' z' (lookB x y z && lookB x' y' z')) := by
    unfold apartX
    split
    case isTrue h =>
      rw [Bool.and_eq_true] at h
      exact (apart_upto (look_upto h.1 hb.1 hb.2.1 hb.2.2) (look_upto h.2 hb'.1 hb'.2.1 hb'.2.2)).1.num
    case isFalse => exact ⟨by decide, by decide⟩
  obtain ⟨q, hq⟩ : ∃ q, apartX x y z x' y' z' (lookB x y z && lookB x' y' z') = q := ⟨_, rfl⟩
  obtain ⟨c, hc⟩ : ∃ c : Int, (if lookB x y z && lookB x' y' z' then 0 else 1) = c := ⟨_, rfl⟩
  rw [hq] at HF
  simp only [hq, hc] at HS HI
  have hcv := run_cvn q HF
  have HQ := Lib.hid (sameFloat_self (cv q) (cvn_self _ HF))
  clear hb hb' hq hc HF
  obtain ⟨W, hW⟩ : ∃ W, W = (w.alloc (.cells #[.float .f32 x, .float .f32 y, .float .f32 z] 58)).alloc (.cells #[.float .f32 x', .float .f32 y', .float .f32 z'] 58) := ⟨_, rfl⟩
  have HI0 : Ins w [.cells #[.float .f32 x, .float .f32 y, .float .f32 z] 58 (0, 0), .cells #[.float .f32 x', .float .f32 y', .float .f32 z'] 58 (0, 0)] W := by
    rw [hW]
    refine ⟨by rw [size_al, size_al]; exact Nat.le_refl _, by (repeat (first | exact Below.refl _ _ | assumption | refine below_new ?_ _ | refine below_step ?_ (by assumption) | refine Below.drew ?_ | refine below_dn ?_ _ | refine Below.setCell ?_ (by simp <;> omega) _)), fun i o ho => ?_⟩
    match i, ho with
    | 0, ho => cases ho; exact ha2_0 _ _ _
    | 1, ho => cases ho; exact ha2_1 _ _ _
  have HW := Lib.hid hW
  clear hW
  obtain ⟨os, hos⟩ : ∃ os, os = [Obj.cells #[.float .f32 x, .float .f32 y, .float .f32 z] 58 (0, 0), Obj.cells #[.float .f32 x', .float .f32 y', .float .f32 z'] 58 (0, 0)] := ⟨_, rfl⟩
  rw [← hos] at HI0
  have O0 : os[0]? = some (.cells #[.float .f32 x, .float .f32 y, .float .f32 z] 58 (0, 0)) := by rw [hos]; rfl
  have O1 : os[1]? = some (.cells #[.float .f32 x', .float .f32 y', .float .f32 z'] 58 (0, 0)) := by rw [hos]; rfl
  clear hos
  go_enter Try.func14, Try.ntmps14
  go_wp2_with fail
  rw [← HW.out]
  clear HW
  refine wp_region_held_drew (S := (Ins w os)) (by kernel_rfl) (Ins.drew HI0) (fun hHeld => ?_)
  refine wpAnyH_take (i := 0) rfl (by kernel_rfl) (by kernel_rfl) (by kernel_rfl) (fun _ _ _ h => h) (yieldsIf_load_mid (by rfl) _ _ rfl _ _ rfl [.float .f32 x, .float .f32 y, .float .f32 z] _ (fun W hW j v hv => (cell_of_row _ _ _ _ _ _ (hW.2.2 0 _ O0)).trans (by rw [Nat.zero_add, ← hv]; simp)) Try.underlying58 rfl (by kernel_rfl)) hHeld ?_
  refine wpAnyH_take (i := 2) rfl (by kernel_rfl) (by kernel_rfl) (by kernel_rfl) (fun _ _ _ h => h) (yieldsIf_load_mid (by rfl) _ _ rfl _ _ rfl [.float .f32 x', .float .f32 y', .float .f32 z'] _ (fun W hW j v hv => (cell_of_row _ _ _ _ _ _ (hW.2.2 1 _ O1)).trans (by rw [Nat.zero_add, ← hv]; simp)) Try.underlying58 rfl (by kernel_rfl)) hHeld ?_
  refine wpAnyH_ready (rs := [1]) (by kernel_rfl) (by simp) (AllReadyH.cons rfl (fun K' hK => ?_) AllReadyH.nil)
  rw [if_pos (by rfl)]
  (try simp only [Act.put, List.setIfInBounds_toArray, List.set_cons_zero, List.set_cons_succ])
  go_wp2_with fail
  ((with_reducible refine (T1.out _).mono ?_); rintro e wx3 ⟨rfl, hb2⟩)
  refine hK.out _ _ (Ins.below hHeld hb2) (fun hH1 => ?_)
  clear hK
  refine wpAnyH_ready (rs := [3]) (by kernel_rfl) (by simp) (AllReadyH.cons rfl (fun K' hK => ?_) AllReadyH.nil)
  rw [if_pos (by rfl)]
  (try simp only [Act.put, List.setIfInBounds_toArray, List.set_cons_zero, List.set_cons_succ])
  go_wp2_with fail
  ((with_reducible refine (T2.out _).mono ?_); rintro e wx6 ⟨rfl, hb5⟩)
  refine hK.out _ _ (Ins.below hH1 hb5) (fun hH4 => ?_)
  clear hK
  refine wpAnyH_ready (rs := [4]) (by kernel_rfl) (by simp) (AllReadyH.cons rfl (fun K' hK => ?_) AllReadyH.nil)
  rw [if_pos (by rfl)]
  (try simp only [Act.put, List.setIfInBounds_toArray, List.set_cons_zero, List.set_cons_succ])
  go_wp2_with fail
  ((with_reducible refine (HS.out _).mono ?_); rintro e wx9 ⟨rfl, hb8⟩)
  refine hK.out _ _ (Ins.below hH4 hb8) (fun hH7 => ?_)
  clear hK
  refine wpAnyH_take (i := 5) (v := (.tuple #[.float .f32 q, .int .i64 c])) rfl (by kernel_rfl) (by kernel_rfl) (by kernel_rfl) (fun _ _ _ h => h) (Or.inl ⟨by rfl, fun w _ => by go_simp⟩) hH7 ?_
  refine wpAnyH_take (i := 6) (v := (.float .f32 q)) rfl (by kernel_rfl) (by kernel_rfl) (by kernel_rfl) (fun _ _ _ h => h) (Or.inl ⟨by rfl, fun w _ => by go_simp⟩) hH7 ?_
  refine wpAnyH_take (i := 7) (v := (.int .i64 c)) rfl (by kernel_rfl) (by kernel_rfl) (by kernel_rfl) (fun _ _ _ h => h) (Or.inl ⟨by rfl, fun w _ => by go_simp⟩) hH7 ?_
  refine wpAnyH_ready (rs := [8]) (by kernel_rfl) (by simp) (AllReadyH.cons rfl (fun K' hK => ?_) AllReadyH.nil)
  rw [if_pos (by rfl)]
  (try simp only [Act.put, List.setIfInBounds_toArray, List.set_cons_zero, List.set_cons_succ])
  go_wp2_with fail
  refine hK.out _ _ hH7 (fun hH10 => ?_)
  clear hK
  refine wpAnyH_ready (rs := [9]) (by kernel_rfl) (by simp) (AllReadyH.cons rfl (fun K' hK => ?_) AllReadyH.nil)
  rw [if_pos (by rfl)]
  (try simp only [Act.put, List.setIfInBounds_toArray, List.set_cons_zero, List.set_cons_succ])
  go_wp2_with fail
  refine hK.out _ _ hH10 (fun hH11 => ?_)
  clear hK
  refine wpAnyH_done (by kernel_rfl) ?_ _
  go_wp2_with fail
  have I1 := Ins.drew hH11
  refine wp_region_held_drew (S := (Ins w os)) (by kernel_rfl) I1 (fun hHeld => ?_)
  refine wpAnyH_take (i := 0) rfl (by kernel_rfl) (by kernel_rfl) (by kernel_rfl) (fun _ _ _ h => h) (yieldsIf_load_mid (by rfl) _ _ rfl _ _ rfl [.float .f32 x, .float .f32 y, .float .f32 z] _ (fun W hW j v hv => (cell_of_row _ _ _ _ _ _ (hW.2.2 0 _ O0)).trans (by rw [Nat.zero_add, ← hv]; simp)) Try.underlying58 rfl (by kernel_rfl)) hHeld ?_
  refine wpAnyH_take (i := 2) rfl (by kernel_rfl) (by kernel_rfl) (by kernel_rfl) (fun _ _ _ h => h) (yieldsIf_load_mid (by rfl) _ _ rfl _ _ rfl [.float .f32 x', .float .f32 y', .float .f32 z'] _ (fun W hW j v hv => (cell_of_row _ _ _ _ _ _ (hW.2.2 1 _ O1)).trans (by rw [Nat.zero_add, ← hv]; simp)) Try.underlying58 rfl (by kernel_rfl)) hHeld ?_
  refine wpAnyH_ready (rs := [1]) (by kernel_rfl) (by simp) (AllReadyH.cons rfl (fun K' hK => ?_) AllReadyH.nil)
  rw [if_pos (by rfl)]
  (try simp only [Act.put, List.setIfInBounds_toArray, List.set_cons_zero, List.set_cons_succ])
  go_wp2_with fail
  ((with_reducible refine (T1.out _).mono ?_); rintro e wx3 ⟨rfl, hb2⟩)
  refine hK.out _ _ (Ins.below hHeld hb2) (fun hH1 => ?_)
  clear hK
  refine wpAnyH_ready (rs := [3]) (by kernel_rfl) (by simp) (AllReadyH.cons rfl (fun K' hK => ?_) AllReadyH.nil)
  rw [if_pos (by rfl)]
  (try simp only [Act.put, List.setIfInBounds_toArray, List.set_cons_zero, List.set_cons_succ])
  go_wp2_with fail
  ((with_reducible refine (T2.out _).mono ?_); rintro e wx6 ⟨rfl, hb5⟩)
  refine hK.out _ _ (Ins.below hH1 hb5) (fun hH4 => ?_)
  clear hK
  refine wpAnyH_ready (rs := [4]) (by kernel_rfl) (by simp) (AllReadyH.cons rfl (fun K' hK => ?_) AllReadyH.nil)
  rw [if_pos (by rfl)]
  (try simp only [Act.put, List.setIfInBounds_toArray, List.set_cons_zero, List.set_cons_succ])
  go_wp2_with fail
  ((with_reducible refine (HI.out _).mono ?_); rintro e wx9 ⟨rfl, hb8⟩)
  refine hK.out _ _ (Ins.below hH4 hb8) (fun hH7 => ?_)
  clear hK
  refine wpAnyH_take (i := 5) (v := (.tuple #[.float .f32 q, .int .i64 c])) rfl (by kernel_rfl) (by kernel_rfl) (by kernel_rfl) (fun _ _ _ h => h) (Or.inl ⟨by rfl, fun w _ => by go_simp⟩) hH7 ?_
  refine wpAnyH_take (i := 6) (v := (.float .f32 q)) rfl (by kernel_rfl) (by kernel_rfl) (by kernel_rfl) (fun _ _ _ h => h) (Or.inl ⟨by rfl, fun w _ => by go_simp⟩) hH7 ?_
  refine wpAnyH_take (i := 7) (v := (.int .i64 c)) rfl (by kernel_rfl) (by kernel_rfl) (by kernel_rfl) (fun _ _ _ h => h) (Or.inl ⟨by rfl, fun w _ => by go_simp⟩) hH7 ?_
  refine wpAnyH_ready (rs := [8]) (by kernel_rfl) (by simp) (AllReadyH.cons rfl (fun K' hK => ?_) AllReadyH.nil)
  rw [if_pos (by rfl)]
  (try simp only [Act.put, List.setIfInBounds_toArray, List.set_cons_zero, List.set_cons_succ])
  go_wp2_with fail
  refine hK.out _ _ hH7 (fun hH10 => ?_)
  clear hK
  refine wpAnyH_ready (rs := [9]) (by kernel_rfl) (by simp) (AllReadyH.cons rfl (fun K' hK => ?_) AllReadyH.nil)
  rw [if_pos (by rfl)]
  (try simp only [Act.put, List.setIfInBounds_toArray, List.set_cons_zero, List.set_cons_succ])
  go_wp2_with fail
  refine hK.out _ _ hH10 (fun hH11 => ?_)
  clear hK
  refine wpAnyH_done (by kernel_rfl) ?_ _
  go_wp2_with fail
  have hB := hH11.2.1
  clear HI0
  go_wp2_with (go_at_call 18; ((with_reducible refine (HQ.out _).mono ?_); rintro e w' ⟨rfl, rfl⟩))
  go_ret; exact ⟨rfl, hB⟩

set_option maxRecDepth 100000 in
theorem FnExactLooksApart_lifted (os : Os) (started : os.Started) (H : Type) (enc : TypeId × Value → H) :
    ReturnsInHanded {} Try.checked os 14 .any (Rows.fnExactLooksApartSpec.pre6 enc Try.prog Try.f14 Rows.fnExactLooksApartRow.domain false) (Rows.fnExactLooksApartSpec.post enc Try.prog Try.f14 false true false false) := by
  refine law_lifted (C := Try.checked) (b4 := 4) (s := Rows.fnExactLooksApartSpec) os started H enc Try.own Try.laidOut (by kernel_rfl) Try.func14
      (ChangeSpec.witness6 (enc := enc) (C := Try.checked) false ⟨#[], #[.agg #[.float .f32 0, .float .f32 0, .float .f32 0], .agg #[.float .f32 0, .float .f32 0, .float .f32 0]], []⟩ 8 (by kernel_rfl) (by kernel_rfl) (by kernel_rfl) (by kernel_rfl))
      (of_decide_eq_true (by kernel_rfl)) (by kernel_rfl) (by kernel_rfl) rfl (fun ds h => by match ds, h with | [_, _], _ => rfl) ?_
  intro W base args ds ps hG
  obtain ⟨hval0, hA0, hlt, hsz0⟩ := hG
  have hval : ∀ (j : Nat) t v, Try.f14.params[j]? = some t → args[j]? = some v → Value.okWide Try.prog W .any base t v := hval0
  have hA : DataW.TrodAll enc Try.prog W 0 (fun _ => true) true Try.f14.params.toList args.toList ds ps := hA0
  have hsz : (DataW.weightsEach Try.prog (Try.f14.params.toList ++ Rows.fnExactLooksApartSpec.plain.varTypes Try.prog) (ds ++ [])).all (· ≤ reachBytes) = true := hsz0
  clear hval0 hA0 hsz0
  rw [Try.params14] at hA hval hsz
  obtain ⟨v0, v1, rfl⟩ := args2 (trodAll_length _ _ _ _ hA).2
  obtain ⟨l, hl, rfl, hb⟩ := open_fl (m := 3) (by kernel_rfl) (by kernel_rfl) (by kernel_rfl) (hval 0 _ v0 rfl rfl)
  obtain ⟨x, y, z, rfl⟩ := list3 hl
  obtain ⟨l', hl', rfl, hb'⟩ := open_fl (m := 3) (by kernel_rfl) (by kernel_rfl) (by kernel_rfl) (hval 1 _ v1 rfl rfl)
  obtain ⟨x', y', z', rfl⟩ := list3 hl'
  exact FnExactLooksApart_walk x y z x' y' z' ⟨hb 0, hb 1, hb 2⟩ ⟨hb' 0, hb' 1, hb' 2⟩ W

set_option maxRecDepth 100000 in
theorem FnExactLooksApart_holds : Rows.FnExactLooksApartSaid :=
  OpenClaim.holds_of_wide 14 Try.f14 rfl rfl rfl rfl rfl rfl rfl ⟨rfl, rfl, rfl, rfl, rfl⟩ rfl rfl rfl rfl rfl (by kernel_rfl) Try.func14
    (by unfold joinedFacts
        repeat' (with_reducible refine and_tt ?_ ?_)
        all_goals first | with_reducible exact fact_enter | (rw [fact_lifts]; rfl) | ((with_reducible show (Program.make _ == some _) = true); exact fact_make) | kernel_rfl)
    (of_decide_eq_true (by kernel_rfl)) (by unfold Func.isWrapper; first | (rw [if_pos (by decide +kernel)]; kernel_rfl) | (rw [if_neg (by decide +kernel)]; exact ⟨rfl, rfl⟩))
    (fun os started H enc _ => FnExactLooksApart_lifted os started H enc)

end Go.Proofs.Ytckapidlhhjipaa
