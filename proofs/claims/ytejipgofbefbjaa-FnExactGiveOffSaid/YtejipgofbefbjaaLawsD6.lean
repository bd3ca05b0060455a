/-
  What a crate gives off is the reference's, for all rooms, gas, places and crates.
-/
import Derived.Test.YtejipgofbefbjaaGiveOff
import Derived.Test.YtejipgofbefbjaaOpenR
import Derived.Test.YtejipgofbefbjaaIns
import Derived.Deep.RegionHeld3
import Derived.Deep.DeepCutAuto
set_option linter.unusedVariables false
set_option linter.unusedSimpArgs false
namespace Go.Proofs.Ytejipgofbefbjaa
open Go.ChangeShapes Go.WideShapes Go.ChangeAt Go.RowKit Go.FV

theorem zero36_ix {i : Nat} (hi : i < 36) : ix zero36 i = 0 := by
  have h : ∀ i, i < 36 → ix zero36 i = 0 := by decide
  exact h i hi
set_option maxRecDepth 100000 in
set_option maxHeartbeats 3200000 in
theorem FnExactGiveOff_walk (a b : Int) (f : Nat) (v0 v1 v2 v3 v4 v5 : Int) (l : List Nat) (hl : l.length = 36) (hb : ∀ i, ix l i < 4294967296) (hf : f < 4294967296) (h1 : -128 ≤ a) (h2 : a ≤ 127) (h3 : -128 ≤ b) (h4 : b ≤ 127) (hv : ∀ k : Nat, 0 ≤ ixI [v0, v1, v2, v3, v4, v5] k ∧ ixI [v0, v1, v2, v3, v4, v5] k ≤ 255) (x y : Int) (n : Int) (c : List Nat) (hcl : c.length = 16) (h5 : -128 ≤ n) (h6 : n ≤ 127) (hcb : ∀ i, ix c i < 4294967296) (w : World) :
    Calls Try.prog 8 #[.agg #[.int .i8 a, .int .i8 b, .float .f32 f, .int .u8 v0, .int .u8 v1, .int .u8 v2, .int .u8 v3, .int .u8 v4, .int .u8 v5], .agg (flCells l), .int .i64 x, .int .i64 y, .agg (crateCells n c)] w (Yes w) := by
  have HL := Lib.hid hl
  have T1 := Lib.hid (fun w => toRoom_any a b f v0 v1 v2 v3 v4 v5 w)
  have T2 := Lib.hid (fun w => toGas_any l hl w)
  have HC := Lib.hid hcl
  have HS := Lib.hid (fun w => spec_GiveOff a b f v0 v1 v2 v3 v4 v5 l hl hb n c hcl hcb h5 h6 x y w h1 h2 h3 h4 hv)
  have HI := Lib.hid (fun w => impl_GiveOff a b f v0 v1 v2 v3 v4 v5 l hl hb n c hcl hcb h5 h6 x y w h1 h2 h3 h4)
  have T3 := Lib.hid (fun w => toCrate_any n c hcl w)
  have hLF : (giveX l c x y n ((validGas a b f [v0, v1, v2, v3, v4, v5] l && validCrate n c) && inG a b x y)).length = 36 ∧ ∀ i, i < 36 → FL.fin (ix (giveX l c x y n ((validGas a b f [v0, v1, v2, v3, v4, v5] l && validCrate n c) && inG a b x y)) i) := by
    unfold giveX
    split
    case isTrue h =>
      rw [Bool.and_eq_true, Bool.and_eq_true] at h
      obtain ⟨A, H, rfl, rfl, hA, hH, hu, _, _⟩ := gas_facts h.1.1 hb
      obtain ⟨X, Y, rfl, rfl, hX, hY, _, _⟩ := inG_nat h.2 (by omega) (by omega)
      have hcu := fun j hj => crate_upto h.1.2 hcb j hj
      obtain ⟨m, rfl, hn⟩ := valid_count h.1.2
      simp only [Int.toNat_natCast]
      exact ⟨giveL_len hl _ _ _, fun i hi => giveL_fin hl hu (fun j hj => hcu j (by omega)) hn (by omega) i hi⟩
    case isFalse => exact ⟨rfl, fun i hi => by rw [zero36_ix hi]; exact ⟨by decide, by decide⟩⟩
  obtain ⟨M, hM⟩ : ∃ M, giveX l c x y n ((validGas a b f [v0, v1, v2, v3, v4, v5] l && validCrate n c) && inG a b x y) = M := ⟨_, rfl⟩
  obtain ⟨q, hq⟩ : ∃ q, told (validGas a b f [v0, v1, v2, v3, v4, v5] l && validCrate n c) (inG a b x y) = q := ⟨_, rfl⟩
  rw [hM] at hLF
  simp only [hM, hq] at HS HI
  have HM := Lib.hid hLF.1
  have HE := Lib.hid (fun w => eqGas_self M hLF.1 hLF.2 w)
  clear hl hb hcl hcb hf h1 h2 h3 h4 h5 h6 hv hM hq hLF
  obtain ⟨W, hW⟩ : ∃ W, W = (((w.alloc (.cells #[.int .i8 a, .int .i8 b, .float .f32 f, .int .u8 v0, .int .u8 v1, .int .u8 v2, .int .u8 v3, .int .u8 v4, .int .u8 v5] 32)).alloc (.cells (flCells l) 24)).alloc (.cells (crateCells n c) 51)) := ⟨_, rfl⟩
  have HI0 : Ins w [.cells #[.int .i8 a, .int .i8 b, .float .f32 f, .int .u8 v0, .int .u8 v1, .int .u8 v2, .int .u8 v3, .int .u8 v4, .int .u8 v5] 32 (0, 0), .cells (flCells l) 24 (0, 0), .cells (crateCells n c) 51 (0, 0)] W := by
    rw [hW]
    refine ⟨by (repeat rw [size_al]); exact Nat.le_refl _, by (repeat (first | exact Below.refl _ _ | assumption | refine below_new ?_ _ | refine below_step ?_ (by assumption) | refine Below.drew ?_ | refine below_dn ?_ _ | refine Below.setCell ?_ (by simp <;> omega) _)), fun i o ho => ?_⟩
    match i, ho with
    | 0, ho => cases ho; exact ha3_0 _ _ _ _
    | 1, ho => cases ho; exact ha3_1 _ _ _ _
    | 2, ho => cases ho; exact ha3_2 _ _ _ _
  have HW := Lib.hid hW
  clear hW
  obtain ⟨os, hos⟩ : ∃ os, os = [Obj.cells #[.int .i8 a, .int .i8 b, .float .f32 f, .int .u8 v0, .int .u8 v1, .int .u8 v2, .int .u8 v3, .int .u8 v4, .int .u8 v5] 32 (0, 0), Obj.cells (flCells l) 24 (0, 0), Obj.cells (crateCells n c) 51 (0, 0)] := ⟨_, rfl⟩
  rw [← hos] at HI0
  have O0 : os[0]? = some (.cells #[.int .i8 a, .int .i8 b, .float .f32 f, .int .u8 v0, .int .u8 v1, .int .u8 v2, .int .u8 v3, .int .u8 v4, .int .u8 v5] 32 (0, 0)) := by rw [hos]; rfl
  have O1 : os[1]? = some (.cells (flCells l) 24 (0, 0)) := by rw [hos]; rfl
  have O2 : os[2]? = some (.cells (crateCells n c) 51 (0, 0)) := by rw [hos]; rfl
  clear hos
  go_enter Try.func8, Try.ntmps8
  go_wp2_with fail
  rw [← HW.out]
  clear HW
  go_cut [11, 12] (fun s5 s6 wx => ∃ b, s5 = .pointer (some ⟨b, 0, none⟩) ∧ s6 = .int .i64 q ∧ Ins w os wx ∧ New w os.length b (flCells M) 26 wx)
  case first =>
    refine wp_region_held_drew (S := (Ins w os)) (by kernel_rfl) (Ins.drew HI0) (fun hHeld => ?_)
    refine wpAnyH_take (i := 0) rfl (by kernel_rfl) (by kernel_rfl) (by kernel_rfl) (fun _ _ _ h => h) (yieldsIf_load_mid (by rfl) _ _ rfl _ _ rfl [.int .i8 a, .int .i8 b, .float .f32 f, .int .u8 v0, .int .u8 v1, .int .u8 v2, .int .u8 v3, .int .u8 v4, .int .u8 v5] _ (fun W hW j v hv => (cell_of_row _ _ _ _ _ _ (hW.2.2 0 _ O0)).trans (by rw [Nat.zero_add, ← hv]; simp)) Try.underlying32 rfl (by kernel_rfl)) hHeld ?_
    refine wpAnyH_take (i := 2) rfl (by kernel_rfl) (by kernel_rfl) (by kernel_rfl) (fun _ _ _ h => h) (yieldsIf_load_mid (by rfl) _ _ rfl _ _ rfl (flCells l).toList _ (fun W hW j v hv => (cell_of_row _ _ _ _ _ _ (hW.2.2 1 _ O1)).trans (by rw [Nat.zero_add, ← hv]; simp)) Try.underlying24 rfl (by rw [Array.length_toList, flCells_size, HL.out]; kernel_rfl)) hHeld ?_
    refine wpAnyH_take (i := 4) (v := .int .i64 x) rfl (by kernel_rfl) (by kernel_rfl) (by kernel_rfl) (fun _ _ _ h => h) (Or.inl ⟨by rfl, fun w _ => by go_simp⟩) hHeld ?_
    refine wpAnyH_take (i := 5) (v := .int .i64 y) rfl (by kernel_rfl) (by kernel_rfl) (by kernel_rfl) (fun _ _ _ h => h) (Or.inl ⟨by rfl, fun w _ => by go_simp⟩) hHeld ?_
    refine wpAnyH_take (i := 6) rfl (by kernel_rfl) (by kernel_rfl) (by kernel_rfl) (fun _ _ _ h => h) (yieldsIf_load_mid (by rfl) _ _ rfl _ _ rfl (crateCells n c).toList _ (fun W hW j v hv => (cell_of_row _ _ _ _ _ _ (hW.2.2 2 _ O2)).trans (by rw [Nat.zero_add, ← hv]; simp)) Try.underlying51 rfl (by rw [Array.length_toList, crateCells_size, HC.out]; kernel_rfl)) hHeld ?_
    refine wpAnyH_ready (rs := [1, 12]) (by kernel_rfl) (by simp) (AllReadyH.cons rfl (fun K' hK => ?_) (AllReadyH.cons rfl (fun K' hK => ?_) AllReadyH.nil))
    · rw [if_pos (by rfl)]
      (try simp only [Act.put, List.setIfInBounds_toArray, List.set_cons_zero, List.set_cons_succ])
      go_wp2_with fail
      ((with_reducible refine (T1.out _).mono ?_); rintro e wx3 ⟨rfl, hb2⟩)
      refine hK.out _ _ (Ins.below hHeld hb2) (fun hH1 => ?_)
      clear hK
      refine wpAnyH_ready (rs := [3, 12]) (by kernel_rfl) (by simp) (AllReadyH.cons rfl (fun K' hK => ?_) (AllReadyH.cons rfl (fun K' hK => ?_) AllReadyH.nil))
      · rw [if_pos (by rfl)]
        (try simp only [Act.put, List.setIfInBounds_toArray, List.set_cons_zero, List.set_cons_succ])
        go_wp2_with fail
        ((with_reducible refine (T2.out _).mono ?_); rintro e wx6 ⟨rfl, hb5⟩)
        refine hK.out _ _ (Ins.below hH1 hb5) (fun hH4 => ?_)
        clear hK
        refine wpAnyH_ready (rs := [7, 12]) (by kernel_rfl) (by simp) (AllReadyH.cons rfl (fun K' hK => ?_) (AllReadyH.cons rfl (fun K' hK => ?_) AllReadyH.nil))
        · rw [if_pos (by rfl)]
          (try simp only [Act.put, List.setIfInBounds_toArray, List.set_cons_zero, List.set_cons_succ])
          go_wp2_with fail
          ((with_reducible refine (T3.out _).mono ?_); rintro e wx9 ⟨rfl, hb8⟩)
          refine hK.out _ _ (Ins.below hH4 hb8) (fun hH7 => ?_)
          clear hK
          refine wpAnyH_ready (rs := [8, 12]) (by kernel_rfl) (by simp) (AllReadyH.cons rfl (fun K' hK => ?_) (AllReadyH.cons rfl (fun K' hK => ?_) AllReadyH.nil))
          · rw [if_pos (by rfl)]
            (try simp only [Act.put, List.setIfInBounds_toArray, List.set_cons_zero, List.set_cons_succ])
            go_wp2_with fail
            ((with_reducible refine (HS.out _).mono ?_); rintro e wx12 ⟨rfl, hb11⟩)
            refine hK.out _ _ (Ins.below hH7 hb11) (fun hH10 => ?_)
            clear hK
            refine wpAnyH_take (i := 9) (v := (.tuple #[.agg (flCells M), .int .i64 q])) rfl (by kernel_rfl) (by kernel_rfl) (by kernel_rfl) (fun _ _ _ h => h) (Or.inl ⟨by rfl, fun w _ => by go_simp⟩) hH10 ?_
            refine wpAnyH_take (i := 10) (v := (.agg (flCells M))) rfl (by kernel_rfl) (by kernel_rfl) (by kernel_rfl) (fun _ _ _ h => h) (Or.inl ⟨by rfl, fun w _ => by go_simp⟩) hH10 ?_
            refine wpAnyH_take (i := 11) (v := (.int .i64 q)) rfl (by kernel_rfl) (by kernel_rfl) (by kernel_rfl) (fun _ _ _ h => h) (Or.inl ⟨by rfl, fun w _ => by go_simp⟩) hH10 ?_
            refine wpAnyH_ready (rs := [12]) (by kernel_rfl) (by simp) (AllReadyH.cons rfl (fun K' hK => ?_) AllReadyH.nil)
            rw [if_pos (by rfl)]
            (try simp only [Act.put, List.setIfInBounds_toArray, List.set_cons_zero, List.set_cons_succ])
            go_wp2_with fail
            have nw14 := New.made hH10 (flCells zero36) 26
            refine hK.out _ _ (Ins.alloc hH10 _) (fun hH15 => ?_)
            clear hK
            refine wpAnyH_ready (rs := [13]) (by kernel_rfl) (by simp) (AllReadyH.cons rfl (fun K' hK => ?_) AllReadyH.nil)
            rw [if_pos (by rfl)]
            (try simp only [Act.put, List.setIfInBounds_toArray, List.set_cons_zero, List.set_cons_succ])
            refine wp_store_row 26 _ _ rfl _ (flCells M) rfl rfl 26 (flCells zero36) nw14.2.2 (by rw [flCells_size, HM.out]; kernel_rfl) (by rw [flCells_size, flCells_size, HM.out]; rfl) (fl_oneCell _) ?_
            have nw17 := New.setRow nw14 (flCells M)
            refine hK.out _ _ (Ins.setRow hH15 nw14.1 (flCells M)) (fun hH16 => ?_)
            clear hK
            refine wpAnyH_ready (rs := [14]) (by kernel_rfl) (by simp) (AllReadyH.cons rfl (fun K' hK => ?_) AllReadyH.nil)
            rw [if_pos (by rfl)]
            (try simp only [Act.put, List.setIfInBounds_toArray, List.set_cons_zero, List.set_cons_succ])
            go_wp2_with fail
            refine hK.out _ _ hH16 (fun hH18 => ?_)
            clear hK
            refine wpAnyH_done (by kernel_rfl) ?_ _
            go_wp2_with fail
            go_meet
            case rel => exact ⟨_, rfl, rfl, hH18, nw17⟩
          · rw [if_pos (by rfl)]
            (try simp only [Act.put, List.setIfInBounds_toArray, List.set_cons_zero, List.set_cons_succ])
            go_wp2_with fail
            have nw20 := New.made hH7 (flCells zero36) 26
            refine hK.out _ _ (Ins.alloc hH7 _) (fun hH21 => ?_)
            clear hK
            refine wpAnyH_ready (rs := [8]) (by kernel_rfl) (by simp) (AllReadyH.cons rfl (fun K' hK => ?_) AllReadyH.nil)
            rw [if_pos (by rfl)]
            (try simp only [Act.put, List.setIfInBounds_toArray, List.set_cons_zero, List.set_cons_succ])
            go_wp2_with fail
            ((with_reducible refine (HS.out _).mono ?_); rintro e wx24 ⟨rfl, hb23⟩)
            have nw25 := New.below nw20 hb23
            refine hK.out _ _ (Ins.below hH21 hb23) (fun hH22 => ?_)
            clear hK
            refine wpAnyH_take (i := 9) (v := (.tuple #[.agg (flCells M), .int .i64 q])) rfl (by kernel_rfl) (by kernel_rfl) (by kernel_rfl) (fun _ _ _ h => h) (Or.inl ⟨by rfl, fun w _ => by go_simp⟩) hH22 ?_
            refine wpAnyH_take (i := 10) (v := (.agg (flCells M))) rfl (by kernel_rfl) (by kernel_rfl) (by kernel_rfl) (fun _ _ _ h => h) (Or.inl ⟨by rfl, fun w _ => by go_simp⟩) hH22 ?_
            refine wpAnyH_take (i := 11) (v := (.int .i64 q)) rfl (by kernel_rfl) (by kernel_rfl) (by kernel_rfl) (fun _ _ _ h => h) (Or.inl ⟨by rfl, fun w _ => by go_simp⟩) hH22 ?_
            refine wpAnyH_ready (rs := [13]) (by kernel_rfl) (by simp) (AllReadyH.cons rfl (fun K' hK => ?_) AllReadyH.nil)
            rw [if_pos (by rfl)]
            (try simp only [Act.put, List.setIfInBounds_toArray, List.set_cons_zero, List.set_cons_succ])
            refine wp_store_row 26 _ _ rfl _ (flCells M) rfl rfl 26 (flCells zero36) nw25.2.2 (by rw [flCells_size, HM.out]; kernel_rfl) (by rw [flCells_size, flCells_size, HM.out]; rfl) (fl_oneCell _) ?_
            have nw27 := New.setRow nw25 (flCells M)
            refine hK.out _ _ (Ins.setRow hH22 nw25.1 (flCells M)) (fun hH26 => ?_)
            clear hK
            refine wpAnyH_ready (rs := [14]) (by kernel_rfl) (by simp) (AllReadyH.cons rfl (fun K' hK => ?_) AllReadyH.nil)
            rw [if_pos (by rfl)]
            (try simp only [Act.put, List.setIfInBounds_toArray, List.set_cons_zero, List.set_cons_succ])
            go_wp2_with fail
            refine hK.out _ _ hH26 (fun hH28 => ?_)
            clear hK
            refine wpAnyH_done (by kernel_rfl) ?_ _
            go_wp2_with fail
            go_meet
            case rel => exact ⟨_, rfl, rfl, hH28, nw27⟩
        · rw [if_pos (by rfl)]
          (try simp only [Act.put, List.setIfInBounds_toArray, List.set_cons_zero, List.set_cons_succ])
          go_wp2_with fail
          have nw30 := New.made hH4 (flCells zero36) 26
          refine hK.out _ _ (Ins.alloc hH4 _) (fun hH31 => ?_)
          clear hK
          refine wpAnyH_ready (rs := [7]) (by kernel_rfl) (by simp) (AllReadyH.cons rfl (fun K' hK => ?_) AllReadyH.nil)
          rw [if_pos (by rfl)]
          (try simp only [Act.put, List.setIfInBounds_toArray, List.set_cons_zero, List.set_cons_succ])
          go_wp2_with fail
          ((with_reducible refine (T3.out _).mono ?_); rintro e wx34 ⟨rfl, hb33⟩)
          have nw35 := New.below nw30 hb33
          refine hK.out _ _ (Ins.below hH31 hb33) (fun hH32 => ?_)
          clear hK
          refine wpAnyH_ready (rs := [8]) (by kernel_rfl) (by simp) (AllReadyH.cons rfl (fun K' hK => ?_) AllReadyH.nil)
          rw [if_pos (by rfl)]
          (try simp only [Act.put, List.setIfInBounds_toArray, List.set_cons_zero, List.set_cons_succ])
          go_wp2_with fail
          ((with_reducible refine (HS.out _).mono ?_); rintro e wx38 ⟨rfl, hb37⟩)
          have nw39 := New.below nw35 hb37
          refine hK.out _ _ (Ins.below hH32 hb37) (fun hH36 => ?_)
          clear hK
          refine wpAnyH_take (i := 9) (v := (.tuple #[.agg (flCells M), .int .i64 q])) rfl (by kernel_rfl) (by kernel_rfl) (by kernel_rfl) (fun _ _ _ h => h) (Or.inl ⟨by rfl, fun w _ => by go_simp⟩) hH36 ?_
          refine wpAnyH_take (i := 10) (v := (.agg (flCells M))) rfl (by kernel_rfl) (by kernel_rfl) (by kernel_rfl) (fun _ _ _ h => h) (Or.inl ⟨by rfl, fun w _ => by go_simp⟩) hH36 ?_
          refine wpAnyH_take (i := 11) (v := (.int .i64 q)) rfl (by kernel_rfl) (by kernel_rfl) (by kernel_rfl) (fun _ _ _ h => h) (Or.inl ⟨by rfl, fun w _ => by go_simp⟩) hH36 ?_
          refine wpAnyH_ready (rs := [13]) (by kernel_rfl) (by simp) (AllReadyH.cons rfl (fun K' hK => ?_) AllReadyH.nil)
          rw [if_pos (by rfl)]
          (try simp only [Act.put, List.setIfInBounds_toArray, List.set_cons_zero, List.set_cons_succ])
          refine wp_store_row 26 _ _ rfl _ (flCells M) rfl rfl 26 (flCells zero36) nw39.2.2 (by rw [flCells_size, HM.out]; kernel_rfl) (by rw [flCells_size, flCells_size, HM.out]; rfl) (fl_oneCell _) ?_
          have nw41 := New.setRow nw39 (flCells M)
          refine hK.out _ _ (Ins.setRow hH36 nw39.1 (flCells M)) (fun hH40 => ?_)
          clear hK
          refine wpAnyH_ready (rs := [14]) (by kernel_rfl) (by simp) (AllReadyH.cons rfl (fun K' hK => ?_) AllReadyH.nil)
          rw [if_pos (by rfl)]
          (try simp only [Act.put, List.setIfInBounds_toArray, List.set_cons_zero, List.set_cons_succ])
          go_wp2_with fail
          refine hK.out _ _ hH40 (fun hH42 => ?_)
          clear hK
          refine wpAnyH_done (by kernel_rfl) ?_ _
          go_wp2_with fail
          go_meet
          case rel => exact ⟨_, rfl, rfl, hH42, nw41⟩
      · rw [if_pos (by rfl)]
        (try simp only [Act.put, List.setIfInBounds_toArray, List.set_cons_zero, List.set_cons_succ])
        go_wp2_with fail
        have nw44 := New.made hH1 (flCells zero36) 26
        refine hK.out _ _ (Ins.alloc hH1 _) (fun hH45 => ?_)
        clear hK
        refine wpAnyH_ready (rs := [3]) (by kernel_rfl) (by simp) (AllReadyH.cons rfl (fun K' hK => ?_) AllReadyH.nil)
        rw [if_pos (by rfl)]
        (try simp only [Act.put, List.setIfInBounds_toArray, List.set_cons_zero, List.set_cons_succ])
        go_wp2_with fail
        ((with_reducible refine (T2.out _).mono ?_); rintro e wx48 ⟨rfl, hb47⟩)
        have nw49 := New.below nw44 hb47
        refine hK.out _ _ (Ins.below hH45 hb47) (fun hH46 => ?_)
        clear hK
        refine wpAnyH_ready (rs := [7]) (by kernel_rfl) (by simp) (AllReadyH.cons rfl (fun K' hK => ?_) AllReadyH.nil)
        rw [if_pos (by rfl)]
        (try simp only [Act.put, List.setIfInBounds_toArray, List.set_cons_zero, List.set_cons_succ])
        go_wp2_with fail
        ((with_reducible refine (T3.out _).mono ?_); rintro e wx52 ⟨rfl, hb51⟩)
        have nw53 := New.below nw49 hb51
        refine hK.out _ _ (Ins.below hH46 hb51) (fun hH50 => ?_)
        clear hK
        refine wpAnyH_ready (rs := [8]) (by kernel_rfl) (by simp) (AllReadyH.cons rfl (fun K' hK => ?_) AllReadyH.nil)
        rw [if_pos (by rfl)]
        (try simp only [Act.put, List.setIfInBounds_toArray, List.set_cons_zero, List.set_cons_succ])
        go_wp2_with fail
        ((with_reducible refine (HS.out _).mono ?_); rintro e wx56 ⟨rfl, hb55⟩)
        have nw57 := New.below nw53 hb55
        refine hK.out _ _ (Ins.below hH50 hb55) (fun hH54 => ?_)
        clear hK
        refine wpAnyH_take (i := 9) (v := (.tuple #[.agg (flCells M), .int .i64 q])) rfl (by kernel_rfl) (by kernel_rfl) (by kernel_rfl) (fun _ _ _ h => h) (Or.inl ⟨by rfl, fun w _ => by go_simp⟩) hH54 ?_
        refine wpAnyH_take (i := 10) (v := (.agg (flCells M))) rfl (by kernel_rfl) (by kernel_rfl) (by kernel_rfl) (fun _ _ _ h => h) (Or.inl ⟨by rfl, fun w _ => by go_simp⟩) hH54 ?_
        refine wpAnyH_take (i := 11) (v := (.int .i64 q)) rfl (by kernel_rfl) (by kernel_rfl) (by kernel_rfl) (fun _ _ _ h => h) (Or.inl ⟨by rfl, fun w _ => by go_simp⟩) hH54 ?_
        refine wpAnyH_ready (rs := [13]) (by kernel_rfl) (by simp) (AllReadyH.cons rfl (fun K' hK => ?_) AllReadyH.nil)
        rw [if_pos (by rfl)]
        (try simp only [Act.put, List.setIfInBounds_toArray, List.set_cons_zero, List.set_cons_succ])
        refine wp_store_row 26 _ _ rfl _ (flCells M) rfl rfl 26 (flCells zero36) nw57.2.2 (by rw [flCells_size, HM.out]; kernel_rfl) (by rw [flCells_size, flCells_size, HM.out]; rfl) (fl_oneCell _) ?_
        have nw59 := New.setRow nw57 (flCells M)
        refine hK.out _ _ (Ins.setRow hH54 nw57.1 (flCells M)) (fun hH58 => ?_)
        clear hK
        refine wpAnyH_ready (rs := [14]) (by kernel_rfl) (by simp) (AllReadyH.cons rfl (fun K' hK => ?_) AllReadyH.nil)
        rw [if_pos (by rfl)]
        (try simp only [Act.put, List.setIfInBounds_toArray, List.set_cons_zero, List.set_cons_succ])
        go_wp2_with fail
        refine hK.out _ _ hH58 (fun hH60 => ?_)
        clear hK
        refine wpAnyH_done (by kernel_rfl) ?_ _
        go_wp2_with fail
        go_meet
        case rel => exact ⟨_, rfl, rfl, hH60, nw59⟩
    · rw [if_pos (by rfl)]
      (try simp only [Act.put, List.setIfInBounds_toArray, List.set_cons_zero, List.set_cons_succ])
      go_wp2_with fail
      have nw62 := New.made hHeld (flCells zero36) 26
      refine hK.out _ _ (Ins.alloc hHeld _) (fun hH63 => ?_)
      clear hK
      refine wpAnyH_ready (rs := [1]) (by kernel_rfl) (by simp) (AllReadyH.cons rfl (fun K' hK => ?_) AllReadyH.nil)
      rw [if_pos (by rfl)]
      (try simp only [Act.put, List.setIfInBounds_toArray, List.set_cons_zero, List.set_cons_succ])
      go_wp2_with fail
      ((with_reducible refine (T1.out _).mono ?_); rintro e wx66 ⟨rfl, hb65⟩)
      have nw67 := New.below nw62 hb65
      refine hK.out _ _ (Ins.below hH63 hb65) (fun hH64 => ?_)
      clear hK
      refine wpAnyH_ready (rs := [3]) (by kernel_rfl) (by simp) (AllReadyH.cons rfl (fun K' hK => ?_) AllReadyH.nil)
      rw [if_pos (by rfl)]
      (try simp only [Act.put, List.setIfInBounds_toArray, List.set_cons_zero, List.set_cons_succ])
      go_wp2_with fail
      ((with_reducible refine (T2.out _).mono ?_); rintro e wx70 ⟨rfl, hb69⟩)
      have nw71 := New.below nw67 hb69
      refine hK.out _ _ (Ins.below hH64 hb69) (fun hH68 => ?_)
      clear hK
      refine wpAnyH_ready (rs := [7]) (by kernel_rfl) (by simp) (AllReadyH.cons rfl (fun K' hK => ?_) AllReadyH.nil)
      rw [if_pos (by rfl)]
      (try simp only [Act.put, List.setIfInBounds_toArray, List.set_cons_zero, List.set_cons_succ])
      go_wp2_with fail
      ((with_reducible refine (T3.out _).mono ?_); rintro e wx74 ⟨rfl, hb73⟩)
      have nw75 := New.below nw71 hb73
      refine hK.out _ _ (Ins.below hH68 hb73) (fun hH72 => ?_)
      clear hK
      refine wpAnyH_ready (rs := [8]) (by kernel_rfl) (by simp) (AllReadyH.cons rfl (fun K' hK => ?_) AllReadyH.nil)
      rw [if_pos (by rfl)]
      (try simp only [Act.put, List.setIfInBounds_toArray, List.set_cons_zero, List.set_cons_succ])
      go_wp2_with fail
      ((with_reducible refine (HS.out _).mono ?_); rintro e wx78 ⟨rfl, hb77⟩)
      have nw79 := New.below nw75 hb77
      refine hK.out _ _ (Ins.below hH72 hb77) (fun hH76 => ?_)
      clear hK
      refine wpAnyH_take (i := 9) (v := (.tuple #[.agg (flCells M), .int .i64 q])) rfl (by kernel_rfl) (by kernel_rfl) (by kernel_rfl) (fun _ _ _ h => h) (Or.inl ⟨by rfl, fun w _ => by go_simp⟩) hH76 ?_
      refine wpAnyH_take (i := 10) (v := (.agg (flCells M))) rfl (by kernel_rfl) (by kernel_rfl) (by kernel_rfl) (fun _ _ _ h => h) (Or.inl ⟨by rfl, fun w _ => by go_simp⟩) hH76 ?_
      refine wpAnyH_take (i := 11) (v := (.int .i64 q)) rfl (by kernel_rfl) (by kernel_rfl) (by kernel_rfl) (fun _ _ _ h => h) (Or.inl ⟨by rfl, fun w _ => by go_simp⟩) hH76 ?_
      refine wpAnyH_ready (rs := [13]) (by kernel_rfl) (by simp) (AllReadyH.cons rfl (fun K' hK => ?_) AllReadyH.nil)
      rw [if_pos (by rfl)]
      (try simp only [Act.put, List.setIfInBounds_toArray, List.set_cons_zero, List.set_cons_succ])
      refine wp_store_row 26 _ _ rfl _ (flCells M) rfl rfl 26 (flCells zero36) nw79.2.2 (by rw [flCells_size, HM.out]; kernel_rfl) (by rw [flCells_size, flCells_size, HM.out]; rfl) (fl_oneCell _) ?_
      have nw81 := New.setRow nw79 (flCells M)
      refine hK.out _ _ (Ins.setRow hH76 nw79.1 (flCells M)) (fun hH80 => ?_)
      clear hK
      refine wpAnyH_ready (rs := [14]) (by kernel_rfl) (by simp) (AllReadyH.cons rfl (fun K' hK => ?_) AllReadyH.nil)
      rw [if_pos (by rfl)]
      (try simp only [Act.put, List.setIfInBounds_toArray, List.set_cons_zero, List.set_cons_succ])
      go_wp2_with fail
      refine hK.out _ _ hH80 (fun hH82 => ?_)
      clear hK
      refine wpAnyH_done (by kernel_rfl) ?_ _
      go_wp2_with fail
      go_meet
      case rel => exact ⟨_, rfl, rfl, hH82, nw81⟩
  case rest =>
    obtain ⟨b1, rfl, rfl, I1, N1⟩ := hcut
    go_wp2_with fail
    go_cut [13, 14] (fun s5 s6 wx => ∃ b, s5 = .pointer (some ⟨b, 0, none⟩) ∧ s6 = .int .i64 q ∧ Ins w os wx ∧ New w os.length b1 (flCells M) 26 wx ∧ New w os.length b (flCells M) 26 wx)
    case first =>
      refine wp_region_held_drew (S := (Ins w os)) (by kernel_rfl) (Ins.drew I1) (fun hHeld => ?_)
      refine wpAnyH_take (i := 0) rfl (by kernel_rfl) (by kernel_rfl) (by kernel_rfl) (fun _ _ _ h => h) (yieldsIf_load_mid (by rfl) _ _ rfl _ _ rfl [.int .i8 a, .int .i8 b, .float .f32 f, .int .u8 v0, .int .u8 v1, .int .u8 v2, .int .u8 v3, .int .u8 v4, .int .u8 v5] _ (fun W hW j v hv => (cell_of_row _ _ _ _ _ _ (hW.2.2 0 _ O0)).trans (by rw [Nat.zero_add, ← hv]; simp)) Try.underlying32 rfl (by kernel_rfl)) hHeld ?_
      refine wpAnyH_take (i := 2) rfl (by kernel_rfl) (by kernel_rfl) (by kernel_rfl) (fun _ _ _ h => h) (yieldsIf_load_mid (by rfl) _ _ rfl _ _ rfl (flCells l).toList _ (fun W hW j v hv => (cell_of_row _ _ _ _ _ _ (hW.2.2 1 _ O1)).trans (by rw [Nat.zero_add, ← hv]; simp)) Try.underlying24 rfl (by rw [Array.length_toList, flCells_size, HL.out]; kernel_rfl)) hHeld ?_
      refine wpAnyH_take (i := 4) (v := .int .i64 x) rfl (by kernel_rfl) (by kernel_rfl) (by kernel_rfl) (fun _ _ _ h => h) (Or.inl ⟨by rfl, fun w _ => by go_simp⟩) hHeld ?_
      refine wpAnyH_take (i := 5) (v := .int .i64 y) rfl (by kernel_rfl) (by kernel_rfl) (by kernel_rfl) (fun _ _ _ h => h) (Or.inl ⟨by rfl, fun w _ => by go_simp⟩) hHeld ?_
      refine wpAnyH_take (i := 6) rfl (by kernel_rfl) (by kernel_rfl) (by kernel_rfl) (fun _ _ _ h => h) (yieldsIf_load_mid (by rfl) _ _ rfl _ _ rfl (crateCells n c).toList _ (fun W hW j v hv => (cell_of_row _ _ _ _ _ _ (hW.2.2 2 _ O2)).trans (by rw [Nat.zero_add, ← hv]; simp)) Try.underlying51 rfl (by rw [Array.length_toList, crateCells_size, HC.out]; kernel_rfl)) hHeld ?_
      have nw1 := New.drew N1
      refine wpAnyH_ready (rs := [1, 12]) (by kernel_rfl) (by simp) (AllReadyH.cons rfl (fun K' hK => ?_) (AllReadyH.cons rfl (fun K' hK => ?_) AllReadyH.nil))
      · rw [if_pos (by rfl)]
        (try simp only [Act.put, List.setIfInBounds_toArray, List.set_cons_zero, List.set_cons_succ])
        go_wp2_with fail
        ((with_reducible refine (T1.out _).mono ?_); rintro e wx4 ⟨rfl, hb3⟩)
        have nw5 := New.below nw1 hb3
        refine hK.out _ _ (Ins.below hHeld hb3) (fun hH2 => ?_)
        clear hK
        refine wpAnyH_ready (rs := [3, 12]) (by kernel_rfl) (by simp) (AllReadyH.cons rfl (fun K' hK => ?_) (AllReadyH.cons rfl (fun K' hK => ?_) AllReadyH.nil))
        · rw [if_pos (by rfl)]
          (try simp only [Act.put, List.setIfInBounds_toArray, List.set_cons_zero, List.set_cons_succ])
          go_wp2_with fail
          ((with_reducible refine (T2.out _).mono ?_); rintro e wx8 ⟨rfl, hb7⟩)
          have nw9 := New.below nw5 hb7
          refine hK.out _ _ (Ins.below hH2 hb7) (fun hH6 => ?_)
          clear hK
          refine wpAnyH_ready (rs := [7, 12]) (by kernel_rfl) (by simp) (AllReadyH.cons rfl (fun K' hK => ?_) (AllReadyH.cons rfl (fun K' hK => ?_) AllReadyH.nil))
          · rw [if_pos (by rfl)]
            (try simp only [Act.put, List.setIfInBounds_toArray, List.set_cons_zero, List.set_cons_succ])
            go_wp2_with fail
            ((with_reducible refine (T3.out _).mono ?_); rintro e wx12 ⟨rfl, hb11⟩)
            have nw13 := New.below nw9 hb11
            refine hK.out _ _ (Ins.below hH6 hb11) (fun hH10 => ?_)
            clear hK
            refine wpAnyH_ready (rs := [8, 12]) (by kernel_rfl) (by simp) (AllReadyH.cons rfl (fun K' hK => ?_) (AllReadyH.cons rfl (fun K' hK => ?_) AllReadyH.nil))
            · rw [if_pos (by rfl)]
              (try simp only [Act.put, List.setIfInBounds_toArray, List.set_cons_zero, List.set_cons_succ])
              go_wp2_with fail
              ((with_reducible refine (HI.out _).mono ?_); rintro e wx16 ⟨rfl, hb15⟩)
              have nw17 := New.below nw13 hb15
              refine hK.out _ _ (Ins.below hH10 hb15) (fun hH14 => ?_)
              clear hK
              refine wpAnyH_take (i := 9) (v := (.tuple #[.agg (flCells M), .int .i64 q])) rfl (by kernel_rfl) (by kernel_rfl) (by kernel_rfl) (fun _ _ _ h => h) (Or.inl ⟨by rfl, fun w _ => by go_simp⟩) hH14 ?_
              refine wpAnyH_take (i := 10) (v := (.agg (flCells M))) rfl (by kernel_rfl) (by kernel_rfl) (by kernel_rfl) (fun _ _ _ h => h) (Or.inl ⟨by rfl, fun w _ => by go_simp⟩) hH14 ?_
              refine wpAnyH_take (i := 11) (v := (.int .i64 q)) rfl (by kernel_rfl) (by kernel_rfl) (by kernel_rfl) (fun _ _ _ h => h) (Or.inl ⟨by rfl, fun w _ => by go_simp⟩) hH14 ?_
              refine wpAnyH_ready (rs := [12]) (by kernel_rfl) (by simp) (AllReadyH.cons rfl (fun K' hK => ?_) AllReadyH.nil)
              rw [if_pos (by rfl)]
              (try simp only [Act.put, List.setIfInBounds_toArray, List.set_cons_zero, List.set_cons_succ])
              go_wp2_with fail
              have nw19 := New.made hH14 (flCells zero36) 26
              have lt21 := nw17.2.1
              refine hK.out _ _ (Ins.alloc hH14 _) (fun hH20 => ?_)
              clear hK
              have nw22 := New.alloc nw17 (.cells (flCells zero36) 26)
              refine wpAnyH_ready (rs := [13]) (by kernel_rfl) (by simp) (AllReadyH.cons rfl (fun K' hK => ?_) AllReadyH.nil)
              rw [if_pos (by rfl)]
              (try simp only [Act.put, List.setIfInBounds_toArray, List.set_cons_zero, List.set_cons_succ])
              refine wp_store_row 26 _ _ rfl _ (flCells M) rfl rfl 26 (flCells zero36) nw19.2.2 (by rw [flCells_size, HM.out]; kernel_rfl) (by rw [flCells_size, flCells_size, HM.out]; rfl) (fl_oneCell _) ?_
              have nw24 := New.setRow nw19 (flCells M)
              have nw25 := New.other nw22 (Nat.ne_of_lt lt21) (flCells M)
              refine hK.out _ _ (Ins.setRow hH20 nw19.1 (flCells M)) (fun hH23 => ?_)
              clear hK
              refine wpAnyH_ready (rs := [14]) (by kernel_rfl) (by simp) (AllReadyH.cons rfl (fun K' hK => ?_) AllReadyH.nil)
              rw [if_pos (by rfl)]
              (try simp only [Act.put, List.setIfInBounds_toArray, List.set_cons_zero, List.set_cons_succ])
              go_wp2_with fail
              refine hK.out _ _ hH23 (fun hH26 => ?_)
              clear hK
              refine wpAnyH_done (by kernel_rfl) ?_ _
              go_wp2_with fail
              go_meet
              case rel => exact ⟨_, rfl, rfl, hH26, nw25, nw24⟩
            · rw [if_pos (by rfl)]
              (try simp only [Act.put, List.setIfInBounds_toArray, List.set_cons_zero, List.set_cons_succ])
              go_wp2_with fail
              have nw28 := New.made hH10 (flCells zero36) 26
              have lt30 := nw13.2.1
              refine hK.out _ _ (Ins.alloc hH10 _) (fun hH29 => ?_)
              clear hK
              have nw31 := New.alloc nw13 (.cells (flCells zero36) 26)
              refine wpAnyH_ready (rs := [8]) (by kernel_rfl) (by simp) (AllReadyH.cons rfl (fun K' hK => ?_) AllReadyH.nil)
              rw [if_pos (by rfl)]
              (try simp only [Act.put, List.setIfInBounds_toArray, List.set_cons_zero, List.set_cons_succ])
              go_wp2_with fail
              ((with_reducible refine (HI.out _).mono ?_); rintro e wx34 ⟨rfl, hb33⟩)
              have nw35 := New.below nw31 hb33
              have nw36 := New.below nw28 hb33
              refine hK.out _ _ (Ins.below hH29 hb33) (fun hH32 => ?_)
              clear hK
              refine wpAnyH_take (i := 9) (v := (.tuple #[.agg (flCells M), .int .i64 q])) rfl (by kernel_rfl) (by kernel_rfl) (by kernel_rfl) (fun _ _ _ h => h) (Or.inl ⟨by rfl, fun w _ => by go_simp⟩) hH32 ?_
              refine wpAnyH_take (i := 10) (v := (.agg (flCells M))) rfl (by kernel_rfl) (by kernel_rfl) (by kernel_rfl) (fun _ _ _ h => h) (Or.inl ⟨by rfl, fun w _ => by go_simp⟩) hH32 ?_
              refine wpAnyH_take (i := 11) (v := (.int .i64 q)) rfl (by kernel_rfl) (by kernel_rfl) (by kernel_rfl) (fun _ _ _ h => h) (Or.inl ⟨by rfl, fun w _ => by go_simp⟩) hH32 ?_
              refine wpAnyH_ready (rs := [13]) (by kernel_rfl) (by simp) (AllReadyH.cons rfl (fun K' hK => ?_) AllReadyH.nil)
              rw [if_pos (by rfl)]
              (try simp only [Act.put, List.setIfInBounds_toArray, List.set_cons_zero, List.set_cons_succ])
              refine wp_store_row 26 _ _ rfl _ (flCells M) rfl rfl 26 (flCells zero36) nw36.2.2 (by rw [flCells_size, HM.out]; kernel_rfl) (by rw [flCells_size, flCells_size, HM.out]; rfl) (fl_oneCell _) ?_
              have nw38 := New.setRow nw36 (flCells M)
              have nw39 := New.other nw35 (Nat.ne_of_lt lt30) (flCells M)
              refine hK.out _ _ (Ins.setRow hH32 nw36.1 (flCells M)) (fun hH37 => ?_)
              clear hK
              refine wpAnyH_ready (rs := [14]) (by kernel_rfl) (by simp) (AllReadyH.cons rfl (fun K' hK => ?_) AllReadyH.nil)
              rw [if_pos (by rfl)]
              (try simp only [Act.put, List.setIfInBounds_toArray, List.set_cons_zero, List.set_cons_succ])
              go_wp2_with fail
              refine hK.out _ _ hH37 (fun hH40 => ?_)
              clear hK
              refine wpAnyH_done (by kernel_rfl) ?_ _
              go_wp2_with fail
              go_meet
              case rel => exact ⟨_, rfl, rfl, hH40, nw39, nw38⟩
          · rw [if_pos (by rfl)]
            (try simp only [Act.put, List.setIfInBounds_toArray, List.set_cons_zero, List.set_cons_succ])
            go_wp2_with fail
            have nw42 := New.made hH6 (flCells zero36) 26
            have lt44 := nw9.2.1
            refine hK.out _ _ (Ins.alloc hH6 _) (fun hH43 => ?_)
            clear hK
            have nw45 := New.alloc nw9 (.cells (flCells zero36) 26)
            refine wpAnyH_ready (rs := [7]) (by kernel_rfl) (by simp) (AllReadyH.cons rfl (fun K' hK => ?_) AllReadyH.nil)
            rw [if_pos (by rfl)]
            (try simp only [Act.put, List.setIfInBounds_toArray, List.set_cons_zero, List.set_cons_succ])
            go_wp2_with fail
            ((with_reducible refine (T3.out _).mono ?_); rintro e wx48 ⟨rfl, hb47⟩)
            have nw49 := New.below nw45 hb47
            have nw50 := New.below nw42 hb47
            refine hK.out _ _ (Ins.below hH43 hb47) (fun hH46 => ?_)
            clear hK
            refine wpAnyH_ready (rs := [8]) (by kernel_rfl) (by simp) (AllReadyH.cons rfl (fun K' hK => ?_) AllReadyH.nil)
            rw [if_pos (by rfl)]
            (try simp only [Act.put, List.setIfInBounds_toArray, List.set_cons_zero, List.set_cons_succ])
            go_wp2_with fail
            ((with_reducible refine (HI.out _).mono ?_); rintro e wx53 ⟨rfl, hb52⟩)
            have nw54 := New.below nw49 hb52
            have nw55 := New.below nw50 hb52
            refine hK.out _ _ (Ins.below hH46 hb52) (fun hH51 => ?_)
            clear hK
            refine wpAnyH_take (i := 9) (v := (.tuple #[.agg (flCells M), .int .i64 q])) rfl (by kernel_rfl) (by kernel_rfl) (by kernel_rfl) (fun _ _ _ h => h) (Or.inl ⟨by rfl, fun w _ => by go_simp⟩) hH51 ?_
            refine wpAnyH_take (i := 10) (v := (.agg (flCells M))) rfl (by kernel_rfl) (by kernel_rfl) (by kernel_rfl) (fun _ _ _ h => h) (Or.inl ⟨by rfl, fun w _ => by go_simp⟩) hH51 ?_
            refine wpAnyH_take (i := 11) (v := (.int .i64 q)) rfl (by kernel_rfl) (by kernel_rfl) (by kernel_rfl) (fun _ _ _ h => h) (Or.inl ⟨by rfl, fun w _ => by go_simp⟩) hH51 ?_
            refine wpAnyH_ready (rs := [13]) (by kernel_rfl) (by simp) (AllReadyH.cons rfl (fun K' hK => ?_) AllReadyH.nil)
            rw [if_pos (by rfl)]
            (try simp only [Act.put, List.setIfInBounds_toArray, List.set_cons_zero, List.set_cons_succ])
            refine wp_store_row 26 _ _ rfl _ (flCells M) rfl rfl 26 (flCells zero36) nw55.2.2 (by rw [flCells_size, HM.out]; kernel_rfl) (by rw [flCells_size, flCells_size, HM.out]; rfl) (fl_oneCell _) ?_
            have nw57 := New.setRow nw55 (flCells M)
            have nw58 := New.other nw54 (Nat.ne_of_lt lt44) (flCells M)
            refine hK.out _ _ (Ins.setRow hH51 nw55.1 (flCells M)) (fun hH56 => ?_)
            clear hK
            refine wpAnyH_ready (rs := [14]) (by kernel_rfl) (by simp) (AllReadyH.cons rfl (fun K' hK => ?_) AllReadyH.nil)
            rw [if_pos (by rfl)]
            (try simp only [Act.put, List.setIfInBounds_toArray, List.set_cons_zero, List.set_cons_succ])
            go_wp2_with fail
            refine hK.out _ _ hH56 (fun hH59 => ?_)
            clear hK
            refine wpAnyH_done (by kernel_rfl) ?_ _
            go_wp2_with fail
            go_meet
            case rel => exact ⟨_, rfl, rfl, hH59, nw58, nw57⟩
        · rw [if_pos (by rfl)]
          (try simp only [Act.put, List.setIfInBounds_toArray, List.set_cons_zero, List.set_cons_succ])
          go_wp2_with fail
          have nw61 := New.made hH2 (flCells zero36) 26
          have lt63 := nw5.2.1
          refine hK.out _ _ (Ins.alloc hH2 _) (fun hH62 => ?_)
          clear hK
          have nw64 := New.alloc nw5 (.cells (flCells zero36) 26)
          refine wpAnyH_ready (rs := [3]) (by kernel_rfl) (by simp) (AllReadyH.cons rfl (fun K' hK => ?_) AllReadyH.nil)
          rw [if_pos (by rfl)]
          (try simp only [Act.put, List.setIfInBounds_toArray, List.set_cons_zero, List.set_cons_succ])
          go_wp2_with fail
          ((with_reducible refine (T2.out _).mono ?_); rintro e wx67 ⟨rfl, hb66⟩)
          have nw68 := New.below nw64 hb66
          have nw69 := New.below nw61 hb66
          refine hK.out _ _ (Ins.below hH62 hb66) (fun hH65 => ?_)
          clear hK
          refine wpAnyH_ready (rs := [7]) (by kernel_rfl) (by simp) (AllReadyH.cons rfl (fun K' hK => ?_) AllReadyH.nil)
          rw [if_pos (by rfl)]
          (try simp only [Act.put, List.setIfInBounds_toArray, List.set_cons_zero, List.set_cons_succ])
          go_wp2_with fail
          ((with_reducible refine (T3.out _).mono ?_); rintro e wx72 ⟨rfl, hb71⟩)
          have nw73 := New.below nw68 hb71
          have nw74 := New.below nw69 hb71
          refine hK.out _ _ (Ins.below hH65 hb71) (fun hH70 => ?_)
          clear hK
          refine wpAnyH_ready (rs := [8]) (by kernel_rfl) (by simp) (AllReadyH.cons rfl (fun K' hK => ?_) AllReadyH.nil)
          rw [if_pos (by rfl)]
          (try simp only [Act.put, List.setIfInBounds_toArray, List.set_cons_zero, List.set_cons_succ])
          go_wp2_with fail
          ((with_reducible refine (HI.out _).mono ?_); rintro e wx77 ⟨rfl, hb76⟩)
          have nw78 := New.below nw73 hb76
          have nw79 := New.below nw74 hb76
          refine hK.out _ _ (Ins.below hH70 hb76) (fun hH75 => ?_)
          clear hK
          refine wpAnyH_take (i := 9) (v := (.tuple #[.agg (flCells M), .int .i64 q])) rfl (by kernel_rfl) (by kernel_rfl) (by kernel_rfl) (fun _ _ _ h => h) (Or.inl ⟨by rfl, fun w _ => by go_simp⟩) hH75 ?_
          refine wpAnyH_take (i := 10) (v := (.agg (flCells M))) rfl (by kernel_rfl) (by kernel_rfl) (by kernel_rfl) (fun _ _ _ h => h) (Or.inl ⟨by rfl, fun w _ => by go_simp⟩) hH75 ?_
          refine wpAnyH_take (i := 11) (v := (.int .i64 q)) rfl (by kernel_rfl) (by kernel_rfl) (by kernel_rfl) (fun _ _ _ h => h) (Or.inl ⟨by rfl, fun w _ => by go_simp⟩) hH75 ?_
          refine wpAnyH_ready (rs := [13]) (by kernel_rfl) (by simp) (AllReadyH.cons rfl (fun K' hK => ?_) AllReadyH.nil)
          rw [if_pos (by rfl)]
          (try simp only [Act.put, List.setIfInBounds_toArray, List.set_cons_zero, List.set_cons_succ])
          refine wp_store_row 26 _ _ rfl _ (flCells M) rfl rfl 26 (flCells zero36) nw79.2.2 (by rw [flCells_size, HM.out]; kernel_rfl) (by rw [flCells_size, flCells_size, HM.out]; rfl) (fl_oneCell _) ?_
          have nw81 := New.setRow nw79 (flCells M)
          have nw82 := New.other nw78 (Nat.ne_of_lt lt63) (flCells M)
          refine hK.out _ _ (Ins.setRow hH75 nw79.1 (flCells M)) (fun hH80 => ?_)
          clear hK
          refine wpAnyH_ready (rs := [14]) (by kernel_rfl) (by simp) (AllReadyH.cons rfl (fun K' hK => ?_) AllReadyH.nil)
          rw [if_pos (by rfl)]
          (try simp only [Act.put, List.setIfInBounds_toArray, List.set_cons_zero, List.set_cons_succ])
          go_wp2_with fail
          refine hK.out _ _ hH80 (fun hH83 => ?_)
          clear hK
          refine wpAnyH_done (by kernel_rfl) ?_ _
          go_wp2_with fail
          go_meet
          case rel => exact ⟨_, rfl, rfl, hH83, nw82, nw81⟩
      · rw [if_pos (by rfl)]
        (try simp only [Act.put, List.setIfInBounds_toArray, List.set_cons_zero, List.set_cons_succ])
        go_wp2_with fail
        have nw85 := New.made hHeld (flCells zero36) 26
        have lt87 := nw1.2.1
        refine hK.out _ _ (Ins.alloc hHeld _) (fun hH86 => ?_)
        clear hK
        have nw88 := New.alloc nw1 (.cells (flCells zero36) 26)
        refine wpAnyH_ready (rs := [1]) (by kernel_rfl) (by simp) (AllReadyH.cons rfl (fun K' hK => ?_) AllReadyH.nil)
        rw [if_pos (by rfl)]
        (try simp only [Act.put, List.setIfInBounds_toArray, List.set_cons_zero, List.set_cons_succ])
        go_wp2_with fail
        ((with_reducible refine (T1.out _).mono ?_); rintro e wx91 ⟨rfl, hb90⟩)
        have nw92 := New.below nw88 hb90
        have nw93 := New.below nw85 hb90
        refine hK.out _ _ (Ins.below hH86 hb90) (fun hH89 => ?_)
        clear hK
        refine wpAnyH_ready (rs := [3]) (by kernel_rfl) (by simp) (AllReadyH.cons rfl (fun K' hK => ?_) AllReadyH.nil)
        rw [if_pos (by rfl)]
        (try simp only [Act.put, List.setIfInBounds_toArray, List.set_cons_zero, List.set_cons_succ])
        go_wp2_with fail
        ((with_reducible refine (T2.out _).mono ?_); rintro e wx96 ⟨rfl, hb95⟩)
        have nw97 := New.below nw92 hb95
        have nw98 := New.below nw93 hb95
        refine hK.out _ _ (Ins.below hH89 hb95) (fun hH94 => ?_)
        clear hK
        refine wpAnyH_ready (rs := [7]) (by kernel_rfl) (by simp) (AllReadyH.cons rfl (fun K' hK => ?_) AllReadyH.nil)
        rw [if_pos (by rfl)]
        (try simp only [Act.put, List.setIfInBounds_toArray, List.set_cons_zero, List.set_cons_succ])
        go_wp2_with fail
        ((with_reducible refine (T3.out _).mono ?_); rintro e wx101 ⟨rfl, hb100⟩)
        have nw102 := New.below nw97 hb100
        have nw103 := New.below nw98 hb100
        refine hK.out _ _ (Ins.below hH94 hb100) (fun hH99 => ?_)
        clear hK
        refine wpAnyH_ready (rs := [8]) (by kernel_rfl) (by simp) (AllReadyH.cons rfl (fun K' hK => ?_) AllReadyH.nil)
        rw [if_pos (by rfl)]
        (try simp only [Act.put, List.setIfInBounds_toArray, List.set_cons_zero, List.set_cons_succ])
        go_wp2_with fail
        ((with_reducible refine (HI.out _).mono ?_); rintro e wx106 ⟨rfl, hb105⟩)
        have nw107 := New.below nw102 hb105
        have nw108 := New.below nw103 hb105
        refine hK.out _ _ (Ins.below hH99 hb105) (fun hH104 => ?_)
        clear hK
        refine wpAnyH_take (i := 9) (v := (.tuple #[.agg (flCells M), .int .i64 q])) rfl (by kernel_rfl) (by kernel_rfl) (by kernel_rfl) (fun _ _ _ h => h) (Or.inl ⟨by rfl, fun w _ => by go_simp⟩) hH104 ?_
        refine wpAnyH_take (i := 10) (v := (.agg (flCells M))) rfl (by kernel_rfl) (by kernel_rfl) (by kernel_rfl) (fun _ _ _ h => h) (Or.inl ⟨by rfl, fun w _ => by go_simp⟩) hH104 ?_
        refine wpAnyH_take (i := 11) (v := (.int .i64 q)) rfl (by kernel_rfl) (by kernel_rfl) (by kernel_rfl) (fun _ _ _ h => h) (Or.inl ⟨by rfl, fun w _ => by go_simp⟩) hH104 ?_
        refine wpAnyH_ready (rs := [13]) (by kernel_rfl) (by simp) (AllReadyH.cons rfl (fun K' hK => ?_) AllReadyH.nil)
        rw [if_pos (by rfl)]
        (try simp only [Act.put, List.setIfInBounds_toArray, List.set_cons_zero, List.set_cons_succ])
        refine wp_store_row 26 _ _ rfl _ (flCells M) rfl rfl 26 (flCells zero36) nw108.2.2 (by rw [flCells_size, HM.out]; kernel_rfl) (by rw [flCells_size, flCells_size, HM.out]; rfl) (fl_oneCell _) ?_
        have nw110 := New.setRow nw108 (flCells M)
        have nw111 := New.other nw107 (Nat.ne_of_lt lt87) (flCells M)
        refine hK.out _ _ (Ins.setRow hH104 nw108.1 (flCells M)) (fun hH109 => ?_)
        clear hK
        refine wpAnyH_ready (rs := [14]) (by kernel_rfl) (by simp) (AllReadyH.cons rfl (fun K' hK => ?_) AllReadyH.nil)
        rw [if_pos (by rfl)]
        (try simp only [Act.put, List.setIfInBounds_toArray, List.set_cons_zero, List.set_cons_succ])
        go_wp2_with fail
        refine hK.out _ _ hH109 (fun hH112 => ?_)
        clear hK
        refine wpAnyH_done (by kernel_rfl) ?_ _
        go_wp2_with fail
        go_meet
        case rel => exact ⟨_, rfl, rfl, hH112, nw111, nw110⟩
    case rest =>
      obtain ⟨b2, rfl, rfl, I2, M1, M2⟩ := hcut
      have g1 := Lib.hid M1.2.2
      have g2 := Lib.hid M2.2.2
      have hB := Lib.hid I2.2.1
      clear I1 N1 I2 M1 M2 HI0
      go_wp2_with (first | ((with_reducible show wpList _ _ _ (⟨some 39, _, _, _, _, _⟩ :: _) _ _); refine wpList_load_row rfl 26 (.tmp 13) rfl b2 rfl 26 (flCells M) (0, 0) _ g2.out Try.underlying26 rfl (by rw [flCells_size, HM.out]; kernel_rfl) ?_) | ((with_reducible show wpList _ _ _ (⟨some 40, _, _, _, _, _⟩ :: _) _ _); refine wpList_load_row rfl 26 (.tmp 11) rfl b1 rfl 26 (flCells M) (0, 0) _ g1.out Try.underlying26 rfl (by rw [flCells_size, HM.out]; kernel_rfl) ?_) | (go_at_call 30; ((with_reducible refine (HE.out _).mono ?_); rintro e w9 ⟨rfl, hb9⟩); obtain ⟨hc9, hf9⟩ := bcell hb9))
      go_ret; exact ⟨rfl, below_step hB.out hb9⟩

set_option maxRecDepth 100000 in
theorem FnExactGiveOff_lifted (os : Os) (started : os.Started) (H : Type) (enc : TypeId × Value → H) :
    ReturnsInHanded {} Try.checked os 8 .any (Rows.fnExactGiveOffSpec.pre6 enc Try.prog Try.f8 Rows.fnExactGiveOffRow.domain false) (Rows.fnExactGiveOffSpec.post enc Try.prog Try.f8 false true false false) := by
  refine law_lifted (C := Try.checked) (b4 := 4) (s := Rows.fnExactGiveOffSpec) os started H enc Try.own Try.laidOut (by kernel_rfl) Try.func8
      (ChangeSpec.witness6 (enc := enc) (C := Try.checked) false ⟨#[], #[.agg #[.int .i8 0, .int .i8 0, .float .f32 0, .int .u8 0, .int .u8 0, .int .u8 0, .int .u8 0, .int .u8 0, .int .u8 0], .agg (flCells zero36), .int .i64 0, .int .i64 0, .agg (crateCells 0 zero16)], []⟩ 8 (by kernel_rfl) (by kernel_rfl) (by kernel_rfl) (by kernel_rfl))
      (of_decide_eq_true (by kernel_rfl)) (by kernel_rfl) (by kernel_rfl) rfl (fun ds h => by match ds, h with | [_, _, _, _, _], _ => rfl) ?_
  intro W base args ds ps hG
  obtain ⟨hval0, hA0, hlt, hsz0⟩ := hG
  have hval : ∀ (j : Nat) t v, Try.f8.params[j]? = some t → args[j]? = some v → Value.okWide Try.prog W .any base t v := hval0
  have hA : DataW.TrodAll enc Try.prog W 0 (fun _ => true) true Try.f8.params.toList args.toList ds ps := hA0
  have hsz : (DataW.weightsEach Try.prog (Try.f8.params.toList ++ Rows.fnExactGiveOffSpec.plain.varTypes Try.prog) (ds ++ [])).all (· ≤ reachBytes) = true := hsz0
  clear hval0 hA0 hsz0
  rw [Try.params8] at hA hval hsz
  obtain ⟨v0, v1, v2, v3, v4, rfl⟩ := args5 (trodAll_length _ _ _ _ hA).2
  obtain ⟨a, b, f, x0, x1, x2, x3, x4, x5, rfl, ha, hb, hf, hv⟩ := open_room (hval 0 _ v0 rfl rfl)
  obtain ⟨l, hl, rfl, hlb⟩ := open_fl (m := 36) (by kernel_rfl) (by kernel_rfl) (by kernel_rfl) (hval 1 _ v1 rfl rfl)
  obtain ⟨x, rfl, _⟩ := v_int Try.underlying2 (hval 2 _ v2 rfl rfl)
  obtain ⟨y, rfl, _⟩ := v_int Try.underlying2 (hval 3 _ v3 rfl rfl)
  obtain ⟨n, c, rfl, hcl, h5, h6, hcb⟩ := open_crate (hval 4 _ v4 rfl rfl)
  exact FnExactGiveOff_walk a b f x0 x1 x2 x3 x4 x5 l hl hlb hf ha.1 ha.2 hb.1 hb.2 hv x y n c hcl h5 h6 hcb W

set_option maxRecDepth 100000 in
theorem FnExactGiveOff_holds : Rows.FnExactGiveOffSaid :=
  OpenClaim.holds_of_wide 8 Try.f8 rfl rfl rfl rfl rfl rfl rfl ⟨rfl, rfl, rfl, rfl, rfl⟩ rfl rfl rfl rfl rfl (by kernel_rfl) Try.func8
    (by unfold joinedFacts
        repeat' (with_reducible refine and_tt ?_ ?_)
        all_goals first | with_reducible exact fact_enter | (rw [fact_lifts]; rfl) | ((with_reducible show (Program.make _ == some _) = true); exact fact_make) | kernel_rfl)
    (of_decide_eq_true (by kernel_rfl)) (by unfold Func.isWrapper; first | (rw [if_pos (by decide +kernel)]; kernel_rfl) | (rw [if_neg (by decide +kernel)]; exact ⟨rfl, rfl⟩))
    (fun os started H enc _ => FnExactGiveOff_lifted os started H enc)

end Go.Proofs.Ytejipgofbefbjaa
