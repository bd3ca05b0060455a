/-
  A crate behind days is the reference's, for every crate and all air.
-/
import Derived.Test.YtldbpmpjfiglaaaGrows
import Derived.Test.YtldbpmpjfiglaaaOpen
import Derived.Test.YtldbpmpjfiglaaaIns
import Derived.Deep.RegionHeld3
import Derived.Deep.DeepCutAuto
set_option linter.unusedVariables false
set_option linter.unusedSimpArgs false
namespace Go.Proofs.Ytldbpmpjfiglaaa
open Go.ChangeShapes Go.WideShapes Go.ChangeAt Go.RowKit Go.FV

theorem fin_grown {n : Int} {l : List Nat} {r d : Nat} {x y : Nat} (hr : rateW x y = r) (hl : l.length = 16) (hb : ∀ i, ix l i < 4294967296) (hx : x < 4294967296) (hy : y < 4294967296) (Z : Bool) (hZ : Z = true → (validCrate n l && airOk x y) = true) (i : Nat) (hi : i < 16) : FL.fin (ix (fruX n l r d Z) i) := by
  unfold fruX
  split
  case isTrue h =>
    obtain ⟨k, rfl, hk, ux, uy, hu⟩ := both_upto (hZ h) hb hx hy
    have hv : validCrate k l = true := by have := hZ h; rw [Bool.and_eq_true] at this; exact this.1
    rw [Int.toNat_natCast]
    by_cases h : i < k
    · exact (growDays_upto (hr ▸ rateW_ok ux uy) hk hu d i h).1
    · rw [growDays_rest d i hi h]; exact fin_crate hv hb i hi
  case isFalse => exact fin_zero16 i hi
theorem fruX_len {n : Int} {l : List Nat} (hl : l.length = 16) (r d : Nat) (Z : Bool) : (fruX n l r d Z).length = 16 := by
  unfold fruX; split
  · exact growDays_len hl _ _ _
  · rfl

set_option maxRecDepth 100000 in
set_option maxHeartbeats 3200000 in
theorem FnExactGrowDays_walk (n : Int) (l : List Nat) (hl : l.length = 16) (h1 : -128 ≤ n) (h2 : n ≤ 127) (hb : ∀ i, ix l i < 4294967296) (x y : Nat) (hx : x < 4294967296) (hy : y < 4294967296) (d : Int) (w : World) :
    Calls Try.prog 4 #[.agg (crateCells n l), .agg #[.float .f32 x, .float .f32 y], .int .i64 d] w (Yes w) := by
  have HL := Lib.hid hl
  have HS := Lib.hid (fun w => spec_GrowDays n l hl hb h1 h2 x y hx hy d w)
  have HI := Lib.hid (fun w => impl_GrowDays n l hl hb h1 h2 x y hx hy d w)
  have HF := Lib.hid (fun i hi => fin_grown (n := n) (d := d.toNat) rfl hl hb hx hy (validCrate n l && airOk x y && stepsB d) (fun h => by rw [Bool.and_eq_true] at h; exact h.1) i hi)
  have HM := Lib.hid (fruX_len (n := n) hl (rateW x y) d.toNat (validCrate n l && airOk x y && stepsB d))
  have T1 := Lib.hid (fun w => toCrate_any n l hl w)
  have T2 := Lib.hid (fun w => toAir_any x y w)
  obtain ⟨N, hN⟩ : ∃ N, cntX n (validCrate n l && airOk x y && stepsB d) = N := ⟨_, rfl⟩
  obtain ⟨M, hM⟩ : ∃ M, fruX n l (rateW x y) d.toNat (validCrate n l && airOk x y && stepsB d) = M := ⟨_, rfl⟩
  obtain ⟨c, hc⟩ : ∃ c, told (validCrate n l && airOk x y) (stepsB d) = c := ⟨_, rfl⟩
  simp only [hN, hM, hc] at HS HI
  rw [hM] at HF HM
  have HE := Lib.hid (fun w => eqCrate_self N M HM.out HF.out w)
  clear hl hb hx hy hN hM hc h1 h2 HF
  obtain ⟨W, hW⟩ : ∃ W, W = (w.alloc (.cells (crateCells n l) 26)).alloc (.cells #[.float .f32 x, .float .f32 y] 28) := ⟨_, rfl⟩
  have HI0 : Ins w [.cells (crateCells n l) 26 (0, 0), .cells #[.float .f32 x, .float .f32 y] 28 (0, 0)] W := by
    rw [hW]
    refine ⟨by rw [size_al, size_al]; exact Nat.le_refl _, by (repeat (first | exact Below.refl _ _ | assumption | refine below_new ?_ _ | refine below_step ?_ (by assumption) | refine Below.drew ?_ | refine below_dn ?_ _ | refine Below.setCell ?_ (by simp <;> omega) _)), fun i o ho => ?_⟩
    match i, ho with
    | 0, ho => cases ho; exact ha2_0 _ _ _
    | 1, ho => cases ho; exact ha2_1 _ _ _
  have HW := Lib.hid hW
  clear hW
  obtain ⟨os, hos⟩ : ∃ os, os = [Obj.cells (crateCells n l) 26 (0, 0), Obj.cells #[.float .f32 x, .float .f32 y] 28 (0, 0)] := ⟨_, rfl⟩
  rw [← hos] at HI0
  have O0 : os[0]? = some (.cells (crateCells n l) 26 (0, 0)) := by rw [hos]; rfl
  have O1 : os[1]? = some (.cells #[.float .f32 x, .float .f32 y] 28 (0, 0)) := by rw [hos]; rfl
  have OL : os.length = 2 := by rw [hos]; rfl
  clear hos
  go_enter Try.func4, Try.ntmps4
  go_wp2_with fail
  rw [← HW.out]
  clear HW
  go_cut [7, 8] (fun s5 s6 wx => ∃ b, s5 = .pointer (some ⟨b, 0, none⟩) ∧ s6 = .int .i64 c ∧ Ins w os wx ∧ New w os.length b (crateCells N M) 29 wx)
  case first =>
    refine wp_region_held_drew (S := (Ins w os)) (by kernel_rfl) (Ins.drew HI0) (fun hHeld => ?_)
    refine wpAnyH_take (i := 0) rfl (by kernel_rfl) (by kernel_rfl) (by kernel_rfl) (fun _ _ _ h => h) (yieldsIf_load_mid (by rfl) _ _ rfl _ _ rfl (crateCells n l).toList _ (fun W hW j v hv => (cell_of_row _ _ _ _ _ _ (hW.2.2 0 _ O0)).trans (by rw [Nat.zero_add, ← hv]; simp)) Try.underlying26 rfl (by rw [Array.length_toList, crateCells_size, HL.out]; kernel_rfl)) hHeld ?_
    refine wpAnyH_take (i := 2) rfl (by kernel_rfl) (by kernel_rfl) (by kernel_rfl) (fun _ _ _ h => h) (yieldsIf_load_mid (by rfl) _ _ rfl _ _ rfl [.float .f32 x, .float .f32 y] _ (fun W hW j v hv => (cell_of_row _ _ _ _ _ _ (hW.2.2 1 _ O1)).trans (by rw [Nat.zero_add, ← hv]; simp)) Try.underlying28 rfl (by kernel_rfl)) hHeld ?_
    refine wpAnyH_take (i := 4) (v := .int .i64 d) rfl (by kernel_rfl) (by kernel_rfl) (by kernel_rfl) (fun _ _ _ h => h) (Or.inl ⟨by rfl, fun w _ => by go_simp⟩) hHeld ?_
    refine wpAnyH_ready (rs := [1, 9]) (by kernel_rfl) (by simp) (AllReadyH.cons rfl (fun K' hK => ?_) (AllReadyH.cons rfl (fun K' hK => ?_) AllReadyH.nil))
    · rw [if_pos (by rfl)]
      (try simp only [Act.put, List.setIfInBounds_toArray, List.set_cons_zero, List.set_cons_succ])
      go_wp2_with fail
      ((with_reducible refine (T1.out _).mono ?_); rintro e wx3 ⟨rfl, hb2⟩)
      refine hK.out _ _ (Ins.below hHeld hb2) (fun hH1 => ?_)
      clear hK
      refine wpAnyH_ready (rs := [3, 9]) (by kernel_rfl) (by simp) (AllReadyH.cons rfl (fun K' hK => ?_) (AllReadyH.cons rfl (fun K' hK => ?_) AllReadyH.nil))
      · rw [if_pos (by rfl)]
        (try simp only [Act.put, List.setIfInBounds_toArray, List.set_cons_zero, List.set_cons_succ])
        go_wp2_with fail
        ((with_reducible refine (T2.out _).mono ?_); rintro e wx6 ⟨rfl, hb5⟩)
        refine hK.out _ _ (Ins.below hH1 hb5) (fun hH4 => ?_)
        clear hK
        refine wpAnyH_ready (rs := [5, 9]) (by kernel_rfl) (by simp) (AllReadyH.cons rfl (fun K' hK => ?_) (AllReadyH.cons rfl (fun K' hK => ?_) AllReadyH.nil))
        · rw [if_pos (by rfl)]
          (try simp only [Act.put, List.setIfInBounds_toArray, List.set_cons_zero, List.set_cons_succ])
          go_wp2_with fail
          ((with_reducible refine (HS.out _).mono ?_); rintro e wx9 ⟨rfl, hb8⟩)
          refine hK.out _ _ (Ins.below hH4 hb8) (fun hH7 => ?_)
          clear hK
          refine wpAnyH_take (i := 6) (v := (.tuple #[.agg (crateCells N M), .int .i64 c])) rfl (by kernel_rfl) (by kernel_rfl) (by kernel_rfl) (fun _ _ _ h => h) (Or.inl ⟨by rfl, fun w _ => by go_simp⟩) hH7 ?_
          refine wpAnyH_take (i := 7) (v := (.agg (crateCells N M))) rfl (by kernel_rfl) (by kernel_rfl) (by kernel_rfl) (fun _ _ _ h => h) (Or.inl ⟨by rfl, fun w _ => by go_simp⟩) hH7 ?_
          refine wpAnyH_take (i := 8) (v := (.int .i64 c)) rfl (by kernel_rfl) (by kernel_rfl) (by kernel_rfl) (fun _ _ _ h => h) (Or.inl ⟨by rfl, fun w _ => by go_simp⟩) hH7 ?_
          refine wpAnyH_ready (rs := [9]) (by kernel_rfl) (by simp) (AllReadyH.cons rfl (fun K' hK => ?_) AllReadyH.nil)
          rw [if_pos (by rfl)]
          (try simp only [Act.put, List.setIfInBounds_toArray, List.set_cons_zero, List.set_cons_succ])
          go_wp2_with fail
          have nw11 := New.made hH7 #[.int .i8 0, .float .f32 0, .float .f32 0, .float .f32 0, .float .f32 0, .float .f32 0, .float .f32 0, .float .f32 0, .float .f32 0, .float .f32 0, .float .f32 0, .float .f32 0, .float .f32 0, .float .f32 0, .float .f32 0, .float .f32 0, .float .f32 0] 29
          refine hK.out _ _ (Ins.alloc hH7 _) (fun hH12 => ?_)
          clear hK
          refine wpAnyH_ready (rs := [10]) (by kernel_rfl) (by simp) (AllReadyH.cons rfl (fun K' hK => ?_) AllReadyH.nil)
          rw [if_pos (by rfl)]
          (try simp only [Act.put, List.setIfInBounds_toArray, List.set_cons_zero, List.set_cons_succ])
          refine wp_store_row 29 _ _ rfl _ (crateCells N M) rfl rfl 29 #[.int .i8 0, .float .f32 0, .float .f32 0, .float .f32 0, .float .f32 0, .float .f32 0, .float .f32 0, .float .f32 0, .float .f32 0, .float .f32 0, .float .f32 0, .float .f32 0, .float .f32 0, .float .f32 0, .float .f32 0, .float .f32 0, .float .f32 0] nw11.2.2 (by rw [crateCells_size, HM.out]; kernel_rfl) (by rw [crateCells_size, HM.out]; rfl) (crate_oneCell _ _) ?_
          have nw14 := New.setRow nw11 (crateCells N M)
          refine hK.out _ _ (Ins.setRow hH12 nw11.1 (crateCells N M)) (fun hH13 => ?_)
          clear hK
          refine wpAnyH_ready (rs := [11]) (by kernel_rfl) (by simp) (AllReadyH.cons rfl (fun K' hK => ?_) AllReadyH.nil)
          rw [if_pos (by rfl)]
          (try simp only [Act.put, List.setIfInBounds_toArray, List.set_cons_zero, List.set_cons_succ])
          go_wp2_with fail
          refine hK.out _ _ hH13 (fun hH15 => ?_)
          clear hK
          refine wpAnyH_done (by kernel_rfl) ?_ _
          go_wp2_with fail
          go_meet
          case rel => exact ⟨_, rfl, rfl, hH15, nw14⟩
        · rw [if_pos (by rfl)]
          (try simp only [Act.put, List.setIfInBounds_toArray, List.set_cons_zero, List.set_cons_succ])
          go_wp2_with fail
          have nw17 := New.made hH4 #[.int .i8 0, .float .f32 0, .float .f32 0, .float .f32 0, .float .f32 0, .float .f32 0, .float .f32 0, .float .f32 0, .float .f32 0, .float .f32 0, .float .f32 0, .float .f32 0, .float .f32 0, .float .f32 0, .float .f32 0, .float .f32 0, .float .f32 0] 29
          refine hK.out _ _ (Ins.alloc hH4 _) (fun hH18 => ?_)
          clear hK
          refine wpAnyH_ready (rs := [5]) (by kernel_rfl) (by simp) (AllReadyH.cons rfl (fun K' hK => ?_) AllReadyH.nil)
          rw [if_pos (by rfl)]
          (try simp only [Act.put, List.setIfInBounds_toArray, List.set_cons_zero, List.set_cons_succ])
          go_wp2_with fail
          ((with_reducible refine (HS.out _).mono ?_); rintro e wx21 ⟨rfl, hb20⟩)
          have nw22 := New.below nw17 hb20
          refine hK.out _ _ (Ins.below hH18 hb20) (fun hH19 => ?_)
          clear hK
          refine wpAnyH_take (i := 6) (v := (.tuple #[.agg (crateCells N M), .int .i64 c])) rfl (by kernel_rfl) (by kernel_rfl) (by kernel_rfl) (fun _ _ _ h => h) (Or.inl ⟨by rfl, fun w _ => by go_simp⟩) hH19 ?_
          refine wpAnyH_take (i := 7) (v := (.agg (crateCells N M))) rfl (by kernel_rfl) (by kernel_rfl) (by kernel_rfl) (fun _ _ _ h => h) (Or.inl ⟨by rfl, fun w _ => by go_simp⟩) hH19 ?_
          refine wpAnyH_take (i := 8) (v := (.int .i64 c)) rfl (by kernel_rfl) (by kernel_rfl) (by kernel_rfl) (fun _ _ _ h => h) (Or.inl ⟨by rfl, fun w _ => by go_simp⟩) hH19 ?_
          refine wpAnyH_ready (rs := [10]) (by kernel_rfl) (by simp) (AllReadyH.cons rfl (fun K' hK => ?_) AllReadyH.nil)
          rw [if_pos (by rfl)]
          (try simp only [Act.put, List.setIfInBounds_toArray, List.set_cons_zero, List.set_cons_succ])
          refine wp_store_row 29 _ _ rfl _ (crateCells N M) rfl rfl 29 #[.int .i8 0, .float .f32 0, .float .f32 0, .float .f32 0, .float .f32 0, .float .f32 0, .float .f32 0, .float .f32 0, .float .f32 0, .float .f32 0, .float .f32 0, .float .f32 0, .float .f32 0, .float .f32 0, .float .f32 0, .float .f32 0, .float .f32 0] nw22.2.2 (by rw [crateCells_size, HM.out]; kernel_rfl) (by rw [crateCells_size, HM.out]; rfl) (crate_oneCell _ _) ?_
          have nw24 := New.setRow nw22 (crateCells N M)
          refine hK.out _ _ (Ins.setRow hH19 nw22.1 (crateCells N M)) (fun hH23 => ?_)
          clear hK
          refine wpAnyH_ready (rs := [11]) (by kernel_rfl) (by simp) (AllReadyH.cons rfl (fun K' hK => ?_) AllReadyH.nil)
          rw [if_pos (by rfl)]
          (try simp only [Act.put, List.setIfInBounds_toArray, List.set_cons_zero, List.set_cons_succ])
          go_wp2_with fail
          refine hK.out _ _ hH23 (fun hH25 => ?_)
          clear hK
          refine wpAnyH_done (by kernel_rfl) ?_ _
          go_wp2_with fail
          go_meet
          case rel => exact ⟨_, rfl, rfl, hH25, nw24⟩
      · rw [if_pos (by rfl)]
        (try simp only [Act.put, List.setIfInBounds_toArray, List.set_cons_zero, List.set_cons_succ])
        go_wp2_with fail
        have nw27 := New.made hH1 #[.int .i8 0, .float .f32 0, .float .f32 0, .float .f32 0, .float .f32 0, .float .f32 0, .float .f32 0, .float .f32 0, .float .f32 0, .float .f32 0, .float .f32 0, .float .f32 0, .float .f32 0, .float .f32 0, .float .f32 0, .float .f32 0, .float .f32 0] 29
        refine hK.out _ _ (Ins.alloc hH1 _) (fun hH28 => ?_)
        clear hK
        refine wpAnyH_ready (rs := [3]) (by kernel_rfl) (by simp) (AllReadyH.cons rfl (fun K' hK => ?_) AllReadyH.nil)
        rw [if_pos (by rfl)]
        (try simp only [Act.put, List.setIfInBounds_toArray, List.set_cons_zero, List.set_cons_succ])
        go_wp2_with fail
        ((with_reducible refine (T2.out _).mono ?_); rintro e wx31 ⟨rfl, hb30⟩)
        have nw32 := New.below nw27 hb30
        refine hK.out _ _ (Ins.below hH28 hb30) (fun hH29 => ?_)
        clear hK
        refine wpAnyH_ready (rs := [5]) (by kernel_rfl) (by simp) (AllReadyH.cons rfl (fun K' hK => ?_) AllReadyH.nil)
        rw [if_pos (by rfl)]
        (try simp only [Act.put, List.setIfInBounds_toArray, List.set_cons_zero, List.set_cons_succ])
        go_wp2_with fail
        ((with_reducible refine (HS.out _).mono ?_); rintro e wx35 ⟨rfl, hb34⟩)
        have nw36 := New.below nw32 hb34
        refine hK.out _ _ (Ins.below hH29 hb34) (fun hH33 => ?_)
        clear hK
        refine wpAnyH_take (i := 6) (v := (.tuple #[.agg (crateCells N M), .int .i64 c])) rfl (by kernel_rfl) (by kernel_rfl) (by kernel_rfl) (fun _ _ _ h => h) (Or.inl ⟨by rfl, fun w _ => by go_simp⟩) hH33 ?_
        refine wpAnyH_take (i := 7) (v := (.agg (crateCells N M))) rfl (by kernel_rfl) (by kernel_rfl) (by kernel_rfl) (fun _ _ _ h => h) (Or.inl ⟨by rfl, fun w _ => by go_simp⟩) hH33 ?_
        refine wpAnyH_take (i := 8) (v := (.int .i64 c)) rfl (by kernel_rfl) (by kernel_rfl) (by kernel_rfl) (fun _ _ _ h => h) (Or.inl ⟨by rfl, fun w _ => by go_simp⟩) hH33 ?_
        refine wpAnyH_ready (rs := [10]) (by kernel_rfl) (by simp) (AllReadyH.cons rfl (fun K' hK => ?_) AllReadyH.nil)
        rw [if_pos (by rfl)]
        (try simp only [Act.put, List.setIfInBounds_toArray, List.set_cons_zero, List.set_cons_succ])
        refine wp_store_row 29 _ _ rfl _ (crateCells N M) rfl rfl 29 #[.int .i8 0, .float .f32 0, .float .f32 0, .float .f32 0, .float .f32 0, .float .f32 0, .float .f32 0, .float .f32 0, .float .f32 0, .float .f32 0, .float .f32 0, .float .f32 0, .float .f32 0, .float .f32 0, .float .f32 0, .float .f32 0, .float .f32 0] nw36.2.2 (by rw [crateCells_size, HM.out]; kernel_rfl) (by rw [crateCells_size, HM.out]; rfl) (crate_oneCell _ _) ?_
        have nw38 := New.setRow nw36 (crateCells N M)
        refine hK.out _ _ (Ins.setRow hH33 nw36.1 (crateCells N M)) (fun hH37 => ?_)
        clear hK
        refine wpAnyH_ready (rs := [11]) (by kernel_rfl) (by simp) (AllReadyH.cons rfl (fun K' hK => ?_) AllReadyH.nil)
        rw [if_pos (by rfl)]
        (try simp only [Act.put, List.setIfInBounds_toArray, List.set_cons_zero, List.set_cons_succ])
        go_wp2_with fail
        refine hK.out _ _ hH37 (fun hH39 => ?_)
        clear hK
        refine wpAnyH_done (by kernel_rfl) ?_ _
        go_wp2_with fail
        go_meet
        case rel => exact ⟨_, rfl, rfl, hH39, nw38⟩
    · rw [if_pos (by rfl)]
      (try simp only [Act.put, List.setIfInBounds_toArray, List.set_cons_zero, List.set_cons_succ])
      go_wp2_with fail
      have nw41 := New.made hHeld #[.int .i8 0, .float .f32 0, .float .f32 0, .float .f32 0, .float .f32 0, .float .f32 0, .float .f32 0, .float .f32 0, .float .f32 0, .float .f32 0, .float .f32 0, .float .f32 0, .float .f32 0, .float .f32 0, .float .f32 0, .float .f32 0, .float .f32 0] 29
      refine hK.out _ _ (Ins.alloc hHeld _) (fun hH42 => ?_)
      clear hK
      refine wpAnyH_ready (rs := [1]) (by kernel_rfl) (by simp) (AllReadyH.cons rfl (fun K' hK => ?_) AllReadyH.nil)
      rw [if_pos (by rfl)]
      (try simp only [Act.put, List.setIfInBounds_toArray, List.set_cons_zero, List.set_cons_succ])
      go_wp2_with fail
      ((with_reducible refine (T1.out _).mono ?_); rintro e wx45 ⟨rfl, hb44⟩)
      have nw46 := New.below nw41 hb44
      refine hK.out _ _ (Ins.below hH42 hb44) (fun hH43 => ?_)
      clear hK
      refine wpAnyH_ready (rs := [3]) (by kernel_rfl) (by simp) (AllReadyH.cons rfl (fun K' hK => ?_) AllReadyH.nil)
      rw [if_pos (by rfl)]
      (try simp only [Act.put, List.setIfInBounds_toArray, List.set_cons_zero, List.set_cons_succ])
      go_wp2_with fail
      ((with_reducible refine (T2.out _).mono ?_); rintro e wx49 ⟨rfl, hb48⟩)
      have nw50 := New.below nw46 hb48
      refine hK.out _ _ (Ins.below hH43 hb48) (fun hH47 => ?_)
      clear hK
      refine wpAnyH_ready (rs := [5]) (by kernel_rfl) (by simp) (AllReadyH.cons rfl (fun K' hK => ?_) AllReadyH.nil)
      rw [if_pos (by rfl)]
      (try simp only [Act.put, List.setIfInBounds_toArray, List.set_cons_zero, List.set_cons_succ])
      go_wp2_with fail
      ((with_reducible refine (HS.out _).mono ?_); rintro e wx53 ⟨rfl, hb52⟩)
      have nw54 := New.below nw50 hb52
      refine hK.out _ _ (Ins.below hH47 hb52) (fun hH51 => ?_)
      clear hK
      refine wpAnyH_take (i := 6) (v := (.tuple #[.agg (crateCells N M), .int .i64 c])) rfl (by kernel_rfl) (by kernel_rfl) (by kernel_rfl) (fun _ _ _ h => h) (Or.inl ⟨by rfl, fun w _ => by go_simp⟩) hH51 ?_
      refine wpAnyH_take (i := 7) (v := (.agg (crateCells N M))) rfl (by kernel_rfl) (by kernel_rfl) (by kernel_rfl) (fun _ _ _ h => h) (Or.inl ⟨by rfl, fun w _ => by go_simp⟩) hH51 ?_
      refine wpAnyH_take (i := 8) (v := (.int .i64 c)) rfl (by kernel_rfl) (by kernel_rfl) (by kernel_rfl) (fun _ _ _ h => h) (Or.inl ⟨by rfl, fun w _ => by go_simp⟩) hH51 ?_
      refine wpAnyH_ready (rs := [10]) (by kernel_rfl) (by simp) (AllReadyH.cons rfl (fun K' hK => ?_) AllReadyH.nil)
      rw [if_pos (by rfl)]
      (try simp only [Act.put, List.setIfInBounds_toArray, List.set_cons_zero, List.set_cons_succ])
      refine wp_store_row 29 _ _ rfl _ (crateCells N M) rfl rfl 29 #[.int .i8 0, .float .f32 0, .float .f32 0, .float .f32 0, .float .f32 0, .float .f32 0, .float .f32 0, .float .f32 0, .float .f32 0, .float .f32 0, .float .f32 0, .float .f32 0, .float .f32 0, .float .f32 0, .float .f32 0, .float .f32 0, .float .f32 0] nw54.2.2 (by rw [crateCells_size, HM.out]; kernel_rfl) (by rw [crateCells_size, HM.out]; rfl) (crate_oneCell _ _) ?_
      have nw56 := New.setRow nw54 (crateCells N M)
      refine hK.out _ _ (Ins.setRow hH51 nw54.1 (crateCells N M)) (fun hH55 => ?_)
      clear hK
      refine wpAnyH_ready (rs := [11]) (by kernel_rfl) (by simp) (AllReadyH.cons rfl (fun K' hK => ?_) AllReadyH.nil)
      rw [if_pos (by rfl)]
      (try simp only [Act.put, List.setIfInBounds_toArray, List.set_cons_zero, List.set_cons_succ])
      go_wp2_with fail
      refine hK.out _ _ hH55 (fun hH57 => ?_)
      clear hK
      refine wpAnyH_done (by kernel_rfl) ?_ _
      go_wp2_with fail
      go_meet
      case rel => exact ⟨_, rfl, rfl, hH57, nw56⟩
  case rest =>
    obtain ⟨b1, rfl, rfl, I1, N1⟩ := hcut
    go_wp2_with fail
    go_cut [9, 10] (fun s5 s6 wx => ∃ b, s5 = .pointer (some ⟨b, 0, none⟩) ∧ s6 = .int .i64 c ∧ Ins w os wx ∧ New w os.length b1 (crateCells N M) 29 wx ∧ New w os.length b (crateCells N M) 29 wx)
    case first =>
      refine wp_region_held_drew (S := (Ins w os)) (by kernel_rfl) (Ins.drew I1) (fun hHeld => ?_)
      refine wpAnyH_take (i := 0) rfl (by kernel_rfl) (by kernel_rfl) (by kernel_rfl) (fun _ _ _ h => h) (yieldsIf_load_mid (by rfl) _ _ rfl _ _ rfl (crateCells n l).toList _ (fun W hW j v hv => (cell_of_row _ _ _ _ _ _ (hW.2.2 0 _ O0)).trans (by rw [Nat.zero_add, ← hv]; simp)) Try.underlying26 rfl (by rw [Array.length_toList, crateCells_size, HL.out]; kernel_rfl)) hHeld ?_
      refine wpAnyH_take (i := 2) rfl (by kernel_rfl) (by kernel_rfl) (by kernel_rfl) (fun _ _ _ h => h) (yieldsIf_load_mid (by rfl) _ _ rfl _ _ rfl [.float .f32 x, .float .f32 y] _ (fun W hW j v hv => (cell_of_row _ _ _ _ _ _ (hW.2.2 1 _ O1)).trans (by rw [Nat.zero_add, ← hv]; simp)) Try.underlying28 rfl (by kernel_rfl)) hHeld ?_
      refine wpAnyH_take (i := 4) (v := .int .i64 d) rfl (by kernel_rfl) (by kernel_rfl) (by kernel_rfl) (fun _ _ _ h => h) (Or.inl ⟨by rfl, fun w _ => by go_simp⟩) hHeld ?_
      have nw1 := New.drew N1
      refine wpAnyH_ready (rs := [1, 9]) (by kernel_rfl) (by simp) (AllReadyH.cons rfl (fun K' hK => ?_) (AllReadyH.cons rfl (fun K' hK => ?_) AllReadyH.nil))
      · rw [if_pos (by rfl)]
        (try simp only [Act.put, List.setIfInBounds_toArray, List.set_cons_zero, List.set_cons_succ])
        go_wp2_with fail
        ((with_reducible refine (T1.out _).mono ?_); rintro e wx4 ⟨rfl, hb3⟩)
        have nw5 := New.below nw1 hb3
        refine hK.out _ _ (Ins.below hHeld hb3) (fun hH2 => ?_)
        clear hK
        refine wpAnyH_ready (rs := [3, 9]) (by kernel_rfl) (by simp) (AllReadyH.cons rfl (fun K' hK => ?_) (AllReadyH.cons rfl (fun K' hK => ?_) AllReadyH.nil))
        · rw [if_pos (by rfl)]
          (try simp only [Act.put, List.setIfInBounds_toArray, List.set_cons_zero, List.set_cons_succ])
          go_wp2_with fail
          ((with_reducible refine (T2.out _).mono ?_); rintro e wx8 ⟨rfl, hb7⟩)
          have nw9 := New.below nw5 hb7
          refine hK.out _ _ (Ins.below hH2 hb7) (fun hH6 => ?_)
          clear hK
          refine wpAnyH_ready (rs := [5, 9]) (by kernel_rfl) (by simp) (AllReadyH.cons rfl (fun K' hK => ?_) (AllReadyH.cons rfl (fun K' hK => ?_) AllReadyH.nil))
          · rw [if_pos (by rfl)]
            (try simp only [Act.put, List.setIfInBounds_toArray, List.set_cons_zero, List.set_cons_succ])
            go_wp2_with fail
            ((with_reducible refine (HI.out _).mono ?_); rintro e wx12 ⟨rfl, hb11⟩)
            have nw13 := New.below nw9 hb11
            refine hK.out _ _ (Ins.below hH6 hb11) (fun hH10 => ?_)
            clear hK
            refine wpAnyH_take (i := 6) (v := (.tuple #[.agg (crateCells N M), .int .i64 c])) rfl (by kernel_rfl) (by kernel_rfl) (by kernel_rfl) (fun _ _ _ h => h) (Or.inl ⟨by rfl, fun w _ => by go_simp⟩) hH10 ?_
            refine wpAnyH_take (i := 7) (v := (.agg (crateCells N M))) rfl (by kernel_rfl) (by kernel_rfl) (by kernel_rfl) (fun _ _ _ h => h) (Or.inl ⟨by rfl, fun w _ => by go_simp⟩) hH10 ?_
            refine wpAnyH_take (i := 8) (v := (.int .i64 c)) rfl (by kernel_rfl) (by kernel_rfl) (by kernel_rfl) (fun _ _ _ h => h) (Or.inl ⟨by rfl, fun w _ => by go_simp⟩) hH10 ?_
            refine wpAnyH_ready (rs := [9]) (by kernel_rfl) (by simp) (AllReadyH.cons rfl (fun K' hK => ?_) AllReadyH.nil)
            rw [if_pos (by rfl)]
            (try simp only [Act.put, List.setIfInBounds_toArray, List.set_cons_zero, List.set_cons_succ])
            go_wp2_with fail
            have nw15 := New.made hH10 #[.int .i8 0, .float .f32 0, .float .f32 0, .float .f32 0, .float .f32 0, .float .f32 0, .float .f32 0, .float .f32 0, .float .f32 0, .float .f32 0, .float .f32 0, .float .f32 0, .float .f32 0, .float .f32 0, .float .f32 0, .float .f32 0, .float .f32 0] 29
            have lt17 := nw13.2.1
            refine hK.out _ _ (Ins.alloc hH10 _) (fun hH16 => ?_)
            clear hK
            have nw18 := New.alloc nw13 (.cells #[.int .i8 0, .float .f32 0, .float .f32 0, .float .f32 0, .float .f32 0, .float .f32 0, .float .f32 0, .float .f32 0, .float .f32 0, .float .f32 0, .float .f32 0, .float .f32 0, .float .f32 0, .float .f32 0, .float .f32 0, .float .f32 0, .float .f32 0] 29)
            refine wpAnyH_ready (rs := [10]) (by kernel_rfl) (by simp) (AllReadyH.cons rfl (fun K' hK => ?_) AllReadyH.nil)
            rw [if_pos (by rfl)]
            (try simp only [Act.put, List.setIfInBounds_toArray, List.set_cons_zero, List.set_cons_succ])
            refine wp_store_row 29 _ _ rfl _ (crateCells N M) rfl rfl 29 #[.int .i8 0, .float .f32 0, .float .f32 0, .float .f32 0, .float .f32 0, .float .f32 0, .float .f32 0, .float .f32 0, .float .f32 0, .float .f32 0, .float .f32 0, .float .f32 0, .float .f32 0, .float .f32 0, .float .f32 0, .float .f32 0, .float .f32 0] nw15.2.2 (by rw [crateCells_size, HM.out]; kernel_rfl) (by rw [crateCells_size, HM.out]; rfl) (crate_oneCell _ _) ?_
            have nw20 := New.setRow nw15 (crateCells N M)
            have nw21 := New.other nw18 (Nat.ne_of_lt lt17) (crateCells N M)
            refine hK.out _ _ (Ins.setRow hH16 nw15.1 (crateCells N M)) (fun hH19 => ?_)
            clear hK
            refine wpAnyH_ready (rs := [11]) (by kernel_rfl) (by simp) (AllReadyH.cons rfl (fun K' hK => ?_) AllReadyH.nil)
            rw [if_pos (by rfl)]
            (try simp only [Act.put, List.setIfInBounds_toArray, List.set_cons_zero, List.set_cons_succ])
            go_wp2_with fail
            refine hK.out _ _ hH19 (fun hH22 => ?_)
            clear hK
            refine wpAnyH_done (by kernel_rfl) ?_ _
            go_wp2_with fail
            go_meet
            case rel => exact ⟨_, rfl, rfl, hH22, nw21, nw20⟩
          · rw [if_pos (by rfl)]
            (try simp only [Act.put, List.setIfInBounds_toArray, List.set_cons_zero, List.set_cons_succ])
            go_wp2_with fail
            have nw24 := New.made hH6 #[.int .i8 0, .float .f32 0, .float .f32 0, .float .f32 0, .float .f32 0, .float .f32 0, .float .f32 0, .float .f32 0, .float .f32 0, .float .f32 0, .float .f32 0, .float .f32 0, .float .f32 0, .float .f32 0, .float .f32 0, .float .f32 0, .float .f32 0] 29
            have lt26 := nw9.2.1
            refine hK.out _ _ (Ins.alloc hH6 _) (fun hH25 => ?_)
            clear hK
            have nw27 := New.alloc nw9 (.cells #[.int .i8 0, .float .f32 0, .float .f32 0, .float .f32 0, .float .f32 0, .float .f32 0, .float .f32 0, .float .f32 0, .float .f32 0, .float .f32 0, .float .f32 0, .float .f32 0, .float .f32 0, .float .f32 0, .float .f32 0, .float .f32 0, .float .f32 0] 29)
            refine wpAnyH_ready (rs := [5]) (by kernel_rfl) (by simp) (AllReadyH.cons rfl (fun K' hK => ?_) AllReadyH.nil)
            rw [if_pos (by rfl)]
            (try simp only [Act.put, List.setIfInBounds_toArray, List.set_cons_zero, List.set_cons_succ])
            go_wp2_with fail
            ((with_reducible refine (HI.out _).mono ?_); rintro e wx30 ⟨rfl, hb29⟩)
            have nw31 := New.below nw27 hb29
            have nw32 := New.below nw24 hb29
            refine hK.out _ _ (Ins.below hH25 hb29) (fun hH28 => ?_)
            clear hK
            refine wpAnyH_take (i := 6) (v := (.tuple #[.agg (crateCells N M), .int .i64 c])) rfl (by kernel_rfl) (by kernel_rfl) (by kernel_rfl) (fun _ _ _ h => h) (Or.inl ⟨by rfl, fun w _ => by go_simp⟩) hH28 ?_
            refine wpAnyH_take (i := 7) (v := (.agg (crateCells N M))) rfl (by kernel_rfl) (by kernel_rfl) (by kernel_rfl) (fun _ _ _ h => h) (Or.inl ⟨by rfl, fun w _ => by go_simp⟩) hH28 ?_
            refine wpAnyH_take (i := 8) (v := (.int .i64 c)) rfl (by kernel_rfl) (by kernel_rfl) (by kernel_rfl) (fun _ _ _ h => h) (Or.inl ⟨by rfl, fun w _ => by go_simp⟩) hH28 ?_
            refine wpAnyH_ready (rs := [10]) (by kernel_rfl) (by simp) (AllReadyH.cons rfl (fun K' hK => ?_) AllReadyH.nil)
            rw [if_pos (by rfl)]
            (try simp only [Act.put, List.setIfInBounds_toArray, List.set_cons_zero, List.set_cons_succ])
            refine wp_store_row 29 _ _ rfl _ (crateCells N M) rfl rfl 29 #[.int .i8 0, .float .f32 0, .float .f32 0, .float .f32 0, .float .f32 0, .float .f32 0, .float .f32 0, .float .f32 0, .float .f32 0, .float .f32 0, .float .f32 0, .float .f32 0, .float .f32 0, .float .f32 0, .float .f32 0, .float .f32 0, .float .f32 0] nw32.2.2 (by rw [crateCells_size, HM.out]; kernel_rfl) (by rw [crateCells_size, HM.out]; rfl) (crate_oneCell _ _) ?_
            have nw34 := New.setRow nw32 (crateCells N M)
            have nw35 := New.other nw31 (Nat.ne_of_lt lt26) (crateCells N M)
            refine hK.out _ _ (Ins.setRow hH28 nw32.1 (crateCells N M)) (fun hH33 => ?_)
            clear hK
            refine wpAnyH_ready (rs := [11]) (by kernel_rfl) (by simp) (AllReadyH.cons rfl (fun K' hK => ?_) AllReadyH.nil)
            rw [if_pos (by rfl)]
            (try simp only [Act.put, List.setIfInBounds_toArray, List.set_cons_zero, List.set_cons_succ])
            go_wp2_with fail
            refine hK.out _ _ hH33 (fun hH36 => ?_)
            clear hK
            refine wpAnyH_done (by kernel_rfl) ?_ _
            go_wp2_with fail
            go_meet
            case rel => exact ⟨_, rfl, rfl, hH36, nw35, nw34⟩
        · rw [if_pos (by rfl)]
          (try simp only [Act.put, List.setIfInBounds_toArray, List.set_cons_zero, List.set_cons_succ])
          go_wp2_with fail
          have nw38 := New.made hH2 #[.int .i8 0, .float .f32 0, .float .f32 0, .float .f32 0, .float .f32 0, .float .f32 0, .float .f32 0, .float .f32 0, .float .f32 0, .float .f32 0, .float .f32 0, .float .f32 0, .float .f32 0, .float .f32 0, .float .f32 0, .float .f32 0, .float .f32 0] 29
          have lt40 := nw5.2.1
          refine hK.out _ _ (Ins.alloc hH2 _) (fun hH39 => ?_)
          clear hK
          have nw41 := New.alloc nw5 (.cells #[.int .i8 0, .float .f32 0, .float .f32 0, .float .f32 0, .float .f32 0, .float .f32 0, .float .f32 0, .float .f32 0, .float .f32 0, .float .f32 0, .float .f32 0, .float .f32 0, .float .f32 0, .float .f32 0, .float .f32 0, .float .f32 0, .float .f32 0] 29)
          refine wpAnyH_ready (rs := [3]) (by kernel_rfl) (by simp) (AllReadyH.cons rfl (fun K' hK => ?_) AllReadyH.nil)
          rw [if_pos (by rfl)]
          (try simp only [Act.put, List.setIfInBounds_toArray, List.set_cons_zero, List.set_cons_succ])
          go_wp2_with fail
          ((with_reducible refine (T2.out _).mono ?_); rintro e wx44 ⟨rfl, hb43⟩)
          have nw45 := New.below nw41 hb43
          have nw46 := New.below nw38 hb43
          refine hK.out _ _ (Ins.below hH39 hb43) (fun hH42 => ?_)
          clear hK
          refine wpAnyH_ready (rs := [5]) (by kernel_rfl) (by simp) (AllReadyH.cons rfl (fun K' hK => ?_) AllReadyH.nil)
          rw [if_pos (by rfl)]
          (try simp only [Act.put, List.setIfInBounds_toArray, List.set_cons_zero, List.set_cons_succ])
          go_wp2_with fail
          ((with_reducible refine (HI.out _).mono ?_); rintro e wx49 ⟨rfl, hb48⟩)
          have nw50 := New.below nw45 hb48
          have nw51 := New.below nw46 hb48
          refine hK.out _ _ (Ins.below hH42 hb48) (fun hH47 => ?_)
          clear hK
          refine wpAnyH_take (i := 6) (v := (.tuple #[.agg (crateCells N M), .int .i64 c])) rfl (by kernel_rfl) (by kernel_rfl) (by kernel_rfl) (fun _ _ _ h => h) (Or.inl ⟨by rfl, fun w _ => by go_simp⟩) hH47 ?_
          refine wpAnyH_take (i := 7) (v := (.agg (crateCells N M))) rfl (by kernel_rfl) (by kernel_rfl) (by kernel_rfl) (fun _ _ _ h => h) (Or.inl ⟨by rfl, fun w _ => by go_simp⟩) hH47 ?_
          refine wpAnyH_take (i := 8) (v := (.int .i64 c)) rfl (by kernel_rfl) (by kernel_rfl) (by kernel_rfl) (fun _ _ _ h => h) (Or.inl ⟨by rfl, fun w _ => by go_simp⟩) hH47 ?_
          refine wpAnyH_ready (rs := [10]) (by kernel_rfl) (by simp) (AllReadyH.cons rfl (fun K' hK => ?_) AllReadyH.nil)
          rw [if_pos (by rfl)]
          (try simp only [Act.put, List.setIfInBounds_toArray, List.set_cons_zero, List.set_cons_succ])
          refine wp_store_row 29 _ _ rfl _ (crateCells N M) rfl rfl 29 #[.int .i8 0, .float .f32 0, .float .f32 0, .float .f32 0, .float .f32 0, .float .f32 0, .float .f32 0, .float .f32 0, .float .f32 0, .float .f32 0, .float .f32 0, .float .f32 0, .float .f32 0, .float .f32 0, .float .f32 0, .float .f32 0, .float .f32 0] nw51.2.2 (by rw [crateCells_size, HM.out]; kernel_rfl) (by rw [crateCells_size, HM.out]; rfl) (crate_oneCell _ _) ?_
          have nw53 := New.setRow nw51 (crateCells N M)
          have nw54 := New.other nw50 (Nat.ne_of_lt lt40) (crateCells N M)
          refine hK.out _ _ (Ins.setRow hH47 nw51.1 (crateCells N M)) (fun hH52 => ?_)
          clear hK
          refine wpAnyH_ready (rs := [11]) (by kernel_rfl) (by simp) (AllReadyH.cons rfl (fun K' hK => ?_) AllReadyH.nil)
          rw [if_pos (by rfl)]
          (try simp only [Act.put, List.setIfInBounds_toArray, List.set_cons_zero, List.set_cons_succ])
          go_wp2_with fail
          refine hK.out _ _ hH52 (fun hH55 => ?_)
          clear hK
          refine wpAnyH_done (by kernel_rfl) ?_ _
          go_wp2_with fail
          go_meet
          case rel => exact ⟨_, rfl, rfl, hH55, nw54, nw53⟩
      · rw [if_pos (by rfl)]
        (try simp only [Act.put, List.setIfInBounds_toArray, List.set_cons_zero, List.set_cons_succ])
        go_wp2_with fail
        have nw57 := New.made hHeld #[.int .i8 0, .float .f32 0, .float .f32 0, .float .f32 0, .float .f32 0, .float .f32 0, .float .f32 0, .float .f32 0, .float .f32 0, .float .f32 0, .float .f32 0, .float .f32 0, .float .f32 0, .float .f32 0, .float .f32 0, .float .f32 0, .float .f32 0] 29
        have lt59 := nw1.2.1
        refine hK.out _ _ (Ins.alloc hHeld _) (fun hH58 => ?_)
        clear hK
        have nw60 := New.alloc nw1 (.cells #[.int .i8 0, .float .f32 0, .float .f32 0, .float .f32 0, .float .f32 0, .float .f32 0, .float .f32 0, .float .f32 0, .float .f32 0, .float .f32 0, .float .f32 0, .float .f32 0, .float .f32 0, .float .f32 0, .float .f32 0, .float .f32 0, .float .f32 0] 29)
        refine wpAnyH_ready (rs := [1]) (by kernel_rfl) (by simp) (AllReadyH.cons rfl (fun K' hK => ?_) AllReadyH.nil)
        rw [if_pos (by rfl)]
        (try simp only [Act.put, List.setIfInBounds_toArray, List.set_cons_zero, List.set_cons_succ])
        go_wp2_with fail
        ((with_reducible refine (T1.out _).mono ?_); rintro e wx63 ⟨rfl, hb62⟩)
        have nw64 := New.below nw60 hb62
        have nw65 := New.below nw57 hb62
        refine hK.out _ _ (Ins.below hH58 hb62) (fun hH61 => ?_)
        clear hK
        refine wpAnyH_ready (rs := [3]) (by kernel_rfl) (by simp) (AllReadyH.cons rfl (fun K' hK => ?_) AllReadyH.nil)
        rw [if_pos (by rfl)]
        (try simp only [Act.put, List.setIfInBounds_toArray, List.set_cons_zero, List.set_cons_succ])
        go_wp2_with fail
        ((with_reducible refine (T2.out _).mono ?_); rintro e wx68 ⟨rfl, hb67⟩)
        have nw69 := New.below nw64 hb67
        have nw70 := New.below nw65 hb67
        refine hK.out _ _ (Ins.below hH61 hb67) (fun hH66 => ?_)
        clear hK
        refine wpAnyH_ready (rs := [5]) (by kernel_rfl) (by simp) (AllReadyH.cons rfl (fun K' hK => ?_) AllReadyH.nil)
        rw [if_pos (by rfl)]
        (try simp only [Act.put, List.setIfInBounds_toArray, List.set_cons_zero, List.set_cons_succ])
        go_wp2_with fail
        ((with_reducible refine (HI.out _).mono ?_); rintro e wx73 ⟨rfl, hb72⟩)
        have nw74 := New.below nw69 hb72
        have nw75 := New.below nw70 hb72
        refine hK.out _ _ (Ins.below hH66 hb72) (fun hH71 => ?_)
        clear hK
        refine wpAnyH_take (i := 6) (v := (.tuple #[.agg (crateCells N M), .int .i64 c])) rfl (by kernel_rfl) (by kernel_rfl) (by kernel_rfl) (fun _ _ _ h => h) (Or.inl ⟨by rfl, fun w _ => by go_simp⟩) hH71 ?_
        refine wpAnyH_take (i := 7) (v := (.agg (crateCells N M))) rfl (by kernel_rfl) (by kernel_rfl) (by kernel_rfl) (fun _ _ _ h => h) (Or.inl ⟨by rfl, fun w _ => by go_simp⟩) hH71 ?_
        refine wpAnyH_take (i := 8) (v := (.int .i64 c)) rfl (by kernel_rfl) (by kernel_rfl) (by kernel_rfl) (fun _ _ _ h => h) (Or.inl ⟨by rfl, fun w _ => by go_simp⟩) hH71 ?_
        refine wpAnyH_ready (rs := [10]) (by kernel_rfl) (by simp) (AllReadyH.cons rfl (fun K' hK => ?_) AllReadyH.nil)
        rw [if_pos (by rfl)]
        (try simp only [Act.put, List.setIfInBounds_toArray, List.set_cons_zero, List.set_cons_succ])
        refine wp_store_row 29 _ _ rfl _ (crateCells N M) rfl rfl 29 #[.int .i8 0, .float .f32 0, .float .f32 0, .float .f32 0, .float .f32 0, .float .f32 0, .float .f32 0, .float .f32 0, .float .f32 0, .float .f32 0, .float .f32 0, .float .f32 0, .float .f32 0, .float .f32 0, .float .f32 0, .float .f32 0, .float .f32 0] nw75.2.2 (by rw [crateCells_size, HM.out]; kernel_rfl) (by rw [crateCells_size, HM.out]; rfl) (crate_oneCell _ _) ?_
        have nw77 := New.setRow nw75 (crateCells N M)
        have nw78 := New.other nw74 (Nat.ne_of_lt lt59) (crateCells N M)
        refine hK.out _ _ (Ins.setRow hH71 nw75.1 (crateCells N M)) (fun hH76 => ?_)
        clear hK
        refine wpAnyH_ready (rs := [11]) (by kernel_rfl) (by simp) (AllReadyH.cons rfl (fun K' hK => ?_) AllReadyH.nil)
        rw [if_pos (by rfl)]
        (try simp only [Act.put, List.setIfInBounds_toArray, List.set_cons_zero, List.set_cons_succ])
        go_wp2_with fail
        refine hK.out _ _ hH76 (fun hH79 => ?_)
        clear hK
        refine wpAnyH_done (by kernel_rfl) ?_ _
        go_wp2_with fail
        go_meet
        case rel => exact ⟨_, rfl, rfl, hH79, nw78, nw77⟩
    case rest =>
      obtain ⟨b2, rfl, rfl, I2, M1, M2⟩ := hcut
      have g1 := Lib.hid M1.2.2
      have g2 := Lib.hid M2.2.2
      have hB := Lib.hid I2.2.1
      clear I1 N1 I2 M1 M2 HI0
      go_wp2_with (first | ((with_reducible show wpList _ _ _ (⟨some 29, _, _, _, _, _⟩ :: _) _ _); refine wpList_load_row rfl 29 (.tmp 9) rfl (b2) rfl 29 (crateCells N M) (0, 0) _ (g2.out) Try.underlying29 rfl (by rw [crateCells_size, HM.out]; kernel_rfl) ?_) | ((with_reducible show wpList _ _ _ (⟨some 30, _, _, _, _, _⟩ :: _) _ _); refine wpList_load_row rfl 29 (.tmp 7) rfl (b1) rfl 29 (crateCells N M) (0, 0) _ (g1.out) Try.underlying29 rfl (by rw [crateCells_size, HM.out]; kernel_rfl) ?_) | (go_at_call 19; ((with_reducible refine (HE.out _).mono ?_); rintro e w9 ⟨rfl, hb9⟩); obtain ⟨hc9, hf9⟩ := bcell hb9))
      go_ret; exact ⟨rfl, below_step hB.out hb9⟩

set_option maxRecDepth 100000 in
theorem FnExactGrowDays_lifted (os : Os) (started : os.Started) (H : Type) (enc : TypeId × Value → H) :
    ReturnsInHanded {} Try.checked os 4 .any (Rows.fnExactGrowDaysSpec.pre6 enc Try.prog Try.f4 Rows.fnExactGrowDaysRow.domain false) (Rows.fnExactGrowDaysSpec.post enc Try.prog Try.f4 false true false false) := by
  refine law_lifted (C := Try.checked) (b4 := 4) (s := Rows.fnExactGrowDaysSpec) os started H enc Try.own Try.laidOut (by kernel_rfl) Try.func4
      (ChangeSpec.witness6 (enc := enc) (C := Try.checked) false ⟨#[], #[.agg (crateCells 0 zero16), .agg #[.float .f32 0, .float .f32 0], .int .i64 0], []⟩ 8 (by kernel_rfl) (by kernel_rfl) (by kernel_rfl) (by kernel_rfl))
      (of_decide_eq_true (by kernel_rfl)) (by kernel_rfl) (by kernel_rfl) rfl (fun ds h => by match ds, h with | [_, _, _], _ => rfl) ?_
  intro W base args ds ps hG
  obtain ⟨hval0, hA0, hlt, hsz0⟩ := hG
  have hval : ∀ (j : Nat) t v, Try.f4.params[j]? = some t → args[j]? = some v → Value.okWide Try.prog W .any base t v := hval0
  have hA : DataW.TrodAll enc Try.prog W 0 (fun _ => true) true Try.f4.params.toList args.toList ds ps := hA0
  have hsz : (DataW.weightsEach Try.prog (Try.f4.params.toList ++ Rows.fnExactGrowDaysSpec.plain.varTypes Try.prog) (ds ++ [])).all (· ≤ reachBytes) = true := hsz0
  clear hval0 hA0 hsz0
  rw [Try.params4] at hA hval hsz
  obtain ⟨v0, v1, v2, rfl⟩ := args3 (trodAll_length _ _ _ _ hA).2
  obtain ⟨n, l, rfl, hl, h1, h2, hb⟩ := open_crate (hval 0 _ v0 rfl rfl)
  obtain ⟨a, ha, rfl, hab⟩ := open_fl (m := 2) (by kernel_rfl) (by kernel_rfl) (by kernel_rfl) (hval 1 _ v1 rfl rfl)
  obtain ⟨x, y, rfl⟩ := list2 ha
  obtain ⟨d, rfl, _⟩ := v_int Try.underlying2 (hval 2 _ v2 rfl rfl)
  exact FnExactGrowDays_walk n l hl h1 h2 hb x y (hab 0) (hab 1) d W

set_option maxRecDepth 100000 in
theorem FnExactGrowDays_holds : Rows.FnExactGrowDaysSaid :=
  OpenClaim.holds_of_wide 4 Try.f4 rfl rfl rfl rfl rfl rfl rfl ⟨rfl, rfl, rfl, rfl, rfl⟩ rfl rfl rfl rfl rfl (by kernel_rfl) Try.func4
    (by unfold joinedFacts
        repeat' (with_reducible refine and_tt ?_ ?_)
        all_goals first | with_reducible exact fact_enter | (rw [fact_lifts]; rfl) | ((with_reducible show (Program.make _ == some _) = true); exact fact_make) | kernel_rfl)
    (of_decide_eq_true (by kernel_rfl)) (by unfold Func.isWrapper; first | (rw [if_pos (by decide +kernel)]; kernel_rfl) | (rw [if_neg (by decide +kernel)]; exact ⟨rfl, rfl⟩))
    (fun os started H enc _ => FnExactGrowDays_lifted os started H enc)

end Go.Proofs.Ytldbpmpjfiglaaa
