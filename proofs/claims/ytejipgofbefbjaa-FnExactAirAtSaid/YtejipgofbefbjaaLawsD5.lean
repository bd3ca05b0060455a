/-
  The air at a place is the reference's, for all rooms, gas, places and warmths.
-/
import Derived.Test.YtejipgofbefbjaaAirAt
import Derived.Test.YtejipgofbefbjaaOpenR
import Derived.Test.YtejipgofbefbjaaIns
import Derived.Deep.RegionHeld3
import Derived.Deep.DeepCutAuto
set_option linter.unusedVariables false
set_option linter.unusedSimpArgs false
namespace Go.Proofs.Ytejipgofbefbjaa
open Go.ChangeShapes Go.WideShapes Go.ChangeAt Go.RowKit Go.FV

set_option maxHeartbeats 1000000 in
theorem eqAir_self (x y : Nat) (hx : FL.num x) (hy : FL.num y) (w : World) : Calls Try.prog 26 #[.agg #[.float .f32 x, .float .f32 y], .agg #[.float .f32 x, .float .f32 y]] w (Ret (.bool true) w) := by
  have c1 := run_cvn x hx
  have c2 := run_cvn y hy
  have Q1 := Lib.hid (sameFloat_self (cv x) (cvn_self _ hx))
  have Q2 := Lib.hid (sameFloat_self (cv y) (cvn_self _ hy))
  clear hx hy
  go_enter Try.func26, Try.ntmps26
  go_wp2_with (first | (go_at_call 21; ((with_reducible refine (Q1.out _).mono ?_); rintro e w' ⟨rfl, rfl⟩)) | (go_at_call 21; ((with_reducible refine (Q2.out _).mono ?_); rintro e w' ⟨rfl, rfl⟩)))
  go_ret; refine ⟨rfl, ?_⟩; (repeat (first | exact Below.refl _ _ | assumption | refine below_new ?_ _ | refine below_step ?_ (by assumption) | refine Below.drew ?_ | refine below_dn ?_ _ | refine Below.setCell ?_ (by simp <;> omega) _))
set_option maxRecDepth 100000 in
set_option maxHeartbeats 3200000 in
theorem FnExactAirAt_walk (a b : Int) (f : Nat) (v0 v1 v2 v3 v4 v5 : Int) (l : List Nat) (hl : l.length = 36) (hb : ∀ i, ix l i < 4294967296) (hf : f < 4294967296) (h1 : -128 ≤ a) (h2 : a ≤ 127) (h3 : -128 ≤ b) (h4 : b ≤ 127) (hv : ∀ k : Nat, 0 ≤ ixI [v0, v1, v2, v3, v4, v5] k ∧ ixI [v0, v1, v2, v3, v4, v5] k ≤ 255) (x y : Int) (q : Nat) (hq : q < 4294967296) (w : World) :
    Calls Try.prog 7 #[.agg #[.int .i8 a, .int .i8 b, .float .f32 f, .int .u8 v0, .int .u8 v1, .int .u8 v2, .int .u8 v3, .int .u8 v4, .int .u8 v5], .agg (flCells l), .int .i64 x, .int .i64 y, .float .f32 q] w (Yes w) := by
  have HL := Lib.hid hl
  have T1 := Lib.hid (fun w => toRoom_any a b f v0 v1 v2 v3 v4 v5 w)
  have T2 := Lib.hid (fun w => toGas_any l hl w)
  have HS := Lib.hid (fun w => spec_AirAt a b f v0 v1 v2 v3 v4 v5 l hl hb x y q w h1 h2 h3 h4 hv)
  have HI := Lib.hid (fun w => impl_AirAt a b f v0 v1 v2 v3 v4 v5 l hl hb x y q w h1 h2 h3 h4)
  have hA : ∃ z1 z2, airX l x y q (validGas a b f [v0, v1, v2, v3, v4, v5] l && (inG a b x y && isPart q)) = #[.float .f32 z1, .float .f32 z2] ∧ FL.num z1 ∧ FL.num z2 := by
    unfold airX
    split
    case isTrue h =>
      rw [Bool.and_eq_true, Bool.and_eq_true] at h
      obtain ⟨A, H, rfl, rfl, hA, hH, hu, _, _⟩ := gas_facts h.1 hb
      obtain ⟨X, Y, rfl, rfl, hX, hY, _, _⟩ := inG_nat h.2.1 (by omega) (by omega)
      refine ⟨_, _, rfl, (fin_part h.2.2 hq).num, ?_⟩
      simp only [Int.toNat_natCast]
      exact (hu _ (by omega)).1.num
    case isFalse => exact ⟨_, _, rfl, ⟨by decide, by decide⟩, ⟨by decide, by decide⟩⟩
  obtain ⟨z1, z2, hz, n1, n2⟩ := hA
  obtain ⟨c, hc⟩ : ∃ c, told (validGas a b f [v0, v1, v2, v3, v4, v5] l) (inG a b x y && isPart q) = c := ⟨_, rfl⟩
  simp only [hz, hc] at HS HI
  have HE := Lib.hid (fun w => eqAir_self z1 z2 n1 n2 w)
  clear hl hb hf h1 h2 h3 h4 hv hz hc hq n1 n2
  obtain ⟨W, hW⟩ : ∃ W, W = ((w.alloc (.cells #[.int .i8 a, .int .i8 b, .float .f32 f, .int .u8 v0, .int .u8 v1, .int .u8 v2, .int .u8 v3, .int .u8 v4, .int .u8 v5] 32)).alloc (.cells (flCells l) 24)) := ⟨_, rfl⟩
  have HI0 : Ins w [.cells #[.int .i8 a, .int .i8 b, .float .f32 f, .int .u8 v0, .int .u8 v1, .int .u8 v2, .int .u8 v3, .int .u8 v4, .int .u8 v5] 32 (0, 0), .cells (flCells l) 24 (0, 0)] W := by
    rw [hW]
    refine ⟨by (repeat rw [size_al]); exact Nat.le_refl _, by (repeat (first | exact Below.refl _ _ | assumption | refine below_new ?_ _ | refine below_step ?_ (by assumption) | refine Below.drew ?_ | refine below_dn ?_ _ | refine Below.setCell ?_ (by simp <;> omega) _)), fun i o ho => ?_⟩
    match i, ho with
    | 0, ho => cases ho; exact ha2_0 _ _ _
    | 1, ho => cases ho; exact ha2_1 _ _ _
  have HW := Lib.hid hW
  clear hW
  obtain ⟨os, hos⟩ : ∃ os, os = [Obj.cells #[.int .i8 a, .int .i8 b, .float .f32 f, .int .u8 v0, .int .u8 v1, .int .u8 v2, .int .u8 v3, .int .u8 v4, .int .u8 v5] 32 (0, 0), Obj.cells (flCells l) 24 (0, 0)] := ⟨_, rfl⟩
  rw [← hos] at HI0
  have O0 : os[0]? = some (.cells #[.int .i8 a, .int .i8 b, .float .f32 f, .int .u8 v0, .int .u8 v1, .int .u8 v2, .int .u8 v3, .int .u8 v4, .int .u8 v5] 32 (0, 0)) := by rw [hos]; rfl
  have O1 : os[1]? = some (.cells (flCells l) 24 (0, 0)) := by rw [hos]; rfl
  clear hos
  go_enter Try.func7, Try.ntmps7
  go_wp2_with fail
  rw [← HW.out]
  clear HW
  go_cut [11, 12] (fun s5 s6 wx => ∃ b, s5 = .pointer (some ⟨b, 0, none⟩) ∧ s6 = .int .i64 c ∧ Ins w os wx ∧ New w os.length b #[.float .f32 z1, .float .f32 z2] 44 wx)
  case first =>
    refine wp_region_held_drew (S := (Ins w os)) (by kernel_rfl) (Ins.drew HI0) (fun hHeld => ?_)
    refine wpAnyH_take (i := 0) rfl (by kernel_rfl) (by kernel_rfl) (by kernel_rfl) (fun _ _ _ h => h) (yieldsIf_load_mid (by rfl) _ _ rfl _ _ rfl [.int .i8 a, .int .i8 b, .float .f32 f, .int .u8 v0, .int .u8 v1, .int .u8 v2, .int .u8 v3, .int .u8 v4, .int .u8 v5] _ (fun W hW j v hv => (cell_of_row _ _ _ _ _ _ (hW.2.2 0 _ O0)).trans (by rw [Nat.zero_add, ← hv]; simp)) Try.underlying32 rfl (by kernel_rfl)) hHeld ?_
    refine wpAnyH_take (i := 2) rfl (by kernel_rfl) (by kernel_rfl) (by kernel_rfl) (fun _ _ _ h => h) (yieldsIf_load_mid (by rfl) _ _ rfl _ _ rfl (flCells l).toList _ (fun W hW j v hv => (cell_of_row _ _ _ _ _ _ (hW.2.2 1 _ O1)).trans (by rw [Nat.zero_add, ← hv]; simp)) Try.underlying24 rfl (by rw [Array.length_toList, flCells_size, HL.out]; kernel_rfl)) hHeld ?_
    refine wpAnyH_take (i := 4) (v := .int .i64 x) rfl (by kernel_rfl) (by kernel_rfl) (by kernel_rfl) (fun _ _ _ h => h) (Or.inl ⟨by rfl, fun w _ => by go_simp⟩) hHeld ?_
    refine wpAnyH_take (i := 5) (v := .int .i64 y) rfl (by kernel_rfl) (by kernel_rfl) (by kernel_rfl) (fun _ _ _ h => h) (Or.inl ⟨by rfl, fun w _ => by go_simp⟩) hHeld ?_
    refine wpAnyH_take (i := 6) (v := .float .f32 q) rfl (by kernel_rfl) (by kernel_rfl) (by kernel_rfl) (fun _ _ _ h => h) (Or.inl ⟨by rfl, fun w _ => by go_simp⟩) hHeld ?_
    refine wpAnyH_ready (rs := [1, 11]) (by kernel_rfl) (by simp) (AllReadyH.cons rfl (fun K' hK => ?_) (AllReadyH.cons rfl (fun K' hK => ?_) AllReadyH.nil))
    · rw [if_pos (by rfl)]
      (try simp only [Act.put, List.setIfInBounds_toArray, List.set_cons_zero, List.set_cons_succ])
      go_wp2_with fail
      ((with_reducible refine (T1.out _).mono ?_); rintro e wx3 ⟨rfl, hb2⟩)
      refine hK.out _ _ (Ins.below hHeld hb2) (fun hH1 => ?_)
      clear hK
      refine wpAnyH_ready (rs := [3, 11]) (by kernel_rfl) (by simp) (AllReadyH.cons rfl (fun K' hK => ?_) (AllReadyH.cons rfl (fun K' hK => ?_) AllReadyH.nil))
      · rw [if_pos (by rfl)]
        (try simp only [Act.put, List.setIfInBounds_toArray, List.set_cons_zero, List.set_cons_succ])
        go_wp2_with fail
        ((with_reducible refine (T2.out _).mono ?_); rintro e wx6 ⟨rfl, hb5⟩)
        refine hK.out _ _ (Ins.below hH1 hb5) (fun hH4 => ?_)
        clear hK
        refine wpAnyH_ready (rs := [7, 11]) (by kernel_rfl) (by simp) (AllReadyH.cons rfl (fun K' hK => ?_) (AllReadyH.cons rfl (fun K' hK => ?_) AllReadyH.nil))
        · rw [if_pos (by rfl)]
          (try simp only [Act.put, List.setIfInBounds_toArray, List.set_cons_zero, List.set_cons_succ])
          go_wp2_with fail
          ((with_reducible refine (HS.out _).mono ?_); rintro e wx9 ⟨rfl, hb8⟩)
          refine hK.out _ _ (Ins.below hH4 hb8) (fun hH7 => ?_)
          clear hK
          refine wpAnyH_take (i := 8) (v := (.tuple #[.agg #[.float .f32 z1, .float .f32 z2], .int .i64 c])) rfl (by kernel_rfl) (by kernel_rfl) (by kernel_rfl) (fun _ _ _ h => h) (Or.inl ⟨by rfl, fun w _ => by go_simp⟩) hH7 ?_
          refine wpAnyH_take (i := 9) (v := (.agg #[.float .f32 z1, .float .f32 z2])) rfl (by kernel_rfl) (by kernel_rfl) (by kernel_rfl) (fun _ _ _ h => h) (Or.inl ⟨by rfl, fun w _ => by go_simp⟩) hH7 ?_
          refine wpAnyH_take (i := 10) (v := (.int .i64 c)) rfl (by kernel_rfl) (by kernel_rfl) (by kernel_rfl) (fun _ _ _ h => h) (Or.inl ⟨by rfl, fun w _ => by go_simp⟩) hH7 ?_
          refine wpAnyH_ready (rs := [11]) (by kernel_rfl) (by simp) (AllReadyH.cons rfl (fun K' hK => ?_) AllReadyH.nil)
          rw [if_pos (by rfl)]
          (try simp only [Act.put, List.setIfInBounds_toArray, List.set_cons_zero, List.set_cons_succ])
          go_wp2_with fail
          have nw11 := New.made hH7 #[.float .f32 0, .float .f32 0] 44
          refine hK.out _ _ (Ins.alloc hH7 _) (fun hH12 => ?_)
          clear hK
          refine wpAnyH_ready (rs := [12]) (by kernel_rfl) (by simp) (AllReadyH.cons rfl (fun K' hK => ?_) AllReadyH.nil)
          rw [if_pos (by rfl)]
          (try simp only [Act.put, List.setIfInBounds_toArray, List.set_cons_zero, List.set_cons_succ])
          refine wp_store_row 44 _ _ rfl _ #[.float .f32 z1, .float .f32 z2] rfl rfl 44 #[.float .f32 0, .float .f32 0] nw11.2.2 (by kernel_rfl) rfl (by simp [Value.oneCell']) ?_
          have nw14 := New.setRow nw11 #[.float .f32 z1, .float .f32 z2]
          refine hK.out _ _ (Ins.setRow hH12 nw11.1 #[.float .f32 z1, .float .f32 z2]) (fun hH13 => ?_)
          clear hK
          refine wpAnyH_ready (rs := [13]) (by kernel_rfl) (by simp) (AllReadyH.cons rfl (fun K' hK => ?_) AllReadyH.nil)
          rw [if_pos (by rfl)]
          (try simp only [Act.put, List.setIfInBounds_toArray, List.set_cons_zero, List.set_cons_succ])
          go_wp2_with fail
          refine hK.out _ _ hH13 (fun hH15 => ?_)
          clear hK
          refine wpAnyH_done (by kernel_rfl) ?_ _
          go_wp2_with fail
          go_meet
          case rel => exact ⟨_, rfl, rfl, hH15, nw14⟩
        · rw [if_pos (by rfl)]
          (try simp only [Act.put, List.setIfInBounds_toArray, List.set_cons_zero, List.set_cons_succ])
          go_wp2_with fail
          have nw17 := New.made hH4 #[.float .f32 0, .float .f32 0] 44
          refine hK.out _ _ (Ins.alloc hH4 _) (fun hH18 => ?_)
          clear hK
          refine wpAnyH_ready (rs := [7]) (by kernel_rfl) (by simp) (AllReadyH.cons rfl (fun K' hK => ?_) AllReadyH.nil)
          rw [if_pos (by rfl)]
          (try simp only [Act.put, List.setIfInBounds_toArray, List.set_cons_zero, List.set_cons_succ])
          go_wp2_with fail
          ((with_reducible refine (HS.out _).mono ?_); rintro e wx21 ⟨rfl, hb20⟩)
          have nw22 := New.below nw17 hb20
          refine hK.out _ _ (Ins.below hH18 hb20) (fun hH19 => ?_)
          clear hK
          refine wpAnyH_take (i := 8) (v := (.tuple #[.agg #[.float .f32 z1, .float .f32 z2], .int .i64 c])) rfl (by kernel_rfl) (by kernel_rfl) (by kernel_rfl) (fun _ _ _ h => h) (Or.inl ⟨by rfl, fun w _ => by go_simp⟩) hH19 ?_
          refine wpAnyH_take (i := 9) (v := (.agg #[.float .f32 z1, .float .f32 z2])) rfl (by kernel_rfl) (by kernel_rfl) (by kernel_rfl) (fun _ _ _ h => h) (Or.inl ⟨by rfl, fun w _ => by go_simp⟩) hH19 ?_
          refine wpAnyH_take (i := 10) (v := (.int .i64 c)) rfl (by kernel_rfl) (by kernel_rfl) (by kernel_rfl) (fun _ _ _ h => h) (Or.inl ⟨by rfl, fun w _ => by go_simp⟩) hH19 ?_
          refine wpAnyH_ready (rs := [12]) (by kernel_rfl) (by simp) (AllReadyH.cons rfl (fun K' hK => ?_) AllReadyH.nil)
          rw [if_pos (by rfl)]
          (try simp only [Act.put, List.setIfInBounds_toArray, List.set_cons_zero, List.set_cons_succ])
          refine wp_store_row 44 _ _ rfl _ #[.float .f32 z1, .float .f32 z2] rfl rfl 44 #[.float .f32 0, .float .f32 0] nw22.2.2 (by kernel_rfl) rfl (by simp [Value.oneCell']) ?_
          have nw24 := New.setRow nw22 #[.float .f32 z1, .float .f32 z2]
          refine hK.out _ _ (Ins.setRow hH19 nw22.1 #[.float .f32 z1, .float .f32 z2]) (fun hH23 => ?_)
          clear hK
          refine wpAnyH_ready (rs := [13]) (by kernel_rfl) (by simp) (AllReadyH.cons rfl (fun K' hK => ?_) AllReadyH.nil)
          rw [if_pos (by rfl)]
          (try simp only [Act.put, List.setIfInBounds_toArray, List.set_cons_zero, List.set_cons_succ])
          go_wp2_with fail
          refine hK.out _ _ hH23 (fun hH25 => ?_)
          clear hK
          refine wpAnyH_done (by kernel_rfl) ?_ _
          go_wp2_with fail
          go_meet
          case rel => exact ⟨_, rfl, rfl, hH25, nw24⟩
      · rw [if_pos (by rfl)]
        (try simp only [Act.put, List.setIfInBounds_toArray, List.set_cons_zero, List.set_cons_succ])
        go_wp2_with fail
        have nw27 := New.made hH1 #[.float .f32 0, .float .f32 0] 44
        refine hK.out _ _ (Ins.alloc hH1 _) (fun hH28 => ?_)
        clear hK
        refine wpAnyH_ready (rs := [3]) (by kernel_rfl) (by simp) (AllReadyH.cons rfl (fun K' hK => ?_) AllReadyH.nil)
        rw [if_pos (by rfl)]
        (try simp only [Act.put, List.setIfInBounds_toArray, List.set_cons_zero, List.set_cons_succ])
        go_wp2_with fail
        ((with_reducible refine (T2.out _).mono ?_); rintro e wx31 ⟨rfl, hb30⟩)
        have nw32 := New.below nw27 hb30
        refine hK.out _ _ (Ins.below hH28 hb30) (fun hH29 => ?_)
        clear hK
        refine wpAnyH_ready (rs := [7]) (by kernel_rfl) (by simp) (AllReadyH.cons rfl (fun K' hK => ?_) AllReadyH.nil)
        rw [if_pos (by rfl)]
        (try simp only [Act.put, List.setIfInBounds_toArray, List.set_cons_zero, List.set_cons_succ])
        go_wp2_with fail
        ((with_reducible refine (HS.out _).mono ?_); rintro e wx35 ⟨rfl, hb34⟩)
        have nw36 := New.below nw32 hb34
        refine hK.out _ _ (Ins.below hH29 hb34) (fun hH33 => ?_)
        clear hK
        refine wpAnyH_take (i := 8) (v := (.tuple #[.agg #[.float .f32 z1, .float .f32 z2], .int .i64 c])) rfl (by kernel_rfl) (by kernel_rfl) (by kernel_rfl) (fun _ _ _ h => h) (Or.inl ⟨by rfl, fun w _ => by go_simp⟩) hH33 ?_
        refine wpAnyH_take (i := 9) (v := (.agg #[.float .f32 z1, .float .f32 z2])) rfl (by kernel_rfl) (by kernel_rfl) (by kernel_rfl) (fun _ _ _ h => h) (Or.inl ⟨by rfl, fun w _ => by go_simp⟩) hH33 ?_
        refine wpAnyH_take (i := 10) (v := (.int .i64 c)) rfl (by kernel_rfl) (by kernel_rfl) (by kernel_rfl) (fun _ _ _ h => h) (Or.inl ⟨by rfl, fun w _ => by go_simp⟩) hH33 ?_
        refine wpAnyH_ready (rs := [12]) (by kernel_rfl) (by simp) (AllReadyH.cons rfl (fun K' hK => ?_) AllReadyH.nil)
        rw [if_pos (by rfl)]
        (try simp only [Act.put, List.setIfInBounds_toArray, List.set_cons_zero, List.set_cons_succ])
        refine wp_store_row 44 _ _ rfl _ #[.float .f32 z1, .float .f32 z2] rfl rfl 44 #[.float .f32 0, .float .f32 0] nw36.2.2 (by kernel_rfl) rfl (by simp [Value.oneCell']) ?_
        have nw38 := New.setRow nw36 #[.float .f32 z1, .float .f32 z2]
        refine hK.out _ _ (Ins.setRow hH33 nw36.1 #[.float .f32 z1, .float .f32 z2]) (fun hH37 => ?_)
        clear hK
        refine wpAnyH_ready (rs := [13]) (by kernel_rfl) (by simp) (AllReadyH.cons rfl (fun K' hK => ?_) AllReadyH.nil)
        rw [if_pos (by rfl)]
        (try simp only [Act.put, List.setIfInBounds_toArray, List.set_cons_zero, List.set_cons_succ])
        go_wp2_with fail
        refine hK.out _ _ hH37 (fun hH39 => ?_)
        clear hK
        refine wpAnyH_done (by kernel_rfl) ?_ _
        go_wp2_with fail
        go_meet
        case rel => exact ⟨_, rfl, rfl, hH39, nw38⟩
    · rw [if_pos (by rfl)]
      (try simp only [Act.put, List.setIfInBounds_toArray, List.set_cons_zero, List.set_cons_succ])
      go_wp2_with fail
      have nw41 := New.made hHeld #[.float .f32 0, .float .f32 0] 44
      refine hK.out _ _ (Ins.alloc hHeld _) (fun hH42 => ?_)
      clear hK
      refine wpAnyH_ready (rs := [1]) (by kernel_rfl) (by simp) (AllReadyH.cons rfl (fun K' hK => ?_) AllReadyH.nil)
      rw [if_pos (by rfl)]
      (try simp only [Act.put, List.setIfInBounds_toArray, List.set_cons_zero, List.set_cons_succ])
      go_wp2_with fail
      ((with_reducible refine (T1.out _).mono ?_); rintro e wx45 ⟨rfl, hb44⟩)
      have nw46 := New.below nw41 hb44
      refine hK.out _ _ (Ins.below hH42 hb44) (fun hH43 => ?_)
      clear hK
      refine wpAnyH_ready (rs := [3]) (by kernel_rfl) (by simp) (AllReadyH.cons rfl (fun K' hK => ?_) AllReadyH.nil)
      rw [if_pos (by rfl)]
      (try simp only [Act.put, List.setIfInBounds_toArray, List.set_cons_zero, List.set_cons_succ])
      go_wp2_with fail
      ((with_reducible refine (T2.out _).mono ?_); rintro e wx49 ⟨rfl, hb48⟩)
      have nw50 := New.below nw46 hb48
      refine hK.out _ _ (Ins.below hH43 hb48) (fun hH47 => ?_)
      clear hK
      refine wpAnyH_ready (rs := [7]) (by kernel_rfl) (by simp) (AllReadyH.cons rfl (fun K' hK => ?_) AllReadyH.nil)
      rw [if_pos (by rfl)]
      (try simp only [Act.put, List.setIfInBounds_toArray, List.set_cons_zero, List.set_cons_succ])
      go_wp2_with fail
      ((with_reducible refine (HS.out _).mono ?_); rintro e wx53 ⟨rfl, hb52⟩)
      have nw54 := New.below nw50 hb52
      refine hK.out _ _ (Ins.below hH47 hb52) (fun hH51 => ?_)
      clear hK
      refine wpAnyH_take (i := 8) (v := (.tuple #[.agg #[.float .f32 z1, .float .f32 z2], .int .i64 c])) rfl (by kernel_rfl) (by kernel_rfl) (by kernel_rfl) (fun _ _ _ h => h) (Or.inl ⟨by rfl, fun w _ => by go_simp⟩) hH51 ?_
      refine wpAnyH_take (i := 9) (v := (.agg #[.float .f32 z1, .float .f32 z2])) rfl (by kernel_rfl) (by kernel_rfl) (by kernel_rfl) (fun _ _ _ h => h) (Or.inl ⟨by rfl, fun w _ => by go_simp⟩) hH51 ?_
      refine wpAnyH_take (i := 10) (v := (.int .i64 c)) rfl (by kernel_rfl) (by kernel_rfl) (by kernel_rfl) (fun _ _ _ h => h) (Or.inl ⟨by rfl, fun w _ => by go_simp⟩) hH51 ?_
      refine wpAnyH_ready (rs := [12]) (by kernel_rfl) (by simp) (AllReadyH.cons rfl (fun K' hK => ?_) AllReadyH.nil)
      rw [if_pos (by rfl)]
      (try simp only [Act.put, List.setIfInBounds_toArray, List.set_cons_zero, List.set_cons_succ])
      refine wp_store_row 44 _ _ rfl _ #[.float .f32 z1, .float .f32 z2] rfl rfl 44 #[.float .f32 0, .float .f32 0] nw54.2.2 (by kernel_rfl) rfl (by simp [Value.oneCell']) ?_
      have nw56 := New.setRow nw54 #[.float .f32 z1, .float .f32 z2]
      refine hK.out _ _ (Ins.setRow hH51 nw54.1 #[.float .f32 z1, .float .f32 z2]) (fun hH55 => ?_)
      clear hK
      refine wpAnyH_ready (rs := [13]) (by kernel_rfl) (by simp) (AllReadyH.cons rfl (fun K' hK => ?_) AllReadyH.nil)
      rw [if_pos (by rfl)]
      (try simp only [Act.put, List.setIfInBounds_toArray, List.set_cons_zero, List.set_cons_succ])
      go_wp2_with fail
      refine hK.out _ _ hH55 (fun hH57 => ?_)
      clear hK
      refine wpAnyH_done (by kernel_rfl) ?_ _
      go_wp2_with fail
      go_meet
      case rel => exact ⟨_, rfl, rfl, hH57, nw56⟩
  case rest =>
    obtain ⟨b1, rfl, rfl, I1, N1⟩ := hcut
    go_wp2_with fail
    go_cut [13, 14] (fun s5 s6 wx => ∃ b, s5 = .pointer (some ⟨b, 0, none⟩) ∧ s6 = .int .i64 c ∧ Ins w os wx ∧ New w os.length b1 #[.float .f32 z1, .float .f32 z2] 44 wx ∧ New w os.length b #[.float .f32 z1, .float .f32 z2] 44 wx)
    case first =>
      refine wp_region_held_drew (S := (Ins w os)) (by kernel_rfl) (Ins.drew I1) (fun hHeld => ?_)
      refine wpAnyH_take (i := 0) rfl (by kernel_rfl) (by kernel_rfl) (by kernel_rfl) (fun _ _ _ h => h) (yieldsIf_load_mid (by rfl) _ _ rfl _ _ rfl [.int .i8 a, .int .i8 b, .float .f32 f, .int .u8 v0, .int .u8 v1, .int .u8 v2, .int .u8 v3, .int .u8 v4, .int .u8 v5] _ (fun W hW j v hv => (cell_of_row _ _ _ _ _ _ (hW.2.2 0 _ O0)).trans (by rw [Nat.zero_add, ← hv]; simp)) Try.underlying32 rfl (by kernel_rfl)) hHeld ?_
      refine wpAnyH_take (i := 2) rfl (by kernel_rfl) (by kernel_rfl) (by kernel_rfl) (fun _ _ _ h => h) (yieldsIf_load_mid (by rfl) _ _ rfl _ _ rfl (flCells l).toList _ (fun W hW j v hv => (cell_of_row _ _ _ _ _ _ (hW.2.2 1 _ O1)).trans (by rw [Nat.zero_add, ← hv]; simp)) Try.underlying24 rfl (by rw [Array.length_toList, flCells_size, HL.out]; kernel_rfl)) hHeld ?_
      refine wpAnyH_take (i := 4) (v := .int .i64 x) rfl (by kernel_rfl) (by kernel_rfl) (by kernel_rfl) (fun _ _ _ h => h) (Or.inl ⟨by rfl, fun w _ => by go_simp⟩) hHeld ?_
      refine wpAnyH_take (i := 5) (v := .int .i64 y) rfl (by kernel_rfl) (by kernel_rfl) (by kernel_rfl) (fun _ _ _ h => h) (Or.inl ⟨by rfl, fun w _ => by go_simp⟩) hHeld ?_
      refine wpAnyH_take (i := 6) (v := .float .f32 q) rfl (by kernel_rfl) (by kernel_rfl) (by kernel_rfl) (fun _ _ _ h => h) (Or.inl ⟨by rfl, fun w _ => by go_simp⟩) hHeld ?_
      have nw1 := New.drew N1
      refine wpAnyH_ready (rs := [1, 11]) (by kernel_rfl) (by simp) (AllReadyH.cons rfl (fun K' hK => ?_) (AllReadyH.cons rfl (fun K' hK => ?_) AllReadyH.nil))
      · rw [if_pos (by rfl)]
        (try simp only [Act.put, List.setIfInBounds_toArray, List.set_cons_zero, List.set_cons_succ])
        go_wp2_with fail
        ((with_reducible refine (T1.out _).mono ?_); rintro e wx4 ⟨rfl, hb3⟩)
        have nw5 := New.below nw1 hb3
        refine hK.out _ _ (Ins.below hHeld hb3) (fun hH2 => ?_)
        clear hK
        refine wpAnyH_ready (rs := [3, 11]) (by kernel_rfl) (by simp) (AllReadyH.cons rfl (fun K' hK => ?_) (AllReadyH.cons rfl (fun K' hK => ?_) AllReadyH.nil))
        · rw [if_pos (by rfl)]
          (try simp only [Act.put, List.setIfInBounds_toArray, List.set_cons_zero, List.set_cons_succ])
          go_wp2_with fail
          ((with_reducible refine (T2.out _).mono ?_); rintro e wx8 ⟨rfl, hb7⟩)
          have nw9 := New.below nw5 hb7
          refine hK.out _ _ (Ins.below hH2 hb7) (fun hH6 => ?_)
          clear hK
          refine wpAnyH_ready (rs := [7, 11]) (by kernel_rfl) (by simp) (AllReadyH.cons rfl (fun K' hK => ?_) (AllReadyH.cons rfl (fun K' hK => ?_) AllReadyH.nil))
          · rw [if_pos (by rfl)]
            (try simp only [Act.put, List.setIfInBounds_toArray, List.set_cons_zero, List.set_cons_succ])
            go_wp2_with fail
            ((with_reducible refine (HI.out _).mono ?_); rintro e wx12 ⟨rfl, hb11⟩)
            have nw13 := New.below nw9 hb11
            refine hK.out _ _ (Ins.below hH6 hb11) (fun hH10 => ?_)
            clear hK
            refine wpAnyH_take (i := 8) (v := (.tuple #[.agg #[.float .f32 z1, .float .f32 z2], .int .i64 c])) rfl (by kernel_rfl) (by kernel_rfl) (by kernel_rfl) (fun _ _ _ h => h) (Or.inl ⟨by rfl, fun w _ => by go_simp⟩) hH10 ?_
            refine wpAnyH_take (i := 9) (v := (.agg #[.float .f32 z1, .float .f32 z2])) rfl (by kernel_rfl) (by kernel_rfl) (by kernel_rfl) (fun _ _ _ h => h) (Or.inl ⟨by rfl, fun w _ => by go_simp⟩) hH10 ?_
            refine wpAnyH_take (i := 10) (v := (.int .i64 c)) rfl (by kernel_rfl) (by kernel_rfl) (by kernel_rfl) (fun _ _ _ h => h) (Or.inl ⟨by rfl, fun w _ => by go_simp⟩) hH10 ?_
            refine wpAnyH_ready (rs := [11]) (by kernel_rfl) (by simp) (AllReadyH.cons rfl (fun K' hK => ?_) AllReadyH.nil)
            rw [if_pos (by rfl)]
            (try simp only [Act.put, List.setIfInBounds_toArray, List.set_cons_zero, List.set_cons_succ])
            go_wp2_with fail
            have nw15 := New.made hH10 #[.float .f32 0, .float .f32 0] 44
            have lt17 := nw13.2.1
            refine hK.out _ _ (Ins.alloc hH10 _) (fun hH16 => ?_)
            clear hK
            have nw18 := New.alloc nw13 (.cells #[.float .f32 0, .float .f32 0] 44)
            refine wpAnyH_ready (rs := [12]) (by kernel_rfl) (by simp) (AllReadyH.cons rfl (fun K' hK => ?_) AllReadyH.nil)
            rw [if_pos (by rfl)]
            (try simp only [Act.put, List.setIfInBounds_toArray, List.set_cons_zero, List.set_cons_succ])
            refine wp_store_row 44 _ _ rfl _ #[.float .f32 z1, .float .f32 z2] rfl rfl 44 #[.float .f32 0, .float .f32 0] nw15.2.2 (by kernel_rfl) rfl (by simp [Value.oneCell']) ?_
            have nw20 := New.setRow nw15 #[.float .f32 z1, .float .f32 z2]
            have nw21 := New.other nw18 (Nat.ne_of_lt lt17) #[.float .f32 z1, .float .f32 z2]
            refine hK.out _ _ (Ins.setRow hH16 nw15.1 #[.float .f32 z1, .float .f32 z2]) (fun hH19 => ?_)
            clear hK
            refine wpAnyH_ready (rs := [13]) (by kernel_rfl) (by simp) (AllReadyH.cons rfl (fun K' hK => ?_) AllReadyH.nil)
            rw [if_pos (by rfl)]
            (try simp only [Act.put, List.setIfInBounds_toArray, List.set_cons_zero, List.set_cons_succ])
            go_wp2_with fail
            refine hK.out _ _ hH19 (fun hH22 => ?_)
            clear hK
            refine wpAnyH_done (by kernel_rfl) ?_ _
            go_wp2_with fail
            go_meet
            case rel => exact ⟨_, rfl, rfl, hH22, nw21, nw20⟩
          · rw [if_pos (by rfl)]
            (try simp only [Act.put, List.setIfInBounds_toArray, List.set_cons_zero, List.set_cons_succ])
            go_wp2_with fail
            have nw24 := New.made hH6 #[.float .f32 0, .float .f32 0] 44
            have lt26 := nw9.2.1
            refine hK.out _ _ (Ins.alloc hH6 _) (fun hH25 => ?_)
            clear hK
            have nw27 := New.alloc nw9 (.cells #[.float .f32 0, .float .f32 0] 44)
            refine wpAnyH_ready (rs := [7]) (by kernel_rfl) (by simp) (AllReadyH.cons rfl (fun K' hK => ?_) AllReadyH.nil)
            rw [if_pos (by rfl)]
            (try simp only [Act.put, List.setIfInBounds_toArray, List.set_cons_zero, List.set_cons_succ])
            go_wp2_with fail
            ((with_reducible refine (HI.out _).mono ?_); rintro e wx30 ⟨rfl, hb29⟩)
            have nw31 := New.below nw27 hb29
            have nw32 := New.below nw24 hb29
            refine hK.out _ _ (Ins.below hH25 hb29) (fun hH28 => ?_)
            clear hK
            refine wpAnyH_take (i := 8) (v := (.tuple #[.agg #[.float .f32 z1, .float .f32 z2], .int .i64 c])) rfl (by kernel_rfl) (by kernel_rfl) (by kernel_rfl) (fun _ _ _ h => h) (Or.inl ⟨by rfl, fun w _ => by go_simp⟩) hH28 ?_
            refine wpAnyH_take (i := 9) (v := (.agg #[.float .f32 z1, .float .f32 z2])) rfl (by kernel_rfl) (by kernel_rfl) (by kernel_rfl) (fun _ _ _ h => h) (Or.inl ⟨by rfl, fun w _ => by go_simp⟩) hH28 ?_
            refine wpAnyH_take (i := 10) (v := (.int .i64 c)) rfl (by kernel_rfl) (by kernel_rfl) (by kernel_rfl) (fun _ _ _ h => h) (Or.inl ⟨by rfl, fun w _ => by go_simp⟩) hH28 ?_
            refine wpAnyH_ready (rs := [12]) (by kernel_rfl) (by simp) (AllReadyH.cons rfl (fun K' hK => ?_) AllReadyH.nil)
            rw [if_pos (by rfl)]
            (try simp only [Act.put, List.setIfInBounds_toArray, List.set_cons_zero, List.set_cons_succ])
            refine wp_store_row 44 _ _ rfl _ #[.float .f32 z1, .float .f32 z2] rfl rfl 44 #[.float .f32 0, .float .f32 0] nw32.2.2 (by kernel_rfl) rfl (by simp [Value.oneCell']) ?_
            have nw34 := New.setRow nw32 #[.float .f32 z1, .float .f32 z2]
            have nw35 := New.other nw31 (Nat.ne_of_lt lt26) #[.float .f32 z1, .float .f32 z2]
            refine hK.out _ _ (Ins.setRow hH28 nw32.1 #[.float .f32 z1, .float .f32 z2]) (fun hH33 => ?_)
            clear hK
            refine wpAnyH_ready (rs := [13]) (by kernel_rfl) (by simp) (AllReadyH.cons rfl (fun K' hK => ?_) AllReadyH.nil)
            rw [if_pos (by rfl)]
            (try simp only [Act.put, List.setIfInBounds_toArray, List.set_cons_zero, List.set_cons_succ])
            go_wp2_with fail
            refine hK.out _ _ hH33 (fun hH36 => ?_)
            clear hK
            refine wpAnyH_done (by kernel_rfl) ?_ _
            go_wp2_with fail
            go_meet
            case rel => exact ⟨_, rfl, rfl, hH36, nw35, nw34⟩
        · rw [if_pos (by rfl)]
          (try simp only [Act.put, List.setIfInBounds_toArray, List.set_cons_zero, List.set_cons_succ])
          go_wp2_with fail
          have nw38 := New.made hH2 #[.float .f32 0, .float .f32 0] 44
          have lt40 := nw5.2.1
          refine hK.out _ _ (Ins.alloc hH2 _) (fun hH39 => ?_)
          clear hK
          have nw41 := New.alloc nw5 (.cells #[.float .f32 0, .float .f32 0] 44)
          refine wpAnyH_ready (rs := [3]) (by kernel_rfl) (by simp) (AllReadyH.cons rfl (fun K' hK => ?_) AllReadyH.nil)
          rw [if_pos (by rfl)]
          (try simp only [Act.put, List.setIfInBounds_toArray, List.set_cons_zero, List.set_cons_succ])
          go_wp2_with fail
          ((with_reducible refine (T2.out _).mono ?_); rintro e wx44 ⟨rfl, hb43⟩)
          have nw45 := New.below nw41 hb43
          have nw46 := New.below nw38 hb43
          refine hK.out _ _ (Ins.below hH39 hb43) (fun hH42 => ?_)
          clear hK
          refine wpAnyH_ready (rs := [7]) (by kernel_rfl) (by simp) (AllReadyH.cons rfl (fun K' hK => ?_) AllReadyH.nil)
          rw [if_pos (by rfl)]
          (try simp only [Act.put, List.setIfInBounds_toArray, List.set_cons_zero, List.set_cons_succ])
          go_wp2_with fail
          ((with_reducible refine (HI.out _).mono ?_); rintro e wx49 ⟨rfl, hb48⟩)
          have nw50 := New.below nw45 hb48
          have nw51 := New.below nw46 hb48
          refine hK.out _ _ (Ins.below hH42 hb48) (fun hH47 => ?_)
          clear hK
          refine wpAnyH_take (i := 8) (v := (.tuple #[.agg #[.float .f32 z1, .float .f32 z2], .int .i64 c])) rfl (by kernel_rfl) (by kernel_rfl) (by kernel_rfl) (fun _ _ _ h => h) (Or.inl ⟨by rfl, fun w _ => by go_simp⟩) hH47 ?_
          refine wpAnyH_take (i := 9) (v := (.agg #[.float .f32 z1, .float .f32 z2])) rfl (by kernel_rfl) (by kernel_rfl) (by kernel_rfl) (fun _ _ _ h => h) (Or.inl ⟨by rfl, fun w _ => by go_simp⟩) hH47 ?_
          refine wpAnyH_take (i := 10) (v := (.int .i64 c)) rfl (by kernel_rfl) (by kernel_rfl) (by kernel_rfl) (fun _ _ _ h => h) (Or.inl ⟨by rfl, fun w _ => by go_simp⟩) hH47 ?_
          refine wpAnyH_ready (rs := [12]) (by kernel_rfl) (by simp) (AllReadyH.cons rfl (fun K' hK => ?_) AllReadyH.nil)
          rw [if_pos (by rfl)]
          (try simp only [Act.put, List.setIfInBounds_toArray, List.set_cons_zero, List.set_cons_succ])
          refine wp_store_row 44 _ _ rfl _ #[.float .f32 z1, .float .f32 z2] rfl rfl 44 #[.float .f32 0, .float .f32 0] nw51.2.2 (by kernel_rfl) rfl (by simp [Value.oneCell']) ?_
          have nw53 := New.setRow nw51 #[.float .f32 z1, .float .f32 z2]
          have nw54 := New.other nw50 (Nat.ne_of_lt lt40) #[.float .f32 z1, .float .f32 z2]
          refine hK.out _ _ (Ins.setRow hH47 nw51.1 #[.float .f32 z1, .float .f32 z2]) (fun hH52 => ?_)
          clear hK
          refine wpAnyH_ready (rs := [13]) (by kernel_rfl) (by simp) (AllReadyH.cons rfl (fun K' hK => ?_) AllReadyH.nil)
          rw [if_pos (by rfl)]
          (try simp only [Act.put, List.setIfInBounds_toArray, List.set_cons_zero, List.set_cons_succ])
          go_wp2_with fail
          refine hK.out _ _ hH52 (fun hH55 => ?_)
          clear hK
          refine wpAnyH_done (by kernel_rfl) ?_ _
          go_wp2_with fail
          go_meet
          case rel => exact ⟨_, rfl, rfl, hH55, nw54, nw53⟩
      · rw [if_pos (by rfl)]
        (try simp only [Act.put, List.setIfInBounds_toArray, List.set_cons_zero, List.set_cons_succ])
        go_wp2_with fail
        have nw57 := New.made hHeld #[.float .f32 0, .float .f32 0] 44
        have lt59 := nw1.2.1
        refine hK.out _ _ (Ins.alloc hHeld _) (fun hH58 => ?_)
        clear hK
        have nw60 := New.alloc nw1 (.cells #[.float .f32 0, .float .f32 0] 44)
        refine wpAnyH_ready (rs := [1]) (by kernel_rfl) (by simp) (AllReadyH.cons rfl (fun K' hK => ?_) AllReadyH.nil)
        rw [if_pos (by rfl)]
        (try simp only [Act.put, List.setIfInBounds_toArray, List.set_cons_zero, List.set_cons_succ])
        go_wp2_with fail
        ((with_reducible refine (T1.out _).mono ?_); rintro e wx63 ⟨rfl, hb62⟩)
        have nw64 := New.below nw60 hb62
        have nw65 := New.below nw57 hb62
        refine hK.out _ _ (Ins.below hH58 hb62) (fun hH61 => ?_)
        clear hK
        refine wpAnyH_ready (rs := [3]) (by kernel_rfl) (by simp) (AllReadyH.cons rfl (fun K' hK => ?_) AllReadyH.nil)
        rw [if_pos (by rfl)]
        (try simp only [Act.put, List.setIfInBounds_toArray, List.set_cons_zero, List.set_cons_succ])
        go_wp2_with fail
        ((with_reducible refine (T2.out _).mono ?_); rintro e wx68 ⟨rfl, hb67⟩)
        have nw69 := New.below nw64 hb67
        have nw70 := New.below nw65 hb67
        refine hK.out _ _ (Ins.below hH61 hb67) (fun hH66 => ?_)
        clear hK
        refine wpAnyH_ready (rs := [7]) (by kernel_rfl) (by simp) (AllReadyH.cons rfl (fun K' hK => ?_) AllReadyH.nil)
        rw [if_pos (by rfl)]
        (try simp only [Act.put, List.setIfInBounds_toArray, List.set_cons_zero, List.set_cons_succ])
        go_wp2_with fail
        ((with_reducible refine (HI.out _).mono ?_); rintro e wx73 ⟨rfl, hb72⟩)
        have nw74 := New.below nw69 hb72
        have nw75 := New.below nw70 hb72
        refine hK.out _ _ (Ins.below hH66 hb72) (fun hH71 => ?_)
        clear hK
        refine wpAnyH_take (i := 8) (v := (.tuple #[.agg #[.float .f32 z1, .float .f32 z2], .int .i64 c])) rfl (by kernel_rfl) (by kernel_rfl) (by kernel_rfl) (fun _ _ _ h => h) (Or.inl ⟨by rfl, fun w _ => by go_simp⟩) hH71 ?_
        refine wpAnyH_take (i := 9) (v := (.agg #[.float .f32 z1, .float .f32 z2])) rfl (by kernel_rfl) (by kernel_rfl) (by kernel_rfl) (fun _ _ _ h => h) (Or.inl ⟨by rfl, fun w _ => by go_simp⟩) hH71 ?_
        refine wpAnyH_take (i := 10) (v := (.int .i64 c)) rfl (by kernel_rfl) (by kernel_rfl) (by kernel_rfl) (fun _ _ _ h => h) (Or.inl ⟨by rfl, fun w _ => by go_simp⟩) hH71 ?_
        refine wpAnyH_ready (rs := [12]) (by kernel_rfl) (by simp) (AllReadyH.cons rfl (fun K' hK => ?_) AllReadyH.nil)
        rw [if_pos (by rfl)]
        (try simp only [Act.put, List.setIfInBounds_toArray, List.set_cons_zero, List.set_cons_succ])
        refine wp_store_row 44 _ _ rfl _ #[.float .f32 z1, .float .f32 z2] rfl rfl 44 #[.float .f32 0, .float .f32 0] nw75.2.2 (by kernel_rfl) rfl (by simp [Value.oneCell']) ?_
        have nw77 := New.setRow nw75 #[.float .f32 z1, .float .f32 z2]
        have nw78 := New.other nw74 (Nat.ne_of_lt lt59) #[.float .f32 z1, .float .f32 z2]
        refine hK.out _ _ (Ins.setRow hH71 nw75.1 #[.float .f32 z1, .float .f32 z2]) (fun hH76 => ?_)
        clear hK
        refine wpAnyH_ready (rs := [13]) (by kernel_rfl) (by simp) (AllReadyH.cons rfl (fun K' hK => ?_) AllReadyH.nil)
        rw [if_pos (by rfl)]
        (try simp only [Act.put, List.setIfInBounds_toArray, List.set_cons_zero, List.set_cons_succ])
        go_wp2_with fail
        refine hK.out _ _ hH76 (fun hH79 => ?_)
        clear hK
        refine wpAnyH_done (by kernel_rfl) ?_ _
        go_wp2_with fail
        go_meet
        case rel => exact ⟨_, rfl, rfl, hH79, nw78, nw77⟩
    case rest =>
      obtain ⟨b2, rfl, rfl, I2, M1, M2⟩ := hcut
      have g1 := Lib.hid M1.2.2
      have g2 := Lib.hid M2.2.2
      have hB := Lib.hid I2.2.1
      clear I1 N1 I2 M1 M2 HI0
      go_wp2_with (first | ((with_reducible show wpList _ _ _ (⟨some 37, _, _, _, _, _⟩ :: _) _ _); refine wpList_load_row rfl 44 (.tmp 13) rfl b2 rfl 44 #[.float .f32 z1, .float .f32 z2] (0, 0) _ g2.out Try.underlying44 rfl (by kernel_rfl) ?_) | ((with_reducible show wpList _ _ _ (⟨some 38, _, _, _, _, _⟩ :: _) _ _); refine wpList_load_row rfl 44 (.tmp 11) rfl b1 rfl 44 #[.float .f32 z1, .float .f32 z2] (0, 0) _ g1.out Try.underlying44 rfl (by kernel_rfl) ?_) | (go_at_call 26; ((with_reducible refine (HE.out _).mono ?_); rintro e w9 ⟨rfl, hb9⟩); obtain ⟨hc9, hf9⟩ := bcell hb9))
      go_ret; exact ⟨rfl, below_step hB.out hb9⟩

set_option maxRecDepth 100000 in
theorem FnExactAirAt_lifted (os : Os) (started : os.Started) (H : Type) (enc : TypeId × Value → H) :
    ReturnsInHanded {} Try.checked os 7 .any (Rows.fnExactAirAtSpec.pre6 enc Try.prog Try.f7 Rows.fnExactAirAtRow.domain false) (Rows.fnExactAirAtSpec.post enc Try.prog Try.f7 false true false false) := by
  refine law_lifted (C := Try.checked) (b4 := 4) (s := Rows.fnExactAirAtSpec) os started H enc Try.own Try.laidOut (by kernel_rfl) Try.func7
      (ChangeSpec.witness6 (enc := enc) (C := Try.checked) false ⟨#[], #[.agg #[.int .i8 0, .int .i8 0, .float .f32 0, .int .u8 0, .int .u8 0, .int .u8 0, .int .u8 0, .int .u8 0, .int .u8 0], .agg (flCells zero36), .int .i64 0, .int .i64 0, .float .f32 0], []⟩ 8 (by kernel_rfl) (by kernel_rfl) (by kernel_rfl) (by kernel_rfl))
      (of_decide_eq_true (by kernel_rfl)) (by kernel_rfl) (by kernel_rfl) rfl (fun ds h => by match ds, h with | [_, _, _, _, _], _ => rfl) ?_
  intro W base args ds ps hG
  obtain ⟨hval0, hA0, hlt, hsz0⟩ := hG
  have hval : ∀ (j : Nat) t v, Try.f7.params[j]? = some t → args[j]? = some v → Value.okWide Try.prog W .any base t v := hval0
  have hA : DataW.TrodAll enc Try.prog W 0 (fun _ => true) true Try.f7.params.toList args.toList ds ps := hA0
  have hsz : (DataW.weightsEach Try.prog (Try.f7.params.toList ++ Rows.fnExactAirAtSpec.plain.varTypes Try.prog) (ds ++ [])).all (· ≤ reachBytes) = true := hsz0
  clear hval0 hA0 hsz0
  rw [Try.params7] at hA hval hsz
  obtain ⟨v0, v1, v2, v3, v4, rfl⟩ := args5 (trodAll_length _ _ _ _ hA).2
  obtain ⟨a, b, f, x0, x1, x2, x3, x4, x5, rfl, ha, hb, hf, hv⟩ := open_room (hval 0 _ v0 rfl rfl)
  obtain ⟨l, hl, rfl, hlb⟩ := open_fl (m := 36) (by kernel_rfl) (by kernel_rfl) (by kernel_rfl) (hval 1 _ v1 rfl rfl)
  obtain ⟨x, rfl, _⟩ := v_int Try.underlying2 (hval 2 _ v2 rfl rfl)
  obtain ⟨y, rfl, _⟩ := v_int Try.underlying2 (hval 3 _ v3 rfl rfl)
  obtain ⟨q, rfl, hq⟩ := v_float Try.underlying22 (hval 4 _ v4 rfl rfl)
  exact FnExactAirAt_walk a b f x0 x1 x2 x3 x4 x5 l hl hlb hf ha.1 ha.2 hb.1 hb.2 hv x y q (f32_lt hq) W

set_option maxRecDepth 100000 in
theorem FnExactAirAt_holds : Rows.FnExactAirAtSaid :=
  OpenClaim.holds_of_wide 7 Try.f7 rfl rfl rfl rfl rfl rfl rfl ⟨rfl, rfl, rfl, rfl, rfl⟩ rfl rfl rfl rfl rfl (by kernel_rfl) Try.func7
    (by unfold joinedFacts
        repeat' (with_reducible refine and_tt ?_ ?_)
        all_goals first | with_reducible exact fact_enter | (rw [fact_lifts]; rfl) | ((with_reducible show (Program.make _ == some _) = true); exact fact_make) | kernel_rfl)
    (of_decide_eq_true (by kernel_rfl)) (by unfold Func.isWrapper; first | (rw [if_pos (by decide +kernel)]; kernel_rfl) | (rw [if_neg (by decide +kernel)]; exact ⟨rfl, rfl⟩))
    (fun os started H enc _ => FnExactAirAt_lifted os started H enc)

end Go.Proofs.Ytejipgofbefbjaa
