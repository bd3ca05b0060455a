/-
  The program's tests and comparisons of rooms return what the reference's return, for every room.
-/
import Derived.Test.YtkcacgoiajabfaaRoom
import Derived.Test.YtkcacgoiajabfaaLaw
import Derived.Deep.RegionHeld3
import Derived.OpenShut
set_option linter.unusedVariables false
set_option linter.unusedSimpArgs false
namespace Go.Proofs.Ytkcacgoiajabfaa
open Go.ChangeShapes Go.WideShapes Go.ChangeAt Go.RowKit Go.FV

theorem i8_bd {n : Int} (h : (Lit.int .i8 n).wf = true) : -128 ≤ n ∧ n ≤ 127 := bounds_i8 h
theorem open_room {W : World} {r : Reach} {base : Nat} {v : Value} (h : Value.okWide Try.prog W r base 57 v) :
    ∃ (a b : Int) (f : Nat) (v0 v1 v2 v3 v4 v5 : Int), v = .agg #[.int .i8 a, .int .i8 b, .float .f32 f, .int .u8 v0, .int .u8 v1, .int .u8 v2, .int .u8 v3, .int .u8 v4, .int .u8 v5] ∧ (-128 ≤ a ∧ a ≤ 127) ∧ (-128 ≤ b ∧ b ≤ 127) ∧ f < 4294967296 ∧ ∀ k : Nat, 0 ≤ ixI [v0, v1, v2, v3, v4, v5] k ∧ ixI [v0, v1, v2, v3, v4, v5] k ≤ 255 := by
  obtain ⟨cs, rfl, h2, h3⟩ := cells_of_okWide (ts := [54, 54, 23, 5, 5, 5, 5, 5, 5]) (by kernel_rfl) (by kernel_rfl) h
  rw [show Try.prog.cellsOf 57 = 9 by kernel_rfl] at h2
  have at_ : ∀ i u, i < 9 → [54, 54, 23, 5, 5, 5, 5, 5, 5][i]? = some u → ∃ x, cs[i]? = some x ∧ Cell.okWide Try.prog W r base u x := fun i u hi hu => by
    have hlt : i < cs.size := by omega
    obtain ⟨u', hu', hok⟩ := h3 i cs[i] (by simp [hlt])
    rw [show i % [54, 54, 23, 5, 5, 5, 5, 5, 5].length = i from Nat.mod_eq_of_lt hi, hu] at hu'
    cases hu'
    exact ⟨cs[i], by simp [hlt], hok⟩
  obtain ⟨x0, e0, o0⟩ := at_ 0 _ (by omega) rfl
  obtain ⟨a, rfl, wa⟩ := cell_int Try.underlying54 o0
  obtain ⟨x1, e1, o1⟩ := at_ 1 _ (by omega) rfl
  obtain ⟨b, rfl, wb⟩ := cell_int Try.underlying54 o1
  obtain ⟨x2, e2, o2⟩ := at_ 2 _ (by omega) rfl
  obtain ⟨f, rfl, wf⟩ := cell_float Try.underlying23 o2
  obtain ⟨x3, e3, o3⟩ := at_ 3 _ (by omega) rfl
  obtain ⟨v0, rfl, w0⟩ := cell_int Try.underlying5 o3
  obtain ⟨x4, e4, o4⟩ := at_ 4 _ (by omega) rfl
  obtain ⟨v1, rfl, w1⟩ := cell_int Try.underlying5 o4
  obtain ⟨x5, e5, o5⟩ := at_ 5 _ (by omega) rfl
  obtain ⟨v2, rfl, w2⟩ := cell_int Try.underlying5 o5
  obtain ⟨x6, e6, o6⟩ := at_ 6 _ (by omega) rfl
  obtain ⟨v3, rfl, w3⟩ := cell_int Try.underlying5 o6
  obtain ⟨x7, e7, o7⟩ := at_ 7 _ (by omega) rfl
  obtain ⟨v4, rfl, w4⟩ := cell_int Try.underlying5 o7
  obtain ⟨x8, e8, o8⟩ := at_ 8 _ (by omega) rfl
  obtain ⟨v5, rfl, w5⟩ := cell_int Try.underlying5 o8
  refine ⟨a, b, f, v0, v1, v2, v3, v4, v5, ?_, bounds_i8 wa, bounds_i8 wb, f32_lt wf, fun k => ?_⟩
  · congr 1
    apply Array.ext_getElem?; intro i
    by_cases hi : i < 9
    · rcases (show i = 0 ∨ i = 1 ∨ i = 2 ∨ i = 3 ∨ i = 4 ∨ i = 5 ∨ i = 6 ∨ i = 7 ∨ i = 8 from by omega) with rfl | rfl | rfl | rfl | rfl | rfl | rfl | rfl | rfl
      · rw [e0]; rfl
      · rw [e1]; rfl
      · rw [e2]; rfl
      · rw [e3]; rfl
      · rw [e4]; rfl
      · rw [e5]; rfl
      · rw [e6]; rfl
      · rw [e7]; rfl
      · rw [e8]; rfl
    · rw [Array.getElem?_eq_none (by omega), Array.getElem?_eq_none (by simp; omega)]
  · by_cases hk : k < 6
    · rcases (show k = 0 ∨ k = 1 ∨ k = 2 ∨ k = 3 ∨ k = 4 ∨ k = 5 from by omega) with rfl | rfl | rfl | rfl | rfl | rfl
      · exact bounds_u8 w0
      · exact bounds_u8 w1
      · exact bounds_u8 w2
      · exact bounds_u8 w3
      · exact bounds_u8 w4
      · exact bounds_u8 w5
    · have : ixI [v0, v1, v2, v3, v4, v5] k = 0 := by unfold ixI; simp [List.getElem?_eq_none (by simp; omega : [v0, v1, v2, v3, v4, v5].length ≤ k)]
      rw [this]; omega

set_option maxHeartbeats 800000 in
theorem FnExactValidRoom_walk (a b : Int) (f : Nat) (v0 v1 v2 v3 v4 v5 : Int) (w : World) (h1 : -128 ≤ a) (h2 : a ≤ 127) (h3 : -128 ≤ b) (h4 : b ≤ 127) (hv : ∀ k : Nat, 0 ≤ ixI [v0, v1, v2, v3, v4, v5] k ∧ ixI [v0, v1, v2, v3, v4, v5] k ≤ 255) : Calls Try.prog 14 #[.agg #[.int .i8 a, .int .i8 b, .float .f32 f, .int .u8 v0, .int .u8 v1, .int .u8 v2, .int .u8 v3, .int .u8 v4, .int .u8 v5]] w (Yes w) := by
  have HV := Lib.hid hv; clear hv
  go_enter Try.func14, Try.ntmps14
  go_wp2_with fail; ((with_reducible refine (toRoom_any _ _ _ _ _ _ _ _ _ _).mono ?_); rintro e w1 ⟨rfl, hb1⟩); obtain ⟨hc1, hf1⟩ := bcell hb1
  have hz1 : w.heap.size < w1.heap.size := by (have := hb1.size; simp at this; omega)
  go_wp2_with fail; ((with_reducible refine (spec_ValidRoom _ _ _ _ _ _ _ _ _ _ h1 h2 h3 h4 HV.out).mono ?_); rintro e w2 ⟨rfl, hb2⟩); obtain ⟨hc2, hf2⟩ := bcell hb2
  have hz2 : w.heap.size < w2.heap.size := Nat.lt_of_lt_of_le hz1 hb2.size
  go_wp2_with fail; ((with_reducible refine (toRoom_any _ _ _ _ _ _ _ _ _ _).mono ?_); rintro e w3 ⟨rfl, hb3⟩); obtain ⟨hc3, hf3⟩ := bcell hb3
  have hz3 : w.heap.size < w3.heap.size := Nat.lt_of_lt_of_le hz2 hb3.size
  go_wp2_with fail; ((with_reducible refine (impl_ValidRoom _ _ _ _ _ _ _ _ _ _ h1 h2 h3 h4).mono ?_); rintro e w4 ⟨rfl, hb4⟩); obtain ⟨hc4, hf4⟩ := bcell hb4
  go_wp2
  go_ret; refine ⟨rfl, ?_⟩; (repeat (first | exact Below.refl _ _ | assumption | refine below_new ?_ _ | refine below_step ?_ (by assumption) | refine Below.drew ?_ | refine below_dn ?_ _ | refine Below.setCell ?_ (by simp <;> omega) _))

set_option maxRecDepth 100000 in
theorem FnExactValidRoom_lifted (os : Os) (started : os.Started) (H : Type) (enc : TypeId × Value → H) :
    ReturnsInHanded {} Try.checked os 14 .any (Rows.fnExactValidRoomSpec.pre6 enc Try.prog Try.f14 Rows.fnExactValidRoomRow.domain false) (Rows.fnExactValidRoomSpec.post enc Try.prog Try.f14 false true false false) := by
  refine law_lifted (C := Try.checked) (b4 := 4) (s := Rows.fnExactValidRoomSpec) os started H enc Try.own Try.laidOut (by kernel_rfl) Try.func14
      (ChangeSpec.witness6 (enc := enc) (C := Try.checked) false ⟨#[], #[.agg #[.int .i8 0, .int .i8 0, .float .f32 0, .int .u8 0, .int .u8 0, .int .u8 0, .int .u8 0, .int .u8 0, .int .u8 0]], []⟩ 8 (by kernel_rfl) (by kernel_rfl) (by kernel_rfl) (by kernel_rfl))
      (of_decide_eq_true (by kernel_rfl)) (by kernel_rfl) (by kernel_rfl) rfl (fun ds h => by match ds, h with | [_], _ => rfl) ?_
  intro W base args ds ps hG
  obtain ⟨hval0, hA0, hlt, hsz0⟩ := hG
  have hval : ∀ (j : Nat) t v, Try.f14.params[j]? = some t → args[j]? = some v → Value.okWide Try.prog W .any base t v := hval0
  have hA : DataW.TrodAll enc Try.prog W 0 (fun _ => true) true Try.f14.params.toList args.toList ds ps := hA0
  have hsz : (DataW.weightsEach Try.prog (Try.f14.params.toList ++ Rows.fnExactValidRoomSpec.plain.varTypes Try.prog) (ds ++ [])).all (· ≤ reachBytes) = true := hsz0
  clear hval0 hA0 hsz0
  rw [Try.params14] at hA hval hsz
  obtain ⟨v0, rfl⟩ := args1 (trodAll_length _ _ _ _ hA).2
  obtain ⟨a, b, f, x0, x1, x2, x3, x4, x5, rfl, ha, hb, _, hv⟩ := open_room (hval 0 _ v0 rfl rfl)
  exact FnExactValidRoom_walk a b f x0 x1 x2 x3 x4 x5 W ha.1 ha.2 hb.1 hb.2 hv

set_option maxRecDepth 100000 in
theorem FnExactValidRoom_holds : Rows.FnExactValidRoomSaid :=
  OpenClaim.holds_of_wide 14 Try.f14 rfl rfl rfl rfl rfl rfl rfl ⟨rfl, rfl, rfl, rfl, rfl⟩ rfl rfl rfl rfl rfl (by kernel_rfl) Try.func14
    (by unfold joinedFacts
        repeat' (with_reducible refine and_tt ?_ ?_)
        all_goals first | with_reducible exact fact_enter | (rw [fact_lifts]; rfl) | ((with_reducible show (Program.make _ == some _) = true); exact fact_make) | kernel_rfl)
    (of_decide_eq_true (by kernel_rfl)) (by unfold Func.isWrapper; first | (rw [if_pos (by decide +kernel)]; kernel_rfl) | (rw [if_neg (by decide +kernel)]; exact ⟨rfl, rfl⟩))
    (fun os started H enc _ => FnExactValidRoom_lifted os started H enc)

set_option maxHeartbeats 1600000 in
theorem FnExactSameRoom_walk (a b : Int) (f : Nat) (v0 v1 v2 v3 v4 v5 : Int) (a' b' : Int) (f' : Nat) (u0 u1 u2 u3 u4 u5 : Int) (w : World) : Calls Try.prog 13 #[.agg #[.int .i8 a, .int .i8 b, .float .f32 f, .int .u8 v0, .int .u8 v1, .int .u8 v2, .int .u8 v3, .int .u8 v4, .int .u8 v5], .agg #[.int .i8 a', .int .i8 b', .float .f32 f', .int .u8 u0, .int .u8 u1, .int .u8 u2, .int .u8 u3, .int .u8 u4, .int .u8 u5]] w (Yes w) := by
  go_enter Try.func13, Try.ntmps13
  go_wp2_with fail
  have hlt2 : w.heap.size < w.heap.size + 1 + 1 := by omega
  go_region_held3 (fun W => ((w.heap.size < W.heap.size ∧ w.heap.size + 1 < W.heap.size) ∧ Below w.heap.size w W) ∧ W.cell? ⟨w.heap.size, 0, none⟩ = some (.int .i8 a) ∧ W.cell? ⟨w.heap.size, 1, none⟩ = some (.int .i8 b) ∧ W.cell? ⟨w.heap.size, 2, none⟩ = some (.float .f32 f) ∧ W.cell? ⟨w.heap.size, 3, none⟩ = some (.int .u8 v0) ∧ W.cell? ⟨w.heap.size, 4, none⟩ = some (.int .u8 v1) ∧ W.cell? ⟨w.heap.size, 5, none⟩ = some (.int .u8 v2) ∧ W.cell? ⟨w.heap.size, 6, none⟩ = some (.int .u8 v3) ∧ W.cell? ⟨w.heap.size, 7, none⟩ = some (.int .u8 v4) ∧ W.cell? ⟨w.heap.size, 8, none⟩ = some (.int .u8 v5) ∧ W.cell? ⟨w.heap.size + 1, 0, none⟩ = some (.int .i8 a') ∧ W.cell? ⟨w.heap.size + 1, 1, none⟩ = some (.int .i8 b') ∧ W.cell? ⟨w.heap.size + 1, 2, none⟩ = some (.float .f32 f') ∧ W.cell? ⟨w.heap.size + 1, 3, none⟩ = some (.int .u8 u0) ∧ W.cell? ⟨w.heap.size + 1, 4, none⟩ = some (.int .u8 u1) ∧ W.cell? ⟨w.heap.size + 1, 5, none⟩ = some (.int .u8 u2) ∧ W.cell? ⟨w.heap.size + 1, 6, none⟩ = some (.int .u8 u3) ∧ W.cell? ⟨w.heap.size + 1, 7, none⟩ = some (.int .u8 u4) ∧ W.cell? ⟨w.heap.size + 1, 8, none⟩ = some (.int .u8 u5))
    (first | (go_keep; done) | (refine ⟨⟨⟨?_, ?_⟩, ?_⟩, ?_⟩; (focus (first | (simp <;> omega) | (have := hb.size; (try simp at this); omega))); (focus (first | (simp <;> omega) | (have := hb.size; (try simp at this); omega))); (focus (repeat (first | exact Below.refl _ _ | assumption | refine below_new ?_ _ | refine below_step ?_ (by assumption) | refine Below.drew ?_ | refine below_dn ?_ _ | refine Below.setCell ?_ (by simp <;> omega) _))); (focus (refine ⟨?_, ?_, ?_, ?_, ?_, ?_, ?_, ?_, ?_, ?_, ?_, ?_, ?_, ?_, ?_, ?_, ?_, ?_⟩ <;> (first | (rw [hb.cell (by simp <;> omega)]; simp [*, go_sem]) | simp [*, go_sem])))))
    (first | (go_at_call 38; refine (toRoom_any _ _ _ _ _ _ _ _ _ _).mono ?_; rintro e w1 ⟨rfl, hb⟩) | (go_at_call 37; refine (spec_SameRoom _ _ _ _ _ _ _ _ _ _ _ _ _ _ _ _ _ _ _).mono ?_; rintro e w1 ⟨rfl, hb⟩))
  rename_i hH
  obtain ⟨⟨⟨s1, s2⟩, s3⟩, k0, k1, k2, k3, k4, k5, k6, k7, k8, m0, m1, m2, m3, m4, m5, m6, m7, m8⟩ := hH
  go_wp2_with fail
  go_region_held3 (fun W => ((w.heap.size < W.heap.size ∧ w.heap.size + 1 < W.heap.size) ∧ Below w.heap.size w W) ∧ W.cell? ⟨w.heap.size, 0, none⟩ = some (.int .i8 a) ∧ W.cell? ⟨w.heap.size, 1, none⟩ = some (.int .i8 b) ∧ W.cell? ⟨w.heap.size, 2, none⟩ = some (.float .f32 f) ∧ W.cell? ⟨w.heap.size, 3, none⟩ = some (.int .u8 v0) ∧ W.cell? ⟨w.heap.size, 4, none⟩ = some (.int .u8 v1) ∧ W.cell? ⟨w.heap.size, 5, none⟩ = some (.int .u8 v2) ∧ W.cell? ⟨w.heap.size, 6, none⟩ = some (.int .u8 v3) ∧ W.cell? ⟨w.heap.size, 7, none⟩ = some (.int .u8 v4) ∧ W.cell? ⟨w.heap.size, 8, none⟩ = some (.int .u8 v5) ∧ W.cell? ⟨w.heap.size + 1, 0, none⟩ = some (.int .i8 a') ∧ W.cell? ⟨w.heap.size + 1, 1, none⟩ = some (.int .i8 b') ∧ W.cell? ⟨w.heap.size + 1, 2, none⟩ = some (.float .f32 f') ∧ W.cell? ⟨w.heap.size + 1, 3, none⟩ = some (.int .u8 u0) ∧ W.cell? ⟨w.heap.size + 1, 4, none⟩ = some (.int .u8 u1) ∧ W.cell? ⟨w.heap.size + 1, 5, none⟩ = some (.int .u8 u2) ∧ W.cell? ⟨w.heap.size + 1, 6, none⟩ = some (.int .u8 u3) ∧ W.cell? ⟨w.heap.size + 1, 7, none⟩ = some (.int .u8 u4) ∧ W.cell? ⟨w.heap.size + 1, 8, none⟩ = some (.int .u8 u5))
    (first | (go_keep; done) | (refine ⟨⟨⟨?_, ?_⟩, ?_⟩, ?_⟩; (focus (first | (simp <;> omega) | (have := hb.size; (try simp at this); omega))); (focus (first | (simp <;> omega) | (have := hb.size; (try simp at this); omega))); (focus (repeat (first | exact Below.refl _ _ | assumption | refine below_new ?_ _ | refine below_step ?_ (by assumption) | refine Below.drew ?_ | refine below_dn ?_ _ | refine Below.setCell ?_ (by simp <;> omega) _))); (focus (refine ⟨?_, ?_, ?_, ?_, ?_, ?_, ?_, ?_, ?_, ?_, ?_, ?_, ?_, ?_, ?_, ?_, ?_, ?_⟩ <;> (first | (rw [hb.cell (by simp <;> omega)]; simp [*, go_sem]) | simp [*, go_sem])))))
    (first | (go_at_call 38; refine (toRoom_any _ _ _ _ _ _ _ _ _ _).mono ?_; rintro e w1 ⟨rfl, hb⟩) | (go_at_call 39; refine (impl_SameRoom _ _ _ _ _ _ _ _ _ _ _ _ _ _ _ _ _ _ _).mono ?_; rintro e w1 ⟨rfl, hb⟩))
  rename_i hH
  obtain ⟨⟨⟨t1, t2⟩, t3⟩, _⟩ := hH
  go_wp2
  go_ret; refine ⟨rfl, ?_⟩; (repeat (first | exact Below.refl _ _ | assumption | refine below_new ?_ _ | refine below_step ?_ (by assumption) | refine Below.drew ?_ | refine below_dn ?_ _ | refine Below.setCell ?_ (by simp <;> omega) _))

set_option maxRecDepth 100000 in
theorem FnExactSameRoom_lifted (os : Os) (started : os.Started) (H : Type) (enc : TypeId × Value → H) :
    ReturnsInHanded {} Try.checked os 13 .any (Rows.fnExactSameRoomSpec.pre6 enc Try.prog Try.f13 Rows.fnExactSameRoomRow.domain false) (Rows.fnExactSameRoomSpec.post enc Try.prog Try.f13 false true false false) := by
  refine law_lifted (C := Try.checked) (b4 := 4) (s := Rows.fnExactSameRoomSpec) os started H enc Try.own Try.laidOut (by kernel_rfl) Try.func13
      (ChangeSpec.witness6 (enc := enc) (C := Try.checked) false ⟨#[], #[.agg #[.int .i8 0, .int .i8 0, .float .f32 0, .int .u8 0, .int .u8 0, .int .u8 0, .int .u8 0, .int .u8 0, .int .u8 0], .agg #[.int .i8 0, .int .i8 0, .float .f32 0, .int .u8 0, .int .u8 0, .int .u8 0, .int .u8 0, .int .u8 0, .int .u8 0]], []⟩ 8 (by kernel_rfl) (by kernel_rfl) (by kernel_rfl) (by kernel_rfl))
      (of_decide_eq_true (by kernel_rfl)) (by kernel_rfl) (by kernel_rfl) rfl (fun ds h => by match ds, h with | [_, _], _ => rfl) ?_
  intro W base args ds ps hG
  obtain ⟨hval0, hA0, hlt, hsz0⟩ := hG
  have hval : ∀ (j : Nat) t v, Try.f13.params[j]? = some t → args[j]? = some v → Value.okWide Try.prog W .any base t v := hval0
  have hA : DataW.TrodAll enc Try.prog W 0 (fun _ => true) true Try.f13.params.toList args.toList ds ps := hA0
  have hsz : (DataW.weightsEach Try.prog (Try.f13.params.toList ++ Rows.fnExactSameRoomSpec.plain.varTypes Try.prog) (ds ++ [])).all (· ≤ reachBytes) = true := hsz0
  clear hval0 hA0 hsz0
  rw [Try.params13] at hA hval hsz
  obtain ⟨v0, v1, rfl⟩ := args2 (trodAll_length _ _ _ _ hA).2
  obtain ⟨a, b, f, x0, x1, x2, x3, x4, x5, rfl, _⟩ := open_room (hval 0 _ v0 rfl rfl)
  obtain ⟨a', b', f', u0, u1, u2, u3, u4, u5, rfl, _⟩ := open_room (hval 1 _ v1 rfl rfl)
  exact FnExactSameRoom_walk a b f x0 x1 x2 x3 x4 x5 a' b' f' u0 u1 u2 u3 u4 u5 W

set_option maxRecDepth 100000 in
theorem FnExactSameRoom_holds : Rows.FnExactSameRoomSaid :=
  OpenClaim.holds_of_wide 13 Try.f13 rfl rfl rfl rfl rfl rfl rfl ⟨rfl, rfl, rfl, rfl, rfl⟩ rfl rfl rfl rfl rfl (by kernel_rfl) Try.func13
    (by unfold joinedFacts
        repeat' (with_reducible refine and_tt ?_ ?_)
        all_goals first | with_reducible exact fact_enter | (rw [fact_lifts]; rfl) | ((with_reducible show (Program.make _ == some _) = true); exact fact_make) | kernel_rfl)
    (of_decide_eq_true (by kernel_rfl)) (by unfold Func.isWrapper; first | (rw [if_pos (by decide +kernel)]; kernel_rfl) | (rw [if_neg (by decide +kernel)]; exact ⟨rfl, rfl⟩))
    (fun os started H enc _ => FnExactSameRoom_lifted os started H enc)

end Go.Proofs.Ytkcacgoiajabfaa
