/-
  The program's test of crates returns what the reference's returns, for every crate.
-/
import Derived.Test.YtckapidlhhjipaaCount
import Derived.Test.YtckapidlhhjipaaCrate
import Derived.Test.YtckapidlhhjipaaLaw
import Derived.Deep.RegionHeld3
import Derived.OpenShut
set_option linter.unusedVariables false
set_option linter.unusedSimpArgs false
namespace Go.Proofs.Ytckapidlhhjipaa
open Go.ChangeShapes Go.WideShapes Go.ChangeAt Go.RowKit Go.FV

set_option maxRecDepth 100000 in
theorem open_crate {W : World} {r : Reach} {base : Nat} {v : Value} (h : Value.okWide Try.prog W r base 35 v) :
    ∃ (n : Int) (l : List Nat), v = .agg (crateCells n l) ∧ l.length = 16 ∧ -128 ≤ n ∧ n ≤ 127 ∧ ∀ i, ix l i < 4294967296 := by
  obtain ⟨cs, rfl, h2, h3⟩ := cells_of_okWide (ts := 32 :: List.replicate 16 22) (by kernel_rfl) (by kernel_rfl) h
  rw [show Try.prog.cellsOf 35 = 17 by kernel_rfl] at h2
  have at_ : ∀ i u, i < 17 → (32 :: List.replicate 16 22)[i]? = some u → ∃ x, cs[i]? = some x ∧ Cell.okWide Try.prog W r base u x := fun i u hi hu => by
    have hlt : i < cs.size := by omega
    obtain ⟨u', hu', hok⟩ := h3 i cs[i] (by simp [hlt])
    rw [show i % (32 :: List.replicate 16 22).length = i from Nat.mod_eq_of_lt hi, hu] at hu'
    cases hu'
    exact ⟨cs[i], by simp [hlt], hok⟩
  obtain ⟨x0, e0, o0⟩ := at_ 0 _ (by omega) rfl
  obtain ⟨n, rfl, wn⟩ := cell_int Try.underlying32 o0
  obtain ⟨l, hl, hl1, hl2⟩ := floats_of cs 1 16 (fun i hi => by
    obtain ⟨x, e, o⟩ := at_ (1 + i) 22 (by omega) (by rw [Nat.add_comm, List.getElem?_cons_succ, List.getElem?_replicate, if_pos hi])
    obtain ⟨b, rfl, wb⟩ := cell_float Try.underlying22 o
    exact ⟨b, e, f32_lt wb⟩)
  refine ⟨n, l, ?_, hl, (bounds_i8 wn).1, (bounds_i8 wn).2, hl2⟩
  congr 1
  apply Array.ext_getElem?; intro i
  by_cases h0 : i = 0
  · subst h0; rw [e0, crateCells_0]
  · by_cases hi : i < 17
    · obtain ⟨d, rfl⟩ : ∃ d, i = 1 + d := ⟨i - 1, by omega⟩
      rw [hl1 d (by omega), crateCells_at (by omega)]
    · rw [Array.getElem?_eq_none (by omega), Array.getElem?_eq_none (by simp; omega)]

theorem zeroCrate16 : Value.agg (crateCells 0 zero16) = Value.agg #[.int .i8 0, .float .f32 0, .float .f32 0, .float .f32 0, .float .f32 0, .float .f32 0, .float .f32 0, .float .f32 0, .float .f32 0, .float .f32 0, .float .f32 0, .float .f32 0, .float .f32 0, .float .f32 0, .float .f32 0, .float .f32 0, .float .f32 0] := rfl

set_option maxRecDepth 100000 in
set_option maxHeartbeats 800000 in
theorem FnExactValidCrate_walk (n : Int) (l : List Nat) (hl : l.length = 16) (h1 : -128 ≤ n) (h2 : n ≤ 127) (w : World) : Calls Try.prog 5 #[.agg (crateCells n l)] w (Yes w) := by
  have HL := Lib.hid hl; clear hl
  go_enter Try.func5, Try.ntmps5
  go_wp2_with (first
    | ((with_reducible show wpList _ _ _ (⟨some 5, _, _, _, _, _⟩ :: _) _ _); refine wpList_load_row rfl 35 (.tmp 1) rfl w.heap.size rfl 35 (crateCells n l) (0, 0) _ (ha1 _ _) Try.underlying35 rfl (by rw [crateCells_size, HL.out]; kernel_rfl) ?_))
  ((with_reducible refine (toCrate_any n l HL.out _).mono ?_); rintro e w1 ⟨rfl, hb1⟩)
  have G1 : Hid (w1.heap[w.heap.size]? = some (.cells (crateCells n l) 35 (0, 0))) := below_heap hb1 (ha1 _ _)
  have hz1 : w.heap.size < w1.heap.size := by (have := hb1.size; simp at this; omega)
  go_wp2_with fail
  ((with_reducible refine (spec_ValidCrate n l HL.out _ h1 h2).mono ?_); rintro e w2 ⟨rfl, hb2⟩)
  have G2 : Hid (w2.heap[w.heap.size]? = some (.cells (crateCells n l) 35 (0, 0))) := below_heap hb2 G1.out
  have hz2 : w.heap.size < w2.heap.size := Nat.lt_of_lt_of_le hz1 hb2.size
  go_wp2_with (first
    | ((with_reducible show wpList _ _ _ (⟨some 8, _, _, _, _, _⟩ :: _) _ _); refine wpList_load_row rfl 35 (.tmp 1) rfl w.heap.size rfl 35 (crateCells n l) (0, 0) _ G2.out Try.underlying35 rfl (by rw [crateCells_size, HL.out]; kernel_rfl) ?_))
  ((with_reducible refine (toCrate_any n l HL.out _).mono ?_); rintro e w3 ⟨rfl, hb3⟩)
  go_wp2_with fail
  ((with_reducible refine (impl_ValidCrate n l HL.out _ h1 h2).mono ?_); rintro e w4 ⟨rfl, hb4⟩)
  go_wp2
  go_ret; refine ⟨rfl, ?_⟩; (repeat (first | exact Below.refl _ _ | assumption | refine below_new ?_ _ | refine below_step ?_ (by assumption) | refine Below.drew ?_ | refine below_dn ?_ _ | refine Below.setCell ?_ (by simp <;> omega) _))

set_option maxRecDepth 100000 in
theorem FnExactValidCrate_lifted (os : Os) (started : os.Started) (H : Type) (enc : TypeId × Value → H) :
    ReturnsInHanded {} Try.checked os 5 .any (Rows.fnExactValidCrateSpec.pre6 enc Try.prog Try.f5 Rows.fnExactValidCrateRow.domain false) (Rows.fnExactValidCrateSpec.post enc Try.prog Try.f5 false true false false) := by
  refine law_lifted (C := Try.checked) (b4 := 4) (s := Rows.fnExactValidCrateSpec) os started H enc Try.own Try.laidOut (by kernel_rfl) Try.func5
      (ChangeSpec.witness6 (enc := enc) (C := Try.checked) false ⟨#[], #[.agg (crateCells 0 zero16)], []⟩ 8 (by kernel_rfl) (by kernel_rfl) (by kernel_rfl) (by kernel_rfl))
      (of_decide_eq_true (by kernel_rfl)) (by kernel_rfl) (by kernel_rfl) rfl (fun ds h => by match ds, h with | [_], _ => rfl) ?_
  intro W base args ds ps hG
  obtain ⟨hval0, hA0, hlt, hsz0⟩ := hG
  have hval : ∀ (j : Nat) t v, Try.f5.params[j]? = some t → args[j]? = some v → Value.okWide Try.prog W .any base t v := hval0
  have hA : DataW.TrodAll enc Try.prog W 0 (fun _ => true) true Try.f5.params.toList args.toList ds ps := hA0
  have hsz : (DataW.weightsEach Try.prog (Try.f5.params.toList ++ Rows.fnExactValidCrateSpec.plain.varTypes Try.prog) (ds ++ [])).all (· ≤ reachBytes) = true := hsz0
  clear hval0 hA0 hsz0
  rw [Try.params5] at hA hval hsz
  obtain ⟨v0, rfl⟩ := args1 (trodAll_length _ _ _ _ hA).2
  obtain ⟨n, l, rfl, hl, h1, h2, _⟩ := open_crate (hval 0 _ v0 rfl rfl)
  exact FnExactValidCrate_walk n l hl h1 h2 W

set_option maxRecDepth 100000 in
theorem FnExactValidCrate_holds : Rows.FnExactValidCrateSaid :=
  OpenClaim.holds_of_wide 5 Try.f5 rfl rfl rfl rfl rfl rfl rfl ⟨rfl, rfl, rfl, rfl, rfl⟩ rfl rfl rfl rfl rfl (by kernel_rfl) Try.func5
    (by unfold joinedFacts
        repeat' (with_reducible refine and_tt ?_ ?_)
        all_goals first | with_reducible exact fact_enter | (rw [fact_lifts]; rfl) | ((with_reducible show (Program.make _ == some _) = true); exact fact_make) | kernel_rfl)
    (of_decide_eq_true (by kernel_rfl)) (by unfold Func.isWrapper; first | (rw [if_pos (by decide +kernel)]; kernel_rfl) | (rw [if_neg (by decide +kernel)]; exact ⟨rfl, rfl⟩))
    (fun os started H enc _ => FnExactValidCrate_lifted os started H enc)

end Go.Proofs.Ytckapidlhhjipaa
