/-
  OPENING rooms.
-/
import Derived.Test.YtejipgofbefbjaaOpen
import Derived.Test.YtejipgofbefbjaaRoom
set_option linter.unusedVariables false
set_option linter.unusedSimpArgs false
namespace Go.Proofs.Ytejipgofbefbjaa
open Go.ChangeShapes Go.WideShapes Go.ChangeAt Go.RowKit Go.FV

set_option maxRecDepth 100000 in
theorem open_room {W : World} {r : Reach} {base : Nat} {v : Value} (h : Value.okWide Try.prog W r base 32 v) :
    ∃ (a b : Int) (f : Nat) (v0 v1 v2 v3 v4 v5 : Int), v = .agg #[.int .i8 a, .int .i8 b, .float .f32 f, .int .u8 v0, .int .u8 v1, .int .u8 v2, .int .u8 v3, .int .u8 v4, .int .u8 v5] ∧ (-128 ≤ a ∧ a ≤ 127) ∧ (-128 ≤ b ∧ b ≤ 127) ∧ f < 4294967296 ∧ ∀ k : Nat, 0 ≤ ixI [v0, v1, v2, v3, v4, v5] k ∧ ixI [v0, v1, v2, v3, v4, v5] k ≤ 255 := by
  obtain ⟨cs, rfl, h2, h3⟩ := cells_of_okWide (ts := [29, 29, 22, 5, 5, 5, 5, 5, 5]) (by kernel_rfl) (by kernel_rfl) h
  rw [show Try.prog.cellsOf 32 = 9 by kernel_rfl] at h2
  have at_ : ∀ i u, i < 9 → [29, 29, 22, 5, 5, 5, 5, 5, 5][i]? = some u → ∃ x, cs[i]? = some x ∧ Cell.okWide Try.prog W r base u x := fun i u hi hu => by
    have hlt : i < cs.size := by omega
    obtain ⟨u', hu', hok⟩ := h3 i cs[i] (by simp [hlt])
    rw [show i % [29, 29, 22, 5, 5, 5, 5, 5, 5].length = i from Nat.mod_eq_of_lt hi, hu] at hu'
    cases hu'
    exact ⟨cs[i], by simp [hlt], hok⟩
  obtain ⟨x0, e0, o0⟩ := at_ 0 _ (by omega) rfl
  obtain ⟨a, rfl, wa⟩ := cell_int Try.underlying29 o0
  obtain ⟨x1, e1, o1⟩ := at_ 1 _ (by omega) rfl
  obtain ⟨b, rfl, wb⟩ := cell_int Try.underlying29 o1
  obtain ⟨x2, e2, o2⟩ := at_ 2 _ (by omega) rfl
  obtain ⟨f, rfl, wf⟩ := cell_float Try.underlying22 o2
  obtain ⟨x3, e3, o3⟩ := at_ 3 _ (by omega) rfl
  obtain ⟨v0, rfl, w0⟩ := cell_int Try.underlying5 o3
  obtain ⟨x4, e4, o4⟩ := at_ 4 _ (by omega) rfl
  obtain ⟨v1, rfl, w1⟩ := cell_int Try.underlying5 o4
  obtain ⟨x5, e5, o5⟩ := at_ 5 _ (by omega) rfl
  obtain ⟨v2, rfl, w2⟩ := cell_int Try.underlying5 o5
  obtain ⟨x6, e6, o6⟩ := at_ 6 _ (by omega) rfl
  obtain ⟨v3, rfl, w3⟩ := cell_int Try.underlying5 o6
  obtain ⟨x7, e7, o7⟩ := at_ 7 _ (by omega) rfl
  obtain ⟨v4, rfl, w4⟩ := cell_int Try.underlying5 o7
  obtain ⟨x8, e8, o8⟩ := at_ 8 _ (by omega) rfl
  obtain ⟨v5, rfl, w5⟩ := cell_int Try.underlying5 o8
  refine ⟨a, b, f, v0, v1, v2, v3, v4, v5, ?_, bounds_i8 wa, bounds_i8 wb, f32_lt wf, fun k => ?_⟩
  · congr 1
    apply Array.ext_getElem?; intro i
    by_cases hi : i < 9
    · rcases (show i = 0 ∨ i = 1 ∨ i = 2 ∨ i = 3 ∨ i = 4 ∨ i = 5 ∨ i = 6 ∨ i = 7 ∨ i = 8 from by omega) with rfl | rfl | rfl | rfl | rfl | rfl | rfl | rfl | rfl
      · rw [e0]; rfl
      · rw [e1]; rfl
      · rw [e2]; rfl
      · rw [e3]; rfl
      · rw [e4]; rfl
      · rw [e5]; rfl
      · rw [e6]; rfl
      · rw [e7]; rfl
      · rw [e8]; rfl
    · rw [Array.getElem?_eq_none (by omega), Array.getElem?_eq_none (by simp; omega)]
  · by_cases hk : k < 6
    · rcases (show k = 0 ∨ k = 1 ∨ k = 2 ∨ k = 3 ∨ k = 4 ∨ k = 5 from by omega) with rfl | rfl | rfl | rfl | rfl | rfl
      · exact bounds_u8 w0
      · exact bounds_u8 w1
      · exact bounds_u8 w2
      · exact bounds_u8 w3
      · exact bounds_u8 w4
      · exact bounds_u8 w5
    · have : ixI [v0, v1, v2, v3, v4, v5] k = 0 := by unfold ixI; simp [List.getElem?_eq_none (by simp; omega : [v0, v1, v2, v3, v4, v5].length ≤ k)]
      rw [this]; omega

end Go.Proofs.Ytejipgofbefbjaa
