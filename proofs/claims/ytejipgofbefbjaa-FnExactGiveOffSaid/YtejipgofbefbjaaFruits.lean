/-
  CONTRACTS: numbers of valid crates are finite.
-/
import Derived.Test.YtejipgofbefbjaaCount
import Derived.Test.YtejipgofbefbjaaWords
set_option linter.unusedVariables false
set_option linter.unusedSimpArgs false
namespace Go.Proofs.Ytejipgofbefbjaa
open Go.RowKit Go.FV

theorem fin_slot {n : Int} {k x : Nat} (h : slotOk n k x = true) (hx : x < 4294967296) : FL.fin x := by
  unfold slotOk at h
  split at h
  · exact fin_part h hx
  · rw [same0 h]; exact ⟨by decide, by decide⟩
theorem fin_crate {n : Int} {l : List Nat} (h : validCrate n l = true) (hl : ∀ i, ix l i < 4294967296) (i : Nat) (hi : i < 16) : FL.fin (ix l i) := by
  unfold validCrate at h
  rw [Bool.and_eq_true] at h
  exact fin_slot (slotsOk_iff.1 h.2 i hi) (hl i)
theorem fin_zero16 (i : Nat) (hi : i < 16) : FL.fin (ix zero16 i) := by
  have : ix zero16 i = 0 := by
    unfold ix zero16
    rcases (show i = 0 ∨ i = 1 ∨ i = 2 ∨ i = 3 ∨ i = 4 ∨ i = 5 ∨ i = 6 ∨ i = 7 ∨ i = 8 ∨ i = 9 ∨ i = 10 ∨ i = 11 ∨ i = 12 ∨ i = 13 ∨ i = 14 ∨ i = 15 by omega) with rfl | rfl | rfl | rfl | rfl | rfl | rfl | rfl | rfl | rfl | rfl | rfl | rfl | rfl | rfl | rfl <;> rfl
  rw [this]; exact ⟨by decide, by decide⟩

theorem zeroC : (#[.int .i8 0, .float .f32 0, .float .f32 0, .float .f32 0, .float .f32 0, .float .f32 0, .float .f32 0, .float .f32 0, .float .f32 0, .float .f32 0, .float .f32 0, .float .f32 0, .float .f32 0, .float .f32 0, .float .f32 0, .float .f32 0, .float .f32 0] : Array Value) = crateCells 0 zero16 := rfl
theorem crate_upto {n : Int} {l : List Nat} (h : validCrate n l = true) (hl : ∀ i, ix l i < 4294967296) (j : Nat) (hj : (j : Int) < n) : FL.upto 1 (ix l j) := by
  obtain ⟨k, rfl, hk⟩ := valid_count h
  unfold validCrate at h
  rw [Bool.and_eq_true] at h
  have hs := slotsOk_iff.1 h.2 j (by omega)
  rw [slotOk_lt hj] at hs
  exact part_upto hs (fin_part hs (hl j))

end Go.Proofs.Ytejipgofbefbjaa
