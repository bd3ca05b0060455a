/-
  OPENING the arguments of laws.
-/
import Derived.Test.YtejipgofbefbjaaLaw
import Derived.Test.YtejipgofbefbjaaCrate
import Derived.OpenShut
set_option linter.unusedVariables false
set_option linter.unusedSimpArgs false
namespace Go.Proofs.Ytejipgofbefbjaa
open Go.ChangeShapes Go.WideShapes Go.ChangeAt Go.RowKit Go.FV

/-! ### opening small structs of floats -/
set_option maxRecDepth 100000 in
theorem open_fl {W : World} {r : Reach} {base : Nat} {t : TypeId} {v : Value} {m : Nat}
    (hs : (match Try.prog.underlying t with | some (.struct _) | some (.array _ _) => true | _ => false) = true) (hct : Try.prog.cellTypes Try.prog.depth t = some (List.replicate m 22)) (hm : Try.prog.cellsOf t = m)
    (h : Value.okWide Try.prog W r base t v) : ∃ l : List Nat, l.length = m ∧ v = .agg (flCells l) ∧ ∀ i, ix l i < 4294967296 := by
  obtain ⟨cs, rfl, h2, h3⟩ := cells_of_okWide hs hct h
  obtain ⟨l, hl, hx, hb⟩ := floats_of cs 0 m (fun i hi => by
    have hi' : i < cs.size := by omega
    obtain ⟨u, hu, hok⟩ := h3 i cs[i] (by simp [hi'])
    have hmod : i % (List.replicate m 22).length = i := by simp; exact Nat.mod_eq_of_lt hi
    rw [hmod] at hu
    have hu' : u = 22 := by rw [List.getElem?_replicate] at hu; simp [hi] at hu; exact hu.symm
    subst hu'
    obtain ⟨b, hb, hw⟩ := cell_float Try.underlying22 hok
    exact ⟨b, by simp [hi', hb], f32_lt hw⟩)
  refine ⟨l, hl, ?_, hb⟩
  congr 1
  apply Array.ext_getElem?; intro i
  by_cases hi : i < m
  · have := hx i hi; rw [Nat.zero_add] at this; rw [this, flCells_at (by omega)]
  · rw [Array.getElem?_eq_none (by omega), Array.getElem?_eq_none (by simp; omega)]
theorem list2 {l : List Nat} (h : l.length = 2) : ∃ a b, l = [a, b] := by match l, h with | [a, b], _ => exact ⟨a, b, rfl⟩
theorem list3 {l : List Nat} (h : l.length = 3) : ∃ a b c, l = [a, b, c] := by match l, h with | [a, b, c], _ => exact ⟨a, b, c, rfl⟩
theorem list4 {l : List Nat} (h : l.length = 4) : ∃ a b c d, l = [a, b, c, d] := by match l, h with | [a, b, c, d], _ => exact ⟨a, b, c, d, rfl⟩

set_option maxRecDepth 100000 in
theorem open_crate {W : World} {r : Reach} {base : Nat} {v : Value} (h : Value.okWide Try.prog W r base 51 v) :
    ∃ (n : Int) (l : List Nat), v = .agg (crateCells n l) ∧ l.length = 16 ∧ -128 ≤ n ∧ n ≤ 127 ∧ ∀ i, ix l i < 4294967296 := by
  obtain ⟨cs, rfl, h2, h3⟩ := cells_of_okWide (ts := 29 :: List.replicate 16 22) (by kernel_rfl) (by kernel_rfl) h
  rw [show Try.prog.cellsOf 51 = 17 by kernel_rfl] at h2
  have at_ : ∀ i u, i < 17 → (29 :: List.replicate 16 22)[i]? = some u → ∃ x, cs[i]? = some x ∧ Cell.okWide Try.prog W r base u x := fun i u hi hu => by
    have hlt : i < cs.size := by omega
    obtain ⟨u', hu', hok⟩ := h3 i cs[i] (by simp [hlt])
    rw [show i % (29 :: List.replicate 16 22).length = i from Nat.mod_eq_of_lt hi, hu] at hu'
    cases hu'
    exact ⟨cs[i], by simp [hlt], hok⟩
  obtain ⟨x0, e0, o0⟩ := at_ 0 _ (by omega) rfl
  obtain ⟨n, rfl, wn⟩ := cell_int Try.underlying29 o0
  obtain ⟨l, hl, hl1, hl2⟩ := floats_of cs 1 16 (fun i hi => by
    obtain ⟨x, e, o⟩ := at_ (1 + i) 22 (by omega) (by rw [Nat.add_comm, List.getElem?_cons_succ, List.getElem?_replicate, if_pos hi])
    obtain ⟨b, rfl, wb⟩ := cell_float Try.underlying22 o
    exact ⟨b, e, f32_lt wb⟩)
  refine ⟨n, l, ?_, hl, (bounds_i8 wn).1, (bounds_i8 wn).2, hl2⟩
  congr 1
  apply Array.ext_getElem?; intro i
  by_cases h0 : i = 0
  · subst h0; rw [e0, crateCells_0]
  · by_cases hi : i < 17
    · obtain ⟨d, rfl⟩ : ∃ d, i = 1 + d := ⟨i - 1, by omega⟩
      rw [hl1 d (by omega), crateCells_at (by omega)]
    · rw [Array.getElem?_eq_none (by omega), Array.getElem?_eq_none (by simp; omega)]

end Go.Proofs.Ytejipgofbefbjaa
