/-
  CONTRACTS: gas: rows of six rows of six floats.
-/
import Derived.Test.YtejipgofbefbjaaWords
import Derived.Test.YtejipgofbefbjaaRoom
set_option linter.unusedVariables false
set_option linter.unusedSimpArgs false
namespace Go.Proofs.Ytejipgofbefbjaa
open Go.RowKit Go.FV

def zero6 : List Nat := [0, 0, 0, 0, 0, 0]
def zero36 : List Nat := zero6 ++ zero6 ++ zero6 ++ zero6 ++ zero6 ++ zero6
/-- A row. -/
def rowG (l : List Nat) (y : Nat) : List Nat := (List.range 6).map fun x => ix l (y * 6 + x)
theorem rowG_len (l : List Nat) (y : Nat) : (rowG l y).length = 6 := by simp [rowG]
theorem rowG_ix {l : List Nat} {y x : Nat} (hx : x < 6) : ix (rowG l y) x = ix l (y * 6 + x) := by
  unfold rowG ix
  rw [List.getD_eq_getElem?_getD, List.getElem?_map, List.getElem?_range hx]; rfl
/-- A row laid over another. -/
def putG (l : List Nat) (y : Nat) (m : List Nat) : List Nat := (List.range 36).map fun i => if y * 6 ≤ i ∧ i < y * 6 + 6 then ix m (i - y * 6) else ix l i
theorem putG_len (l : List Nat) (y : Nat) (m : List Nat) : (putG l y m).length = 36 := by simp [putG]
theorem putG_ix {l m : List Nat} {y i : Nat} (hi : i < 36) : ix (putG l y m) i = if y * 6 ≤ i ∧ i < y * 6 + 6 then ix m (i - y * 6) else ix l i := by
  unfold putG ix
  rw [List.getD_eq_getElem?_getD, List.getElem?_map, List.getElem?_range hi]; rfl
theorem putAll_gas {l m : List Nat} {y : Nat} (hl : l.length = 36) (hm : m.length = 6) (hy : y < 6) : putAll (flCells l) (y * 6) (flCells m).toList = flCells (putG l y m) := by
  apply Array.ext_getElem?; intro i
  rw [putAll_get _ _ _ _ (by simp [hl, hm]; omega)]
  simp only [Array.length_toList, flCells_size, hm, Array.getElem?_toList]
  by_cases h : i < 36
  · have e : (flCells (putG l y m))[i]? = some (.float .f32 (ix (putG l y m) i)) := flCells_at (by rw [putG_len]; exact h)
    rw [e, putG_ix h]
    by_cases h2 : y * 6 ≤ i ∧ i < y * 6 + 6
    · rw [if_pos h2, if_pos h2, flCells_at (by omega)]
    · rw [if_neg h2, if_neg h2, flCells_at (by omega)]
  · rw [if_neg (by omega), Array.getElem?_eq_none (by simp; omega), Array.getElem?_eq_none (by simp [putG_len]; omega)]
section
variable {P : Program}
/-- A row of floats into gas that lies in a block. -/
theorem wpList_store_gas {ops : Array Oper} {rest : List Oper} {op : Oper} {a : Act} {w : World} {Q : Exit → Act → World → Prop} (hgd : op.guard = none) (ty : TypeId) (x z : Operand) (ho : op.op = .store ty x z)
    (b y : Nat) (hy6 : y < 6) (hx : a.eval x = .pointer (some ⟨b, y * 6, none⟩)) (m l : List Nat) (hy : a.eval z = .agg (flCells m)) (hl : l.length = 36) (hm : m.length = 6) (t : TypeId)
    (hg : w.heap[b]? = some (.cells (flCells l) t (0, 0))) (hi : (P.info? ty).map (·.size) = some 6)
    (h : wpList P ops Q rest (a.put op.dst undef) (w.setRow b (flCells (putG l y m)))) : wpList P ops Q (op :: rest) a w :=
  wpList_store_mid hgd ty x z ho b (y * 6) (flCells m) hx hy (fun j hj => by
      simp only [flCells_size, hm] at hj
      exact ⟨by rw [cell_of_row _ _ _ _ _ _ hg, flCells_at (by omega)]; rfl, frozen_of_row _ _ _ _ _ hg⟩) (by simpa [hm] using hi) (fl_oneCell m)
    (by rw [setCells_row b t (0, 0) _ (y * 6) w _ hg, putAll_gas hl hm hy6]; exact h)
end
set_option maxRecDepth 100000 in
set_option maxHeartbeats 1000000 in
theorem toFloat32A6_any (l : List Nat) (hl : l.length = 6) (w : World) : Calls Try.prog 41 #[.agg (flCells l)] w (Ret (.agg (flCells l)) w) := by
  have hl0 := Lib.hid hl; clear hl
  go_enter Try.func41, Try.ntmps41
  go_wp2
  go_loopw [4] (fun i wr => ∃ k : Nat, k ≤ 6 ∧ i = .int .i64 k ∧ Below w.heap.size w wr ∧ wr.heap[w.heap.size]? = some (.cells (flCells l) 23 (0, 0)) ∧ wr.heap[w.heap.size + 1]? = some (.cells (flCells zero6) 23 (0, 0)) ∧
      ∃ m : List Nat, m.length = 6 ∧ wr.heap[w.heap.size + 1 + 1]? = some (.cells (flCells m) 23 (0, 0)) ∧ ∀ j, j < k → ix m j = ix l j) (fun i _ => 6 - (intOf i).toNat)
  case atStart => exact ⟨0, by omega, rfl, by (repeat (first | exact Below.refl _ _ | assumption | refine below_new ?_ _ | refine below_step ?_ (by assumption) | refine Below.drew ?_ | refine below_dn ?_ _ | refine Below.setCell ?_ (by simp <;> omega) _)), ha3_0 _ _ _ _, ha3_1 _ _ _ _, zero6, rfl, ha3_2 _ _ _ _, fun j hj => absurd hj (by omega)⟩
  case round =>
    obtain ⟨k, hk, rfl, hB, g0, g1, m, hm, g2, hcp⟩ := hrel
    have HCP := Lib.hid hcp; clear hcp
    have HM := Lib.hid hm; clear hm
    have G0 := Lib.hid g0; clear g0
    have G1 := Lib.hid g1; clear g1
    have G2 := Lib.hid g2; clear g2
    by_cases hlt : (k : Int) < 6
    · have c0 : wr.cell? ⟨w.heap.size, k, none⟩ = some (.float .f32 (ix l k)) := by
        rw [cell_of_row _ _ _ _ _ _ G0.out]; exact flCells_at (by rw [hl0.out]; omega)
      have c2 : wr.cell? ⟨w.heap.size + 1 + 1, k, none⟩ = some (.float .f32 (ix m k)) := by
        rw [cell_of_row _ _ _ _ _ _ G2.out]; exact flCells_at (by rw [HM.out]; omega)
      have f2 : wr.frozen? ⟨w.heap.size + 1 + 1, k, none⟩ = false := frozen_of_row _ _ _ _ _ G2.out
      go_wp2
      go_roundw
      case rel => exact ⟨k + 1, by omega, by go_num, Below.setCell hB (by simp <;> omega) _, by rw [heap_setCell_other _ _ _ _ (by simp <;> omega)]; exact G0.out, by rw [heap_setCell_other _ _ _ _ (by simp <;> omega)]; exact G1.out,
        m.set k (ix l k), by simp [HM.out], by rw [heap_setCell_same _ _ _ _ _ _ G2.out, flCells_set], fun j hj => by
          rw [ix_set (by rw [HM.out]; omega)]
          by_cases e : j = k
          · subst e; simp
          · rw [if_neg e]; exact HCP.out j (by omega)⟩
      case measure => simp [intOf]; omega
    · have hml : m = l := ix_ext (by rw [HM.out, hl0.out]) (fun j hj => HCP.out j (by have := HM.out; omega))
      subst hml
      go_wp2_with (first
        | (refine wpList_load_row rfl 23 _ rfl (w.heap.size + 1 + 1) rfl 23 (flCells m) (0, 0) _ G2.out Try.underlying23 rfl (by rw [flCells_size, HM.out]; kernel_rfl) ?_)
        | (refine wpList_store_row rfl 23 _ _ rfl (w.heap.size + 1) (flCells m) rfl rfl 23 (flCells zero6) G1.out (by rw [flCells_size, HM.out]; kernel_rfl) (by rw [flCells_size, flCells_size, HM.out]; rfl) (fl_oneCell m) ?_))
      exact bodyPost_ret (results_cell_row rfl _ _ (w.heap.size + 1) 23 (flCells m) (0, 0) _ rfl (setRow_heap _ _ _ _ _ _ G1.out) Try.underlying23 rfl (by rw [flCells_size, HM.out]; kernel_rfl)) rfl ⟨rfl, below_setRow hB (by omega) _⟩
set_option maxRecDepth 100000 in
set_option maxHeartbeats 1000000 in
theorem toGas_any (l : List Nat) (hl : l.length = 36) (w : World) : Calls Try.prog 14 #[.agg (flCells l)] w (Ret (.agg (flCells l)) w) := by
  have HL := Lib.hid hl; clear hl
  have HT := Lib.hid (fun y w => toFloat32A6_any (rowG l y) (rowG_len l y) w)
  go_enter Try.func14, Try.ntmps14
  go_wp2
  go_loopw [4] (fun i wr => ∃ k : Nat, k ≤ 6 ∧ i = .int .i64 k ∧ Below w.heap.size w wr ∧ wr.heap[w.heap.size]? = some (.cells (flCells l) 24 (0, 0)) ∧ wr.heap[w.heap.size + 1]? = some (.cells (flCells zero36) 26 (0, 0)) ∧
      ∃ m : List Nat, m.length = 36 ∧ wr.heap[w.heap.size + 1 + 1]? = some (.cells (flCells m) 26 (0, 0)) ∧ ∀ j, j < k * 6 → ix m j = ix l j) (fun i _ => 6 - (intOf i).toNat)
  case atStart => exact ⟨0, by omega, rfl, by (repeat (first | exact Below.refl _ _ | assumption | refine below_new ?_ _ | refine below_step ?_ (by assumption) | refine Below.drew ?_ | refine below_dn ?_ _ | refine Below.setCell ?_ (by simp <;> omega) _)), ha3_0 _ _ _ _, ha3_1 _ _ _ _, zero36, rfl, ha3_2 _ _ _ _, fun j hj => absurd hj (by omega)⟩
  case round =>
    obtain ⟨k, hk, rfl, hB, g0, g1, m, hm, g2, hcp⟩ := hrel
    have HCP := Lib.hid hcp; clear hcp
    have HM := Lib.hid hm; clear hm
    have G0 := Lib.hid g0; clear g0
    have G1 := Lib.hid g1; clear g1
    have G2 := Lib.hid g2; clear g2
    by_cases hlt : (k : Int) < 6
    · have hk6 : k < 6 := by omega
      have cv : Hid (∀ j, j < (rowG l k).length → wr.cell? ⟨w.heap.size, k * 6 + j, none⟩ = some (.float .f32 (ix (rowG l k) j))) := fun j hj => by
        rw [rowG_len] at hj
        rw [cell_of_row _ _ _ _ _ _ G0.out, rowG_ix hj]
        exact flCells_at (by rw [HL.out]; omega)
      go_wp2_with (refine wpList_load_fl rfl 23 (.tmp 11) rfl w.heap.size (k * 6) rfl (rowG l k) _ cv.out Try.underlying23 rfl (by rw [rowG_len]; kernel_rfl) ?_)
      ((with_reducible refine (HT.out k _).mono ?_); rintro e w1 ⟨rfl, hb1⟩)
      have g0 := Lib.hid (below_heap hb1 G0.out)
      have g1 := Lib.hid (below_heap hb1 G1.out)
      have g2 := Lib.hid (below_heap hb1 G2.out)
      have hB1 := Lib.hid (below_step hB hb1)
      clear hb1
      go_wp2_with (refine wpList_store_gas rfl 23 _ _ rfl (w.heap.size + 1 + 1) k hk6 rfl (rowG l k) m rfl HM.out (rowG_len _ _) 26 g2.out (by kernel_rfl) ?_)
      go_roundw
      case rel => exact ⟨k + 1, by omega, by go_num, below_setRow hB1.out (by omega) _, by rw [setRow_other _ _ _ _ (by omega)]; exact g0.out, by rw [setRow_other _ _ _ _ (by omega)]; exact g1.out,
        putG m k (rowG l k), putG_len _ _ _, setRow_heap _ _ _ _ _ _ g2.out, fun j hj => by
          rw [putG_ix (by omega)]
          by_cases e : k * 6 ≤ j ∧ j < k * 6 + 6
          · rw [if_pos e, rowG_ix (by omega)]; congr 1; omega
          · rw [if_neg e]; exact HCP.out j (by omega)⟩
      case measure => simp [intOf]; omega
    · have hml : m = l := ix_ext (by rw [HM.out, HL.out]) (fun j hj => HCP.out j (by have := HM.out; omega))
      subst hml
      go_wp2_with (first
        | (refine wpList_load_row rfl 26 _ rfl (w.heap.size + 1 + 1) rfl 26 (flCells m) (0, 0) _ G2.out Try.underlying26 rfl (by rw [flCells_size, HM.out]; kernel_rfl) ?_)
        | (refine wpList_store_row rfl 26 _ _ rfl (w.heap.size + 1) (flCells m) rfl rfl 26 (flCells zero36) G1.out (by rw [flCells_size, HM.out]; kernel_rfl) (by rw [flCells_size, flCells_size, HM.out]; rfl) (fl_oneCell m) ?_))
      exact bodyPost_ret (results_cell_row rfl _ _ (w.heap.size + 1) 26 (flCells m) (0, 0) _ rfl (setRow_heap _ _ _ _ _ _ G1.out) Try.underlying26 rfl (by rw [flCells_size, HM.out]; kernel_rfl)) rfl ⟨rfl, below_setRow hB (by omega) _⟩
end Go.Proofs.Ytejipgofbefbjaa
