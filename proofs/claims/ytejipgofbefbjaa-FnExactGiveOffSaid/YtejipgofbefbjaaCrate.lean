/-
  CONTRACTS of the functions on crates: copies and comparisons of the laws.
-/
import Derived.Test.YtejipgofbefbjaaLeaf
import Derived.Test.YtejipgofbefbjaaConv
set_option linter.unusedVariables false
set_option linter.unusedSimpArgs false
namespace Go.Proofs.Ytejipgofbefbjaa
open Go.RowKit Go.FV

def zero16 : List Nat := [0, 0, 0, 0, 0, 0, 0, 0, 0, 0, 0, 0, 0, 0, 0, 0]
theorem zero16_cells : flCells zero16 = #[.float .f32 0, .float .f32 0, .float .f32 0, .float .f32 0, .float .f32 0, .float .f32 0, .float .f32 0, .float .f32 0, .float .f32 0, .float .f32 0, .float .f32 0, .float .f32 0, .float .f32 0, .float .f32 0, .float .f32 0, .float .f32 0] := rfl
set_option maxHeartbeats 1000000 in
theorem toFloat32A16_any (l : List Nat) (hl : l.length = 16) (w : World) : Calls Try.prog 54 #[.agg (flCells l)] w (Ret (.agg (flCells l)) w) := by
  have hl0 := Lib.hid hl; clear hl
  go_enter Try.func54, Try.ntmps54
  go_wp2
  go_loopw [4] (fun i wr => ∃ k : Nat, k ≤ 16 ∧ i = .int .i64 k ∧ Below w.heap.size w wr ∧ wr.heap[w.heap.size]? = some (.cells (flCells l) 49 (0, 0)) ∧ wr.heap[w.heap.size + 1]? = some (.cells (flCells zero16) 49 (0, 0)) ∧
      ∃ m : List Nat, m.length = 16 ∧ wr.heap[w.heap.size + 1 + 1]? = some (.cells (flCells m) 49 (0, 0)) ∧ ∀ j, j < k → ix m j = ix l j) (fun i _ => 16 - (intOf i).toNat)
  case atStart => exact ⟨0, by omega, rfl, by (repeat (first | exact Below.refl _ _ | assumption | refine below_new ?_ _ | refine below_step ?_ (by assumption) | refine Below.drew ?_ | refine below_dn ?_ _ | refine Below.setCell ?_ (by simp <;> omega) _)), ha3_0 _ _ _ _, ha3_1 _ _ _ _, zero16, rfl, ha3_2 _ _ _ _, fun j hj => absurd hj (by omega)⟩
  case round =>
    obtain ⟨k, hk, rfl, hB, g0, g1, m, hm, g2, hcp⟩ := hrel
    have HCP := Lib.hid hcp; clear hcp
    have HM := Lib.hid hm; clear hm
    have G0 := Lib.hid g0; clear g0
    have G1 := Lib.hid g1; clear g1
    have G2 := Lib.hid g2; clear g2
    by_cases hlt : (k : Int) < 16
    · have c0 : wr.cell? ⟨w.heap.size, k, none⟩ = some (.float .f32 (ix l k)) := by
        rw [cell_of_row _ _ _ _ _ _ G0.out]; exact flCells_at (by rw [hl0.out]; omega)
      have c2 : wr.cell? ⟨w.heap.size + 1 + 1, k, none⟩ = some (.float .f32 (ix m k)) := by
        rw [cell_of_row _ _ _ _ _ _ G2.out]; exact flCells_at (by rw [HM.out]; omega)
      have f2 : wr.frozen? ⟨w.heap.size + 1 + 1, k, none⟩ = false := frozen_of_row _ _ _ _ _ G2.out
      go_wp2
      go_roundw
      case rel => exact ⟨k + 1, by omega, by go_num, Below.setCell hB (by simp <;> omega) _, by rw [heap_setCell_other _ _ _ _ (by simp <;> omega)]; exact G0.out, by rw [heap_setCell_other _ _ _ _ (by simp <;> omega)]; exact G1.out,
        m.set k (ix l k), by simp [HM.out], by rw [heap_setCell_same _ _ _ _ _ _ G2.out, flCells_set], fun j hj => by
          rw [ix_set (by rw [HM.out]; omega)]
          by_cases e : j = k
          · subst e; simp
          · rw [if_neg e]; exact HCP.out j (by omega)⟩
      case measure => simp [intOf]; omega
    · have hml : m = l := ix_ext (by rw [HM.out, hl0.out]) (fun j hj => HCP.out j (by have := HM.out; omega))
      subst hml
      go_wp2_with (first
        | (refine wpList_load_row rfl 49 _ rfl (w.heap.size + 1 + 1) rfl 49 (flCells m) (0, 0) _ G2.out Try.underlying49 rfl (by rw [flCells_size, HM.out]; kernel_rfl) ?_)
        | (refine wpList_store_row rfl 49 _ _ rfl (w.heap.size + 1) (flCells m) rfl rfl 49 (flCells zero16) G1.out (by rw [flCells_size, HM.out]; kernel_rfl) (by rw [flCells_size, flCells_size, HM.out]; rfl) (fl_oneCell m) ?_))
      exact bodyPost_ret (results_cell_row rfl _ _ (w.heap.size + 1) 49 (flCells m) (0, 0) _ rfl (setRow_heap _ _ _ _ _ _ G1.out) Try.underlying49 rfl (by rw [flCells_size, HM.out]; kernel_rfl)) rfl ⟨rfl, below_setRow hB (by omega) _⟩
theorem zeroCrate_cells : crateCells 0 zero16 = #[.int .i8 0, .float .f32 0, .float .f32 0, .float .f32 0, .float .f32 0, .float .f32 0, .float .f32 0, .float .f32 0, .float .f32 0, .float .f32 0, .float .f32 0, .float .f32 0, .float .f32 0, .float .f32 0, .float .f32 0, .float .f32 0, .float .f32 0] := rfl
set_option maxRecDepth 100000 in
set_option maxHeartbeats 400000 in
theorem toCrate_any (n : Int) (l : List Nat) (hl : l.length = 16) (w : World) : Calls Try.prog 28 #[.agg (crateCells n l)] w (Ret (.agg (crateCells n l)) w) := by
  have HL := Lib.hid hl; clear hl
  go_enter Try.func28, Try.ntmps28
  go_wp2_with ((with_reducible show wpList _ _ _ (⟨some 8, _, _, _, _, _⟩ :: _) _ _); refine wpList_load_fl rfl 49 (.tmp 7) rfl w.heap.size 1 rfl l _ (fun j hj => (cell_of_row _ _ _ _ _ _ (ha3_0 _ _ _ _)).trans (crateCells_at hj)) Try.underlying49 rfl (by rw [HL.out]; kernel_rfl) ?_)
  ((with_reducible refine (toFloat32A16_any l HL.out _).mono ?_); rintro e w1 ⟨rfl, hb1⟩)
  have G2 : Hid (w1.heap[w.heap.size + 1 + 1]? = some (.cells (crateCells n zero16) 54 (0, 0))) := below_heap hb1 (ha3_2 _ _ _ _)
  have G1 : Hid (w1.heap[w.heap.size + 1]? = some (.cells (crateCells 0 zero16) 54 (0, 0))) := below_heap hb1 (ha3_1 _ _ _ _)
  have HB : Hid (Below w.heap.size w w1) := below_step (by (repeat (first | exact Below.refl _ _ | assumption | refine below_new ?_ _ | refine below_step ?_ (by assumption) | refine Below.drew ?_ | refine below_dn ?_ _ | refine Below.setCell ?_ (by simp <;> omega) _))) hb1
  clear hb1
  have G2' : Hid ((w1.setRow (w.heap.size + 1 + 1) (crateCells n l)).heap[w.heap.size + 1 + 1]? = some (.cells (crateCells n l) 54 (0, 0))) := setRow_heap _ _ _ _ _ _ G2.out
  have G1' : Hid ((w1.setRow (w.heap.size + 1 + 1) (crateCells n l)).heap[w.heap.size + 1]? = some (.cells (crateCells 0 zero16) 54 (0, 0))) := (setRow_other _ _ _ _ (by omega)).trans G1.out
  go_wp2_with (first
    | ((with_reducible show wpList _ _ _ (⟨none, .store _ (.tmp 10) _, _, _, _, _⟩ :: _) _ _); refine wpList_store_fl rfl 49 (.tmp 10) _ rfl (w.heap.size + 1 + 1) rfl n l zero16 rfl HL.out rfl 54 G2.out (by kernel_rfl) ?_)
    | ((with_reducible show wpList _ _ _ (⟨some 11, _, _, _, _, _⟩ :: _) _ _); refine wpList_load_row rfl 54 (.tmp 3) rfl (w.heap.size + 1 + 1) rfl 54 (crateCells n l) (0, 0) _ G2'.out Try.underlying54 rfl (by rw [crateCells_size, HL.out]; kernel_rfl) ?_)
    | ((with_reducible show wpList _ _ _ (⟨none, .store _ (.tmp 2) _, _, _, _, _⟩ :: _) _ _); refine wpList_store_row rfl 54 (.tmp 2) _ rfl (w.heap.size + 1) (crateCells n l) rfl rfl 54 (crateCells 0 zero16) G1'.out (by rw [crateCells_size, HL.out]; kernel_rfl) (by rw [crateCells_size, crateCells_size, HL.out]; rfl) (crate_oneCell n l) ?_))
  exact bodyPost_ret (results_cell_row rfl _ _ (w.heap.size + 1) 54 (crateCells n l) (0, 0) _ rfl (setRow_heap _ _ _ _ _ _ G1'.out) Try.underlying54 rfl (by rw [crateCells_size, HL.out]; kernel_rfl)) rfl ⟨rfl, below_setRow (below_setRow HB.out (by omega) _) (by omega) _⟩

/-! ### comparisons of the laws -/
set_option maxHeartbeats 400000 in
theorem sameFloat_self (x : Nat) (h : FloatKind.f64.format.order x x = some .eq) (w : World) : Calls Try.prog 21 #[.float .f64 x, .float .f64 x] w fun e w' => e = .returned (.bool true) ∧ w = w' := by
  have h1 : (FloatKind.f64.format.order x x != some .eq) = false := by rw [h]; rfl
  cases h0 : (FloatKind.f64.format.order x 0 == some .eq)
  · go_enter Try.func21, Try.ntmps21
    go_wp2
    all_goals (go_ret; exact ⟨by simp_all, rfl⟩)
  · obtain ⟨r, hr⟩ := FL.div_some (by simpa using h0)
    have hd : ∀ w, (binOp .quo 40 (.float .f64 4607182418800017408) (.float .f64 x)).run Try.prog w = .ok (.float .f64 r) w := fun w => run_float_arith w .quo _ .f64 _ _ r hr
    go_enter Try.func21, Try.ntmps21
    go_wp2
    all_goals (go_ret; exact ⟨by simp_all, rfl⟩)
def cv (b : Nat) : Nat := (floatToFloatBits .f32 b .f64).getD 0
theorem run_cv (b : Nat) (h : FL.fin b) (w : World) : (convert 22 40 (.float .f32 b)).run Try.prog w = .ok (.float .f64 (cv b)) w := by
  obtain ⟨r, hr, _⟩ := FL.conv_some h
  unfold cv
  rw [hr]
  exact run_convert_float_float w _ _ .f32 .f64 b r (by rw [Try.underlying22]; rfl) Try.underlying40 hr
theorem cv_self (b : Nat) (h : FL.fin b) : FloatKind.f64.format.order (cv b) (cv b) = some .eq := by
  obtain ⟨r, hr, h2⟩ := FL.conv_some h
  unfold cv; rw [hr]; exact h2
theorem sameFloat_q (x : Nat) (h : FloatKind.f64.format.order x x = some .eq) (w : World) : Calls Try.prog 21 #[.float .f64 x, .float .f64 x] w fun e w' => e = .returned (.bool true) ∧ w' = w :=
  (sameFloat_self x h w).mono fun _ _ ⟨a, b⟩ => ⟨a, b.symm⟩
set_option maxHeartbeats 1000000 in
theorem eqFloat32A16_self (l : List Nat) (hl : l.length = 16) (hf : ∀ i, i < 16 → FL.fin (ix l i)) (w : World) : Calls Try.prog 67 #[.agg (flCells l), .agg (flCells l)] w (Ret (.bool true) w) := by
  have HL := Lib.hid hl; clear hl
  have HF := Lib.hid hf; clear hf
  go_enter Try.func67, Try.ntmps67
  go_wp2
  obtain ⟨W, hW⟩ : ∃ W, W = (w.alloc (.cells (flCells l) 49)).alloc (.cells (flCells l) 49) := ⟨_, rfl⟩
  have HW : Hid (W = (w.alloc (.cells (flCells l) 49)).alloc (.cells (flCells l) 49)) := hW
  rw [← hW]; clear hW
  go_loopw [5] (fun i wr => ∃ k : Nat, k ≤ 16 ∧ i = .int .i64 k ∧ ∃ n, wr = W.drewN n) (fun i _ => 16 - (intOf i).toNat)
  case atStart => exact ⟨0, by omega, rfl, 0, rfl⟩
  case round =>
    obtain ⟨k, hk, rfl, hwr⟩ := hrel
    have HWR := Lib.hid hwr; clear hwr
    by_cases hlt : (k : Int) < 16
    · have c0 : wr.cell? ⟨w.heap.size, k, none⟩ = some (.float .f32 (ix l k)) := by
        obtain ⟨n, hn⟩ := HWR.out; rw [hn]; show W.cell? _ = _
        rw [HW.out, cell_of_row _ _ _ _ _ _ (ha2_0 _ _ _)]; exact flCells_at (by rw [HL.out]; omega)
      have c1 : wr.cell? ⟨w.heap.size + 1, k, none⟩ = some (.float .f32 (ix l k)) := by
        obtain ⟨n, hn⟩ := HWR.out; rw [hn]; show W.cell? _ = _
        rw [HW.out, cell_of_row _ _ _ _ _ _ (ha2_1 _ _ _)]; exact flCells_at (by rw [HL.out]; omega)
      have hcv := run_cv (ix l k) (HF.out k (by omega))
      have HQ := Lib.hid (sameFloat_q (cv (ix l k)) (cv_self _ (HF.out k (by omega))))
      go_wp2
      go_quiet ((go_at_call 21; with_reducible exact Calls.quiet_of_same (HQ.out _)))
      go_wp2
      go_roundw
      case rel => exact ⟨k + 1, by omega, by go_num, by obtain ⟨n, hn⟩ := HWR.out; rw [hn]; exact ⟨_, by rw [World.drewN_drewN]⟩⟩
      case measure => simp [intOf]; omega
    · go_wp2
      go_ret
      refine ⟨rfl, ?_⟩
      obtain ⟨n, hn⟩ := HWR.out
      rw [hn, HW.out]
      (repeat (first | exact Below.refl _ _ | assumption | refine below_new ?_ _ | refine below_step ?_ (by assumption) | refine Below.drew ?_ | refine below_dn ?_ _ | refine Below.setCell ?_ (by simp <;> omega) _))
set_option maxRecDepth 100000 in
set_option maxHeartbeats 400000 in
theorem eqCrate_self (n : Int) (l : List Nat) (hl : l.length = 16) (hf : ∀ i, i < 16 → FL.fin (ix l i)) (w : World) : Calls Try.prog 39 #[.agg (crateCells n l), .agg (crateCells n l)] w (Ret (.bool true) w) := by
  have HL := Lib.hid hl; clear hl
  have HF := Lib.hid hf; clear hf
  go_enter Try.func39, Try.ntmps39
  go_wp2_with (first
    | ((with_reducible show wpList _ _ _ (⟨some 11, _, _, _, _, _⟩ :: _) _ _); refine wpList_load_fl rfl 49 (.tmp 10) rfl w.heap.size 1 rfl l _ (fun j hj => (cell_of_row _ _ _ _ _ _ (ha2_0 _ _ _)).trans (crateCells_at hj)) Try.underlying49 rfl (by rw [HL.out]; kernel_rfl) ?_)
    | ((with_reducible show wpList _ _ _ (⟨some 13, _, _, _, _, _⟩ :: _) _ _); refine wpList_load_fl rfl 49 (.tmp 12) rfl (w.heap.size + 1) 1 rfl l _ (fun j hj => (cell_of_row _ _ _ _ _ _ (ha2_1 _ _ _)).trans (crateCells_at hj)) Try.underlying49 rfl (by rw [HL.out]; kernel_rfl) ?_)
    | (go_at_call 67; ((with_reducible refine (eqFloat32A16_self l HL.out HF.out _).mono ?_); rintro e w1 ⟨rfl, hb1⟩); obtain ⟨hc1, hf1⟩ := bcell hb1))
  go_ret; refine ⟨rfl, ?_⟩; (repeat (first | exact Below.refl _ _ | assumption | refine below_new ?_ _ | refine below_step ?_ (by assumption) | refine Below.drew ?_ | refine below_dn ?_ _ | refine Below.setCell ?_ (by simp <;> omega) _))
end Go.Proofs.Ytejipgofbefbjaa
