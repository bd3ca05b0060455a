/-
  CONTRACTS: the ripest fruit.
-/
import Derived.Test.YtckapidlhhjipaaPut
set_option linter.unusedVariables false
set_option linter.unusedSimpArgs false
namespace Go.Proofs.Ytckapidlhhjipaa
open Go.RowKit Go.FV

def fgt (a b : Nat) : Bool := ord a b == some .gt
/-- The first of the ripest among the first places. -/
def bestTo (l : List Nat) : Nat → Nat
  | 0 => 0
  | k + 1 => if fgt (ix l k) (ix l (bestTo l k)) then k else bestTo l k
theorem best_yes {l : List Nat} {k : Nat} (h : fgt (ix l k) (ix l (bestTo l k)) = true) : bestTo l (k + 1) = k := by simp [bestTo, h]
theorem best_no {l : List Nat} {k : Nat} (h : fgt (ix l k) (ix l (bestTo l k)) = false) : bestTo l (k + 1) = bestTo l k := by simp [bestTo, h]
theorem best_lt (l : List Nat) : ∀ k : Nat, bestTo l (k + 1) ≤ k
  | 0 => by rw [bestTo]; cases fgt (ix l 0) (ix l (bestTo l 0)) <;> exact Nat.le_refl 0
  | k + 1 => by
    have := best_lt l k
    rw [bestTo]; split <;> omega
theorem best_le (l : List Nat) (k : Nat) : bestTo l k ≤ k := by
  cases k with
  | zero => simp [bestTo]
  | succ k => have := best_lt l k; omega
theorem best_one (l : List Nat) : bestTo l 1 = 0 := Nat.le_zero.1 (best_lt l 0)
def ripest (n : Int) (l : List Nat) (V : Bool) : Nat := if V && decide (n ≠ 0) then bestTo l n.toNat else 0
def ripestX (n : Int) (l : List Nat) (V : Bool) : Nat := if V && decide (n ≠ 0) then ix l (bestTo l n.toNat) else 0
def found (n : Int) (V : Bool) : Int := if V then (if n = 0 then 6 else 0) else 1

set_option maxHeartbeats 1000000 in
theorem spec_RipestOf (n : Int) (l : List Nat) (hl : l.length = 16) (w : World) (h1 : -128 ≤ n) (h2 : n ≤ 127) : Calls Try.prog 26 #[.agg (crateCells n l)] w (Ret (.tuple #[.int .i64 (ripest n l (validCrate n l)), .float .f32 (ripestX n l (validCrate n l)), .int .i64 (found n (validCrate n l))]) w) := by
  have HL := Lib.hid hl; clear hl
  have HC := Lib.hid (spec_l01Crate w.heap.size n l (w.alloc (.cells (crateCells n l) 37)) h1 h2 (cell_of_row _ _ _ _ _ _ (ha1 _ _)) (fun k hk => (cell_of_row _ _ _ _ _ _ (ha1 _ _)).trans (crateCells_at (by rw [HL.out]; exact hk))))
  have HV := Lib.hid (valid_count (n := n) (l := l))
  obtain ⟨V, hV⟩ : ∃ V, validCrate n l = V := ⟨_, rfl⟩
  rw [hV] at HV HC ⊢
  clear hV
  obtain ⟨W, hW⟩ : ∃ W, W = w.alloc (.cells (crateCells n l) 37) := ⟨_, rfl⟩
  have C0 : Hid (W.cell? ⟨w.heap.size, 0, none⟩ = some (.int .i8 n)) := by rw [hW]; exact cell_of_row _ _ _ _ _ _ (ha1 _ _)
  have CV : Hid (∀ j, j < 16 → W.cell? ⟨w.heap.size, 1 + j, none⟩ = some (.float .f32 (ix l j))) := by rw [hW]; exact fun k hk => (cell_of_row _ _ _ _ _ _ (ha1 _ _)).trans (crateCells_at (by rw [HL.out]; exact hk))
  have HB : Hid (Below w.heap.size w W) := by rw [hW]; show Below _ _ _; (repeat (first | exact Below.refl _ _ | assumption | refine below_new ?_ _ | refine below_step ?_ (by assumption) | refine Below.drew ?_ | refine below_dn ?_ _ | refine Below.setCell ?_ (by simp <;> omega) _))
  rw [← hW] at HC
  go_enter Try.func26, Try.ntmps26
  go_wp2_with fail
  rw [← hW]
  clear hW
  ((with_reducible refine (HC.out).mono ?_); rintro e w' ⟨rfl, rfl⟩)
  have c0 := C0.out
  cases V
  case false =>
    go_wp2_with fail
    refine bodyPost_ret (results_tmp3 rfl _ _ _) rfl ⟨rfl, HB.out⟩
  case true =>
    obtain ⟨k, rfl, hk⟩ := HV.out rfl
    by_cases h0 : (k : Int) = 0
    · have hk0 : k = 0 := by omega
      subst hk0
      go_wp2_with fail
      refine bodyPost_ret (results_tmp3 rfl _ _ _) rfl ⟨rfl, HB.out⟩
    · have hR : Hid (ripest k l true = bestTo l k ∧ ripestX k l true = ix l (bestTo l k) ∧ found k true = 0) := by
        have h0' : k ≠ 0 := by omega
        exact ⟨by simp [ripest, h0'], by simp [ripestX, h0'], by simp [found, h0']⟩
      have hk1 : 1 ≤ k := by omega
      go_wp2_with fail
      have HB1 := Lib.hid (bdrew (B := w.heap.size) (w := W) 0)
      go_loopw [5, 6] (fun b i wr => ∃ j : Nat, 1 ≤ j ∧ j ≤ k ∧ i = .int .i64 j ∧ b = .int .i64 (bestTo l j) ∧ ∃ n, wr = W.drewN n) (fun b i _ => 16 - (intOf i).toNat)
      case atStart => exact ⟨1, by omega, by omega, rfl, by rw [best_one]; rfl, 0, rfl⟩
      case round =>
        obtain ⟨j, hj1, hj, rfl, rfl, hwr⟩ := hrel
        have HWR := Lib.hid hwr; clear hwr
        have hbl := best_le l j
        have hbl1 : bestTo l j < 16 := by
          obtain ⟨d, rfl⟩ : ∃ d, j = d + 1 := ⟨j - 1, by omega⟩
          have := best_lt l d; omega
        obtain ⟨b, hb⟩ : ∃ b, bestTo l j = b := ⟨_, rfl⟩
        rw [hb] at hbl hbl1 ⊢
        have hb2 := Lib.hid hb; clear hb
        have c0 : wr.cell? ⟨w.heap.size, 0, none⟩ = some (.int .i8 k) := by
          obtain ⟨n, hn⟩ := HWR.out; rw [hn]; exact C0.out
        have cb : wr.cell? ⟨w.heap.size, 1 + b, none⟩ = some (.float .f32 (ix l b)) := by
          obtain ⟨n, hn⟩ := HWR.out; rw [hn]; exact CV.out b hbl1
        by_cases hlt : j < k
        · have cj : wr.cell? ⟨w.heap.size, 1 + j, none⟩ = some (.float .f32 (ix l j)) := by
            obtain ⟨n, hn⟩ := HWR.out; rw [hn]; exact CV.out j (by omega)
          have hj16 : j < 16 := by omega
          go_wp2
          go_quiet (fail)
          go_wp2
          all_goals
            go_roundw
            case rel => exact ⟨j + 1, by omega, by omega, by go_num, by first | (rw [best_yes (by rw [hb2.out]; simp_all [fgt, ord])]; done) | (rw [best_no (by rw [hb2.out]; simp_all [fgt, ord]), hb2.out]; done), by obtain ⟨n, hn⟩ := HWR.out; rw [hn]; exact ⟨_, by rw [World.drewN_drewN]⟩⟩
            case measure => simp [intOf]; omega
        · have : j = k := by omega
          subst this
          go_wp2
          go_quiet (fail)
          go_wp2
          refine bodyPost_ret (results_tmp3 rfl _ _ _) rfl ⟨by rw [hR.out.1, hR.out.2.1, hR.out.2.2, hb2.out]; rfl, ?_⟩
          obtain ⟨n, hn⟩ := HWR.out; rw [hn]; exact below_dn (below_dn HB.out _) _

set_option maxHeartbeats 1000000 in
theorem ripest_any (k : Nat) (hk : k ≤ 16) (l : List Nat) (hl : l.length = 16) (w : World) : Calls Try.prog 61 #[.agg (crateCells k l)] w (Ret (.int .i64 (bestTo l k)) w) := by
  have HL := Lib.hid hl; clear hl
  have CV : Hid (∀ j, j < 16 → (w.alloc (.cells (crateCells k l) 37)).cell? ⟨w.heap.size, 1 + j, none⟩ = some (.float .f32 (ix l j))) := fun k hk => (cell_of_row _ _ _ _ _ _ (ha1 _ _)).trans (crateCells_at (by rw [HL.out]; exact hk))
  have HF := Lib.hid (fruits_any w.heap.size k hk (w.alloc (.cells (crateCells k l) 37)) ((cell_of_row _ _ _ _ _ _ (ha1 _ _)).trans (crateCells_0 _ _)))
  go_enter Try.func61, Try.ntmps61
  go_wp2_with (go_at_call 60; ((with_reducible refine (HF.out).mono ?_); rintro e w' ⟨rfl, m, rfl⟩))
  have CV1 : Hid (∀ j, j < 16 → ((w.alloc (.cells (crateCells k l) 37)).drewN m).cell? ⟨w.heap.size, 1 + j, none⟩ = some (.float .f32 (ix l j))) := CV.out
  have HB1 : Hid (Below w.heap.size w ((w.alloc (.cells (crateCells k l) 37)).drewN m)) := by show Below _ _ _; exact below_dn (by (repeat (first | exact Below.refl _ _ | assumption | refine below_new ?_ _ | refine below_step ?_ (by assumption) | refine Below.drew ?_ | refine below_dn ?_ _ | refine Below.setCell ?_ (by simp <;> omega) _))) _
  clear HF CV
  obtain ⟨W2, hW2⟩ : ∃ W2, (w.alloc (.cells (crateCells k l) 37)).drewN m = W2 := ⟨_, rfl⟩
  rw [hW2] at CV1 HB1 ⊢
  clear hW2
  go_loop [3, 8] (fun b i => ∃ j : Nat, j ≤ k ∧ i = .int .i64 j ∧ b = .int .i64 (bestTo l j)) (fun b i => 16 - (intOf i).toNat)
  case atStart => exact ⟨0, by omega, rfl, rfl⟩
  case round =>
    obtain ⟨j, hj, rfl, rfl⟩ := hrel
    have hbl := best_le l j
    obtain ⟨b, hb⟩ : ∃ b, bestTo l j = b := ⟨_, rfl⟩
    have hbl1 : j < k → b < 16 := by omega
    rw [hb] at hbl ⊢
    have hb2 := Lib.hid hb; clear hb
    by_cases hlt : j < k
    · have cj := CV1.out j (by omega)
      have cb := CV1.out b (by omega)
      have hb16 : b < 16 := hbl1 hlt
      have hj16 : j < 16 := by omega
      go_wp2
      all_goals
        go_round
        case rel => exact ⟨j + 1, by omega, by go_num, by first | (rw [best_yes (by rw [hb2.out]; simp_all [fgt, ord])]; done) | (rw [best_no (by rw [hb2.out]; simp_all [fgt, ord]), hb2.out]; done)⟩
        case measure => simp [intOf]; omega
    · have : j = k := by omega
      subst this
      go_wp2
      go_ret
      exact ⟨by rw [hb2.out]; rfl, HB1.out⟩
set_option maxRecDepth 100000 in
set_option maxHeartbeats 1000000 in
theorem impl_RipestOf (n : Int) (l : List Nat) (hl : l.length = 16) (w : World) (h1 : -128 ≤ n) (h2 : n ≤ 127) : Calls Try.prog 27 #[.agg (crateCells n l)] w (Ret (.tuple #[.int .i64 (ripest n l (validCrate n l)), .float .f32 (ripestX n l (validCrate n l)), .int .i64 (found n (validCrate n l))]) w) := by
  have HL := Lib.hid hl; clear hl
  have HC := Lib.hid (impl_ValidCrate n l HL.out (w.alloc (.cells (crateCells n l) 37)) h1 h2)
  have HV := Lib.hid (valid_count (n := n) (l := l))
  obtain ⟨V, hV⟩ : ∃ V, validCrate n l = V := ⟨_, rfl⟩
  rw [hV] at HV HC ⊢
  clear hV
  go_enter Try.func27, Try.ntmps27
  go_wp2_with ((with_reducible show wpList _ _ _ (⟨some 7, _, _, _, _, _⟩ :: _) _ _); refine wpList_load_row rfl 37 (.tmp 1) rfl (w.heap.size) rfl 37 (crateCells n l) (0, 0) _ (ha1 _ _) Try.underlying37 rfl (by rw [crateCells_size, HL.out]; kernel_rfl) ?_)
  ((with_reducible refine (HC.out).mono ?_); rintro e W ⟨rfl, hb1⟩)
  have G0 : Hid (W.heap[w.heap.size]? = some (.cells (crateCells n l) 37 (0, 0))) := below_heap hb1 (ha1 _ _)
  have HB : Hid (Below w.heap.size w W) := by show Below _ _ _; (repeat (first | exact Below.refl _ _ | assumption | refine below_new ?_ _ | refine below_step ?_ (by assumption) | refine Below.drew ?_ | refine below_dn ?_ _ | refine Below.setCell ?_ (by simp <;> omega) _))
  have hz : w.heap.size < W.heap.size := by have := hb1.size; rw [size_al] at this; omega
  clear hb1 HC
  have c0 : W.cell? ⟨w.heap.size, 0, none⟩ = some (.int .i8 n) := cell_of_row _ _ _ _ _ _ G0.out
  cases V
  case false =>
    go_wp2_with fail
    refine bodyPost_ret (results_tmp3 rfl _ _ _) rfl ⟨rfl, HB.out⟩
  case true =>
    obtain ⟨k, rfl, hk⟩ := HV.out rfl
    by_cases h0 : (k : Int) = 0
    · have hk0 : k = 0 := by omega
      subst hk0
      go_wp2_with fail
      refine bodyPost_ret (results_tmp3 rfl _ _ _) rfl ⟨rfl, HB.out⟩
    · have hR : Hid (ripest k l true = bestTo l k ∧ ripestX k l true = ix l (bestTo l k) ∧ found k true = 0) := by
        have h0' : k ≠ 0 := by omega
        exact ⟨by simp [ripest, h0'], by simp [ripestX, h0'], by simp [found, h0']⟩
      have hbl1 : bestTo l k < 16 := by
        obtain ⟨d, rfl⟩ : ∃ d, k = d + 1 := ⟨k - 1, by omega⟩
        have := best_lt l d; omega
      have HR := Lib.hid (fun w => ripest_any k hk l HL.out w)
      obtain ⟨b, hb⟩ : ∃ b, bestTo l k = b := ⟨_, rfl⟩
      rw [hb] at hR hbl1
      simp only [hb] at HR
      clear hb
      go_wp2_with ((with_reducible show wpList _ _ _ (⟨some 14, _, _, _, _, _⟩ :: _) _ _); refine wpList_load_row rfl 37 (.tmp 1) rfl (w.heap.size) rfl 37 (crateCells k l) (0, 0) _ (G0.out) Try.underlying37 rfl (by rw [crateCells_size, HL.out]; kernel_rfl) ?_)
      ((with_reducible refine (HR.out _).mono ?_); rintro e W1 ⟨rfl, hb2⟩)
      have G1 := Lib.hid (below_heap hb2 G0.out)
      have HB1 : Hid (Below w.heap.size w W1) := below_step HB.out hb2
      have cb : W1.cell? ⟨w.heap.size, 1 + b, none⟩ = some (.float .f32 (ix l b)) := (cell_of_row _ _ _ _ _ _ G1.out).trans (crateCells_at (by rw [HL.out]; exact hbl1))
      clear hb2
      go_wp2
      go_quiet (fail)
      go_wp2
      refine bodyPost_ret (results_tmp3 rfl _ _ _) rfl ⟨by rw [hR.out.1, hR.out.2.1, hR.out.2.2]; rfl, below_dn HB1.out _⟩
end Go.Proofs.Ytckapidlhhjipaa
