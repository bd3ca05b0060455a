/-
  CONTRACTS: fruits, codes, counting.
-/
import Derived.Test.YtldbpmpjfiglaaaValid
set_option linter.unusedVariables false
set_option linter.unusedSimpArgs false
namespace Go.Proofs.Ytldbpmpjfiglaaa
open Go.RowKit Go.FV

def told (v fine : Bool) : Int := if v then (if fine then 0 else 2) else 1
set_option maxRecDepth 10000 in
theorem fruits_any (b k : Nat) (hk : k ≤ 16) (w : World) (c0 : w.cell? ⟨b, 0, none⟩ = some (.int .i8 k)) :
    Calls Try.prog 70 #[.pointer (some ⟨b, 0, none⟩)] w fun e w' => e = .returned (.slice (some ⟨b, 1, none⟩) k 16) ∧ ∃ m, w.drewN m = w' := by
  have hs := sl_hi b 1 k hk
  go_enter Try.func70, Try.ntmps70
  go_wp2
  go_quiet (fail)
  go_wp2
  go_ret; exact ⟨rfl, _, rfl⟩

/-- How many of the first places hold at least so much. -/
def cnt (b : Nat) (l : List Nat) : Nat → Int
  | 0 => 0
  | k + 1 => if fge (ix l k) b then cnt b l k + 1 else cnt b l k
theorem cnt_yes {b : Nat} {l : List Nat} {k : Nat} (h : fge (ix l k) b = true) : cnt b l (k + 1) = cnt b l k + 1 := by simp [cnt, h]
theorem cnt_no {b : Nat} {l : List Nat} {k : Nat} (h : fge (ix l k) b = false) : cnt b l (k + 1) = cnt b l k := by simp [cnt, h]
theorem cnt_bd (b : Nat) (l : List Nat) : ∀ k : Nat, 0 ≤ cnt b l k ∧ cnt b l k ≤ k
  | 0 => by simp [cnt]
  | k + 1 => by
    have := cnt_bd b l k
    unfold cnt; split <;> omega
theorem valid_count {n : Int} {l : List Nat} (h : validCrate n l = true) : ∃ k : Nat, n = k ∧ k ≤ 16 := by
  unfold validCrate at h
  simp only [Bool.and_eq_true, decide_eq_true_eq] at h
  exact ⟨n.toNat, by omega, by omega⟩
def countAbove (n : Int) (l : List Nat) (b : Nat) : Int := if validCrate n l && isPart b then cnt b l n.toNat else 0

set_option maxRecDepth 100000 in
set_option maxHeartbeats 1000000 in
theorem impl_CountAbove (n : Int) (l : List Nat) (hl : l.length = 16) (b : Nat) (w : World) (h1 : -128 ≤ n) (h2 : n ≤ 127) : Calls Try.prog 38 #[.agg (crateCells n l), .float .f32 b] w (Ret (.tuple #[.int .i64 (countAbove n l b), .int .i64 (told (validCrate n l) (isPart b))]) w) := by
  have HL := Lib.hid hl; clear hl
  have HC := Lib.hid (impl_ValidCrate n l HL.out (w.alloc (.cells (crateCells n l) 29)) h1 h2)
  have HA : Hid (countAbove n l b = if validCrate n l && isPart b then cnt b l n.toNat else 0) := rfl
  have HV := Lib.hid (valid_count (n := n) (l := l))
  obtain ⟨V, hV⟩ : ∃ V, validCrate n l = V := ⟨_, rfl⟩
  obtain ⟨B, hB⟩ : ∃ B, isPart b = B := ⟨_, rfl⟩
  rw [hV, hB] at HA
  rw [hV] at HV HC
  rw [hV, hB]
  cases V <;> cases B
  case true.true =>
    obtain ⟨k, rfl, hk⟩ := HV.out rfl
    obtain ⟨R, hR⟩ : ∃ R, countAbove k l b = R := ⟨_, rfl⟩
    rw [hR] at HA ⊢
    clear hR
    rw [show told true true = 0 from rfl]
    have hB2 := Lib.hid hB; clear hB hV HV
    go_enter Try.func38, Try.ntmps38
    go_wp2_with ((with_reducible show wpList _ _ _ (⟨some 10, _, _, _, _, _⟩ :: _) _ _); refine wpList_load_row rfl 29 (.tmp 2) rfl w.heap.size rfl 29 (crateCells k l) (0, 0) _ (ha1 _ _) Try.underlying29 rfl (by rw [crateCells_size, HL.out]; kernel_rfl) ?_)
    ((with_reducible refine (HC.out).mono ?_); rintro e w1 ⟨rfl, hb1⟩)
    have G1 : Hid (w1.heap[w.heap.size]? = some (.cells (crateCells k l) 29 (0, 0))) := below_heap hb1 (ha1 _ _)
    have HB : Hid (Below w.heap.size w w1) := below_step (by (repeat (first | exact Below.refl _ _ | assumption | refine below_new ?_ _ | refine below_step ?_ (by assumption) | refine Below.drew ?_ | refine below_dn ?_ _ | refine Below.setCell ?_ (by simp <;> omega) _))) hb1
    clear hb1
    have HF := Lib.hid (fruits_any w.heap.size k hk w1 ((cell_of_row _ _ _ _ _ _ G1.out).trans (crateCells_0 _ _)))
    go_wp2_with (first | (go_at_call 68; ((with_reducible refine (impl_IsPart _ _).mono ?_); rintro e w' ⟨rfl, rfl⟩; rw [hB2.out])) | (go_at_call 70; ((with_reducible refine (HF.out).mono ?_); rintro e w' ⟨rfl, m, rfl⟩)))
    have CV : Hid (∀ j, j < 16 → (w1.drewN m).cell? ⟨w.heap.size, 1 + j, none⟩ = some (.float .f32 (ix l j))) := fun j hj => (cell_of_row _ _ _ _ _ _ G1.out).trans (crateCells_at (by rw [HL.out]; exact hj))
    have HB1 : Hid (Below w.heap.size w (w1.drewN m)) := below_dn HB.out m
    clear HF HB G1 HC
    obtain ⟨W2, hW2⟩ : ∃ W2, w1.drewN m = W2 := ⟨_, rfl⟩
    rw [hW2] at CV HB1 ⊢
    clear hW2
    go_loop [6, 19] (fun c i => ∃ j : Nat, j ≤ k ∧ i = .int .i64 j ∧ c = .int .i64 (cnt b l j)) (fun c i => 16 - (intOf i).toNat)
    case atStart => exact ⟨0, by omega, rfl, rfl⟩
    case round =>
      obtain ⟨j, hj, rfl, rfl⟩ := hrel
      obtain ⟨N, hN⟩ : ∃ N, cnt b l j = N := ⟨_, rfl⟩
      have hNb := cnt_bd b l j
      rw [hN] at hNb ⊢
      have hN2 := Lib.hid hN; clear hN
      by_cases hlt : j < k
      · have cj := CV.out j (by omega)
        go_wp2
        all_goals
          go_round
          case rel => exact ⟨j + 1, by omega, by go_num, by first | (rw [cnt_yes (by simp_all [fge, ord]), hN2.out]; done) | (rw [cnt_no (by simp_all [fge, ord]), hN2.out]; done)⟩
          case measure => simp [intOf]; omega
      · have : j = k := by omega
        subst this
        go_wp2
        go_ret2
        refine ⟨?_, HB1.out⟩
        rw [HA.out]; simp [hN2.out]
  case true.false =>
    have hR : countAbove n l b = 0 := HA.out
    rw [hR, show told true false = 2 from rfl]
    have hB2 := Lib.hid hB; clear hB hV HV HA hR
    go_enter Try.func38, Try.ntmps38
    go_wp2_with ((with_reducible show wpList _ _ _ (⟨some 10, _, _, _, _, _⟩ :: _) _ _); refine wpList_load_row rfl 29 (.tmp 2) rfl w.heap.size rfl 29 (crateCells n l) (0, 0) _ (ha1 _ _) Try.underlying29 rfl (by rw [crateCells_size, HL.out]; kernel_rfl) ?_)
    ((with_reducible refine (HC.out).mono ?_); rintro e w1 ⟨rfl, hb1⟩)
    go_wp2_with (go_at_call 68; ((with_reducible refine (impl_IsPart _ _).mono ?_); rintro e w' ⟨rfl, rfl⟩; rw [hB2.out]))
    go_ret2
    refine ⟨rfl, ?_⟩; (repeat (first | exact Below.refl _ _ | assumption | refine below_new ?_ _ | refine below_step ?_ (by assumption) | refine Below.drew ?_ | refine below_dn ?_ _ | refine Below.setCell ?_ (by simp <;> omega) _))
  all_goals
    have hR : countAbove n l b = 0 := HA.out
    first | rw [hR, show told false false = 1 from rfl] | rw [hR, show told false true = 1 from rfl]
    clear hB hV HV HA hR
    go_enter Try.func38, Try.ntmps38
    go_wp2_with ((with_reducible show wpList _ _ _ (⟨some 10, _, _, _, _, _⟩ :: _) _ _); refine wpList_load_row rfl 29 (.tmp 2) rfl w.heap.size rfl 29 (crateCells n l) (0, 0) _ (ha1 _ _) Try.underlying29 rfl (by rw [crateCells_size, HL.out]; kernel_rfl) ?_)
    ((with_reducible refine (HC.out).mono ?_); rintro e w1 ⟨rfl, hb1⟩)
    go_wp2
    go_ret2
    refine ⟨rfl, ?_⟩; (repeat (first | exact Below.refl _ _ | assumption | refine below_new ?_ _ | refine below_step ?_ (by assumption) | refine Below.drew ?_ | refine below_dn ?_ _ | refine Below.setCell ?_ (by simp <;> omega) _))
end Go.Proofs.Ytldbpmpjfiglaaa
