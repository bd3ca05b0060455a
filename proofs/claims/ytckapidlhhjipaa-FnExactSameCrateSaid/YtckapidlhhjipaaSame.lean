/-
  CONTRACTS: the comparison of crates.
-/
import Derived.Test.YtckapidlhhjipaaPut
import Derived.Test.YtckapidlhhjipaaParts
set_option linter.unusedVariables false
set_option linter.unusedSimpArgs false
namespace Go.Proofs.Ytckapidlhhjipaa
open Go.RowKit Go.FV

def sameRow (l m : List Nat) : Bool := (List.range 16).all fun k => sameN (ix l k) (ix m k)
theorem sameRow_no {l m : List Nat} {k : Nat} (hk : k < 16) (h : sameN (ix l k) (ix m k) = false) : sameRow l m = false := by
  unfold sameRow
  rw [List.all_eq_false]
  exact ⟨k, by simpa using hk, by simpa using h⟩
theorem sameRow_yes {l m : List Nat} (h : ∀ k, k < 16 → sameN (ix l k) (ix m k) = true) : sameRow l m = true := by
  unfold sameRow
  rw [List.all_eq_true]
  exact fun k hk => h k (by simpa using hk)
def sameCrate (n : Int) (l : List Nat) (n' : Int) (l' : List Nat) : Bool := (n == n') && sameRow l l'

set_option maxHeartbeats 1000000 in
theorem spec_SameCrate (n : Int) (l : List Nat) (n' : Int) (l' : List Nat) (hl : l.length = 16) (hl' : l'.length = 16) (w : World) : Calls Try.prog 19 #[.agg (crateCells n l), .agg (crateCells n' l')] w (Ret (.bool (sameCrate n l n' l')) w) := by
  have HL := Lib.hid hl; clear hl
  have HL' := Lib.hid hl'; clear hl'
  obtain ⟨W, hW⟩ : ∃ W, W = (w.alloc (.cells (crateCells n l) 37)).alloc (.cells (crateCells n' l') 37) := ⟨_, rfl⟩
  have C0 : W.cell? ⟨w.heap.size, 0, none⟩ = some (.int .i8 n) := by rw [hW]; exact cell_of_row _ _ _ _ _ _ (ha2_0 _ _ _)
  have C1 : W.cell? ⟨w.heap.size + 1, 0, none⟩ = some (.int .i8 n') := by rw [hW]; exact cell_of_row _ _ _ _ _ _ (ha2_1 _ _ _)
  have CV : Hid (∀ j, j < 16 → W.cell? ⟨w.heap.size, 1 + j, none⟩ = some (.float .f32 (ix l j))) := by rw [hW]; exact fun k hk => (cell_of_row _ _ _ _ _ _ (ha2_0 _ _ _)).trans (crateCells_at (by rw [HL.out]; exact hk))
  have CV' : Hid (∀ j, j < 16 → W.cell? ⟨w.heap.size + 1, 1 + j, none⟩ = some (.float .f32 (ix l' j))) := by rw [hW]; exact fun k hk => (cell_of_row _ _ _ _ _ _ (ha2_1 _ _ _)).trans (crateCells_at (by rw [HL'.out]; exact hk))
  have HB : Hid (Below w.heap.size w W) := by rw [hW]; show Below _ _ _; (repeat (first | exact Below.refl _ _ | assumption | refine below_new ?_ _ | refine below_step ?_ (by assumption) | refine Below.drew ?_ | refine below_dn ?_ _ | refine Below.setCell ?_ (by simp <;> omega) _))
  have HA : Hid (sameCrate n l n' l' = ((n == n') && sameRow l l')) := rfl
  obtain ⟨R, hR⟩ : ∃ R, sameCrate n l n' l' = R := ⟨_, rfl⟩
  rw [hR] at HA ⊢
  clear hR
  by_cases hn : n = n'
  · subst hn
    have HW : Hid (W = (w.alloc (.cells (crateCells n l) 37)).alloc (.cells (crateCells n l') 37)) := hW
    clear hW
    go_enter Try.func19, Try.ntmps19
    go_wp2
    rw [← HW.out]
    clear HW
    go_loopw [5] (fun i wr => ∃ j : Nat, j ≤ 16 ∧ i = .int .i64 j ∧ (∀ k, k < j → sameN (ix l k) (ix l' k) = true) ∧ ∃ n, wr = W.drewN n) (fun i _ => 16 - (intOf i).toNat)
    case atStart => exact ⟨0, by omega, rfl, fun k hk => absurd hk (by omega), 0, rfl⟩
    case round =>
      obtain ⟨j, hj, rfl, hsm, hwr⟩ := hrel
      have HWR := Lib.hid hwr; clear hwr
      have HSM := Lib.hid hsm; clear hsm
      have HBr : Hid (Below w.heap.size w wr) := by
        obtain ⟨n, hn⟩ := HWR.out; rw [hn]; exact below_dn HB.out _
      by_cases hlt : j < 16
      · have ca : wr.cell? ⟨w.heap.size, 1 + j, none⟩ = some (.float .f32 (ix l j)) := by
          obtain ⟨n, hn⟩ := HWR.out; rw [hn]; exact CV.out j hlt
        have cb : wr.cell? ⟨w.heap.size + 1, 1 + j, none⟩ = some (.float .f32 (ix l' j)) := by
          obtain ⟨n, hn⟩ := HWR.out; rw [hn]; exact CV'.out j hlt
        have HQ : Hid (∀ w, Calls Try.prog 48 #[.float .f32 (ix l j), .float .f32 (ix l' j)] w fun e w' => e = .returned (.bool (sameN (ix l j) (ix l' j))) ∧ w' = w) := fun w => (spec_l01Same _ _ _).mono fun _ _ ⟨a, b⟩ => ⟨a, b.symm⟩
        obtain ⟨S, hS⟩ : ∃ S, sameN (ix l j) (ix l' j) = S := ⟨_, rfl⟩
        have HS := Lib.hid hS
        rw [hS] at HQ
        clear hS
        cases S
        · go_wp2
          go_quiet ((go_at_call 48; with_reducible exact Calls.quiet_of_same (HQ.out _)))
          go_wp2
          go_ret
          exact ⟨by rw [HA.out, sameRow_no hlt HS.out]; simp, below_dn HBr.out _⟩
        · go_wp2
          go_quiet ((go_at_call 48; with_reducible exact Calls.quiet_of_same (HQ.out _)))
          go_wp2
          go_roundw
          case rel => exact ⟨j + 1, by omega, by go_num, fun k hk => by
            by_cases e : k = j
            · subst e; exact HS.out
            · exact HSM.out k (by omega), by obtain ⟨n, hn⟩ := HWR.out; rw [hn]; exact ⟨_, by rw [World.drewN_drewN]⟩⟩
          case measure => simp [intOf]; omega
      · have : j = 16 := by omega
        subst this
        go_wp2
        go_ret
        exact ⟨by rw [HA.out, sameRow_yes HSM.out]; simp, HBr.out⟩
  · have HW : Hid (W = (w.alloc (.cells (crateCells n l) 37)).alloc (.cells (crateCells n' l') 37)) := hW
    clear hW
    have hR : R = false := by rw [HA.out]; simp [hn]
    subst hR
    go_enter Try.func19, Try.ntmps19
    go_wp2
    go_ret
    rw [← HW.out]
    exact ⟨rfl, HB.out⟩

theorem enter_SameNumber (x y : Nat) (w : World) : (callFunc 56 #[.float .f32 x, .float .f32 y]).run Try.prog w = .ok (.enter 56 #[.float .f32 x, .float .f32 y]) w := by kernel_rfl
set_option maxHeartbeats 1000000 in
theorem equalFunc16 (b b' off off' c c' : Nat) (l l' : List Nat) (w : World) (hc : ∀ j, j < 16 → w.cell? ⟨b, off + j, none⟩ = some (.float .f32 (ix l j))) (hc' : ∀ j, j < 16 → w.cell? ⟨b', off' + j, none⟩ = some (.float .f32 (ix l' j))) :
    Calls Try.prog 79 #[.slice (some ⟨b, off, none⟩) 16 c, .slice (some ⟨b', off', none⟩) 16 c', .func (.func 56) #[] #[]] w fun e w' => e = .returned (.bool (sameRow l l')) ∧ w = w' := by
  have CV := Lib.hid hc; clear hc
  have CV' := Lib.hid hc'; clear hc'
  obtain ⟨R, hR⟩ : ∃ R, sameRow l l' = R := ⟨_, rfl⟩
  have HR := Lib.hid hR
  rw [hR]
  clear hR
  go_enter Try.func79, Try.ntmps79
  go_wp2
  go_loop [17] (fun i => ∃ j : Nat, j ≤ 16 ∧ i = .int .i64 j ∧ (∀ k, k < j → sameN (ix l k) (ix l' k) = true)) (fun i => 16 - (intOf i).toNat)
  case atStart => exact ⟨0, by omega, rfl, fun k hk => absurd hk (by omega)⟩
  case round =>
    obtain ⟨j, hj, rfl, hsm⟩ := hrel
    have HSM := Lib.hid hsm; clear hsm
    by_cases hlt : j < 16
    · have ca := CV.out j hlt
      have cb := CV'.out j hlt
      have HQ := Lib.hid (impl_SameNumber (ix l j) (ix l' j))
      obtain ⟨S, hS⟩ : ∃ S, sameN (ix l j) (ix l' j) = S := ⟨_, rfl⟩
      have HS := Lib.hid hS
      rw [hS] at HQ
      clear hS
      have he := enter_SameNumber (ix l j) (ix l' j)
      cases S
      · go_wp2_with (go_at_call 56; ((with_reducible refine (HQ.out _).mono ?_); rintro e w' ⟨rfl, rfl⟩))
        go_ret
        exact ⟨by rw [← HR.out, sameRow_no hlt HS.out]; rfl, rfl⟩
      · go_wp2_with (go_at_call 56; ((with_reducible refine (HQ.out _).mono ?_); rintro e w' ⟨rfl, rfl⟩))
        go_round
        case rel => exact ⟨j + 1, by omega, by go_num, fun k hk => by
          by_cases e : k = j
          · subst e; exact HS.out
          · exact HSM.out k (by omega)⟩
        case measure => simp [intOf]; omega
    · have : j = 16 := by omega
      subst this
      go_wp2
      go_ret
      exact ⟨by rw [← HR.out, sameRow_yes HSM.out]; rfl, rfl⟩
theorem allSame16 (b b' off off' c c' : Nat) (l l' : List Nat) (w : World) (hc : ∀ j, j < 16 → w.cell? ⟨b, off + j, none⟩ = some (.float .f32 (ix l j))) (hc' : ∀ j, j < 16 → w.cell? ⟨b', off' + j, none⟩ = some (.float .f32 (ix l' j))) :
    Calls Try.prog 50 #[.slice (some ⟨b, off, none⟩) 16 c, .slice (some ⟨b', off', none⟩) 16 c'] w fun e w' => e = .returned (.bool (sameRow l l')) ∧ w = w' := by
  have HE := Lib.hid (equalFunc16 b b' off off' c c' l l' w hc hc')
  clear hc hc'
  go_enter Try.func50, Try.ntmps50
  go_wp2_with (go_at_call 79; ((with_reducible refine (HE.out).mono ?_); rintro e w' ⟨rfl, rfl⟩))
  go_ret; exact ⟨rfl, rfl⟩
theorem sl_all (b off : Nat) (W : World) : (Instr.sliceAt 33 (.pointer (some ⟨b, off, none⟩)) none none none).run Try.prog W = .ok (.slice (some ⟨b, off, none⟩) 16 16) W := by
  rw [run_sliceAt_array_all W _ _ (by rw [arrayLen16, elem16]; exact Try.underlying33), arrayLen16, elem16, Try.sizeOf22]
  simp [slicedAt, Addr.add, Result.andThen]
set_option maxRecDepth 10000 in
set_option maxHeartbeats 1000000 in
theorem impl_SameCrate (n : Int) (l : List Nat) (n' : Int) (l' : List Nat) (hl : l.length = 16) (hl' : l'.length = 16) (w : World) : Calls Try.prog 21 #[.agg (crateCells n l), .agg (crateCells n' l')] w (Ret (.bool (sameCrate n l n' l')) w) := by
  have HL := Lib.hid hl; clear hl
  have HL' := Lib.hid hl'; clear hl'
  obtain ⟨W, hW⟩ : ∃ W, W = (w.alloc (.cells (crateCells n l) 37)).alloc (.cells (crateCells n' l') 37) := ⟨_, rfl⟩
  have C0 : W.cell? ⟨w.heap.size, 0, none⟩ = some (.int .i8 n) := by rw [hW]; exact cell_of_row _ _ _ _ _ _ (ha2_0 _ _ _)
  have C1 : W.cell? ⟨w.heap.size + 1, 0, none⟩ = some (.int .i8 n') := by rw [hW]; exact cell_of_row _ _ _ _ _ _ (ha2_1 _ _ _)
  have CV : Hid (∀ j, j < 16 → W.cell? ⟨w.heap.size, 1 + j, none⟩ = some (.float .f32 (ix l j))) := by rw [hW]; exact fun k hk => (cell_of_row _ _ _ _ _ _ (ha2_0 _ _ _)).trans (crateCells_at (by rw [HL.out]; exact hk))
  have CV' : Hid (∀ j, j < 16 → W.cell? ⟨w.heap.size + 1, 1 + j, none⟩ = some (.float .f32 (ix l' j))) := by rw [hW]; exact fun k hk => (cell_of_row _ _ _ _ _ _ (ha2_1 _ _ _)).trans (crateCells_at (by rw [HL'.out]; exact hk))
  have HB : Hid (Below w.heap.size w W) := by rw [hW]; show Below _ _ _; (repeat (first | exact Below.refl _ _ | assumption | refine below_new ?_ _ | refine below_step ?_ (by assumption) | refine Below.drew ?_ | refine below_dn ?_ _ | refine Below.setCell ?_ (by simp <;> omega) _))
  have HA : Hid (sameCrate n l n' l' = ((n == n') && sameRow l l')) := rfl
  obtain ⟨R, hR⟩ : ∃ R, sameCrate n l n' l' = R := ⟨_, rfl⟩
  rw [hR] at HA ⊢
  clear hR
  have HW : Hid (W = (w.alloc (.cells (crateCells n l) 37)).alloc (.cells (crateCells n' l') 37)) := hW
  clear hW
  have s1 := sl_all w.heap.size 1
  have s2 := sl_all (w.heap.size + 1) 1
  have HQ : Hid (∀ n, Calls Try.prog 50 #[.slice (some ⟨w.heap.size, 1, none⟩) 16 16, .slice (some ⟨w.heap.size + 1, 1, none⟩) 16 16] (W.drewN n) fun e w' => e = .returned (.bool (sameRow l l')) ∧ w' = W.drewN n) := fun n => (allSame16 w.heap.size (w.heap.size + 1) 1 1 16 16 l l' (W.drewN n) CV.out CV'.out).mono fun _ _ ⟨a, b⟩ => ⟨a, b.symm⟩
  by_cases hn : n = n'
  · subst hn
    go_enter Try.func21, Try.ntmps21
    go_wp2
    rw [← HW.out]
    clear HW
    go_quiet ((go_at_call 50; with_reducible exact Calls.quiet_of_same (HQ.out _)))
    go_wp2
    go_ret
    exact ⟨by rw [HA.out]; simp, below_dn HB.out _⟩
  · have hR : R = false := by rw [HA.out]; simp [hn]
    subst hR
    go_enter Try.func21, Try.ntmps21
    go_wp2
    rw [← HW.out]
    clear HW
    go_quiet (fail)
    go_wp2
    go_ret
    exact ⟨rfl, below_dn HB.out _⟩
end Go.Proofs.Ytckapidlhhjipaa
