/-
  CONTRACTS: the comparison of gas.
-/
import Derived.Test.YtejipgofbefbjaaGas
set_option linter.unusedVariables false
set_option linter.unusedSimpArgs false
namespace Go.Proofs.Ytejipgofbefbjaa
open Go.RowKit Go.FV

def same6 (l m : List Nat) : Bool := (List.range 6).all fun k => sameN (ix l k) (ix m k)
theorem same6_no {l m : List Nat} {k : Nat} (hk : k < 6) (h : sameN (ix l k) (ix m k) = false) : same6 l m = false := by
  unfold same6
  rw [List.all_eq_false]
  exact ⟨k, by simpa using hk, by simpa using h⟩
theorem same6_yes {l m : List Nat} (h : ∀ k, k < 6 → sameN (ix l k) (ix m k) = true) : same6 l m = true := by
  unfold same6
  rw [List.all_eq_true]
  exact fun k hk => h k (by simpa using hk)
def sameGas (l m : List Nat) : Bool := (List.range 6).all fun y => same6 (rowG l y) (rowG m y)
theorem sameGas_no {l m : List Nat} {k : Nat} (hk : k < 6) (h : same6 (rowG l k) (rowG m k) = false) : sameGas l m = false := by
  unfold sameGas
  rw [List.all_eq_false]
  exact ⟨k, by simpa using hk, by simpa using h⟩
theorem sameGas_yes {l m : List Nat} (h : ∀ k, k < 6 → same6 (rowG l k) (rowG m k) = true) : sameGas l m = true := by
  unfold sameGas
  rw [List.all_eq_true]
  exact fun k hk => h k (by simpa using hk)
theorem enter_SameNumber (x y : Nat) (w : World) : (callFunc 48 #[.float .f32 x, .float .f32 y]).run Try.prog w = .ok (.enter 48 #[.float .f32 x, .float .f32 y]) w := by kernel_rfl
set_option maxHeartbeats 1000000 in
theorem equalFunc6 (b b' off off' c c' : Nat) (l l' : List Nat) (w : World) (hc : ∀ j, j < 6 → w.cell? ⟨b, off + j, none⟩ = some (.float .f32 (ix l j))) (hc' : ∀ j, j < 6 → w.cell? ⟨b', off' + j, none⟩ = some (.float .f32 (ix l' j))) :
    Calls Try.prog 69 #[.slice (some ⟨b, off, none⟩) 6 c, .slice (some ⟨b', off', none⟩) 6 c', .func (.func 48) #[] #[]] w fun e w' => e = .returned (.bool (same6 l l')) ∧ w = w' := by
  have CV := Lib.hid hc; clear hc
  have CV' := Lib.hid hc'; clear hc'
  obtain ⟨R, hR⟩ : ∃ R, same6 l l' = R := ⟨_, rfl⟩
  have HR := Lib.hid hR
  rw [hR]
  clear hR
  go_enter Try.func69, Try.ntmps69
  go_wp2
  go_loop [17] (fun i => ∃ j : Nat, j ≤ 6 ∧ i = .int .i64 j ∧ (∀ k, k < j → sameN (ix l k) (ix l' k) = true)) (fun i => 6 - (intOf i).toNat)
  case atStart => exact ⟨0, by omega, rfl, fun k hk => absurd hk (by omega)⟩
  case round =>
    obtain ⟨j, hj, rfl, hsm⟩ := hrel
    have HSM := Lib.hid hsm; clear hsm
    by_cases hlt : j < 6
    · have ca := CV.out j hlt
      have cb := CV'.out j hlt
      have HQ := Lib.hid (impl_SameNumber (ix l j) (ix l' j))
      obtain ⟨S, hS⟩ : ∃ S, sameN (ix l j) (ix l' j) = S := ⟨_, rfl⟩
      have HS := Lib.hid hS
      rw [hS] at HQ
      clear hS
      have he := enter_SameNumber (ix l j) (ix l' j)
      cases S
      · go_wp2_with (go_at_call 48; ((with_reducible refine (HQ.out _).mono ?_); rintro e w' ⟨rfl, rfl⟩))
        go_ret
        exact ⟨by rw [← HR.out, same6_no hlt HS.out]; rfl, rfl⟩
      · go_wp2_with (go_at_call 48; ((with_reducible refine (HQ.out _).mono ?_); rintro e w' ⟨rfl, rfl⟩))
        go_round
        case rel => exact ⟨j + 1, by omega, by go_num, fun k hk => by
          by_cases e : k = j
          · subst e; exact HS.out
          · exact HSM.out k (by omega)⟩
        case measure => simp [intOf]; omega
    · have : j = 6 := by omega
      subst this
      go_wp2
      go_ret
      exact ⟨by rw [← HR.out, same6_yes HSM.out]; rfl, rfl⟩
theorem allSame6 (b b' off off' c c' : Nat) (l l' : List Nat) (w : World) (hc : ∀ j, j < 6 → w.cell? ⟨b, off + j, none⟩ = some (.float .f32 (ix l j))) (hc' : ∀ j, j < 6 → w.cell? ⟨b', off' + j, none⟩ = some (.float .f32 (ix l' j))) :
    Calls Try.prog 42 #[.slice (some ⟨b, off, none⟩) 6 c, .slice (some ⟨b', off', none⟩) 6 c'] w fun e w' => e = .returned (.bool (same6 l l')) ∧ w = w' := by
  have HE := Lib.hid (equalFunc6 b b' off off' c c' l l' w hc hc')
  clear hc hc'
  go_enter Try.func42, Try.ntmps42
  go_wp2_with (go_at_call 69; ((with_reducible refine (HE.out).mono ?_); rintro e w' ⟨rfl, rfl⟩))
  go_ret; exact ⟨rfl, rfl⟩
theorem arrayLen6 : Try.prog.arrayLen 23 = 6 := by kernel_rfl
theorem elem6 : Try.prog.elem 23 = 22 := by kernel_rfl
theorem sl_all6 (b off : Nat) (W : World) : (Instr.sliceAt 23 (.pointer (some ⟨b, off, none⟩)) none none none).run Try.prog W = .ok (.slice (some ⟨b, off, none⟩) 6 6) W := by
  rw [run_sliceAt_array_all W _ _ (by rw [arrayLen6, elem6]; exact Try.underlying23), arrayLen6, elem6, Try.sizeOf22]
  simp [slicedAt, Addr.add, Result.andThen]
set_option maxRecDepth 10000 in
set_option maxHeartbeats 1000000 in
theorem impl_SameGas (l l' : List Nat) (hl : l.length = 36) (hl' : l'.length = 36) (w : World) : Calls Try.prog 15 #[.agg (flCells l), .agg (flCells l')] w (Ret (.bool (sameGas l l')) w) := by
  have HL := Lib.hid hl; clear hl
  have HL' := Lib.hid hl'; clear hl'
  obtain ⟨W, hW⟩ : ∃ W, W = (w.alloc (.cells (flCells l) 26)).alloc (.cells (flCells l') 26) := ⟨_, rfl⟩
  have CV : Hid (∀ j, j < 36 → W.cell? ⟨w.heap.size, j, none⟩ = some (.float .f32 (ix l j))) := by rw [hW]; exact fun k hk => (cell_of_row _ _ _ _ _ _ (ha2_0 _ _ _)).trans (flCells_at (by rw [HL.out]; exact hk))
  have CV' : Hid (∀ j, j < 36 → W.cell? ⟨w.heap.size + 1, j, none⟩ = some (.float .f32 (ix l' j))) := by rw [hW]; exact fun k hk => (cell_of_row _ _ _ _ _ _ (ha2_1 _ _ _)).trans (flCells_at (by rw [HL'.out]; exact hk))
  have HB : Hid (Below w.heap.size w W) := by rw [hW]; show Below _ _ _; (repeat (first | exact Below.refl _ _ | assumption | refine below_new ?_ _ | refine below_step ?_ (by assumption) | refine Below.drew ?_ | refine below_dn ?_ _ | refine Below.setCell ?_ (by simp <;> omega) _))
  have HW := Lib.hid hW
  clear hW
  have HN := Lib.hid (fun k => @sameGas_no l l' k)
  have HY := Lib.hid (@sameGas_yes l l')
  obtain ⟨R, hR⟩ : ∃ R, sameGas l l' = R := ⟨_, rfl⟩
  rw [hR] at HN HY
  rw [hR]
  clear hR
  go_enter Try.func15, Try.ntmps15
  go_wp2
  rw [← HW.out]
  clear HW
  go_loopw [6] (fun i wr => ∃ j : Nat, j ≤ 6 ∧ i = .int .i64 j ∧ (∀ k, k < j → same6 (rowG l k) (rowG l' k) = true) ∧ ∃ n, wr = W.drewN n) (fun i _ => 6 - (intOf i).toNat)
  case atStart => exact ⟨0, by omega, rfl, fun k hk => absurd hk (by omega), 0, rfl⟩
  case round =>
    obtain ⟨j, hj, rfl, hsm, hwr⟩ := hrel
    have HWR := Lib.hid hwr; clear hwr
    have HSM := Lib.hid hsm; clear hsm
    have HBr : Hid (Below w.heap.size w wr) := by
      obtain ⟨n, hn⟩ := HWR.out; rw [hn]; exact below_dn HB.out _
    by_cases hlt : j < 6
    · have s1 := sl_all6 w.heap.size (j * 6)
      have s2 := sl_all6 (w.heap.size + 1) (j * 6)
      have HQ : Hid (∀ n, Calls Try.prog 42 #[.slice (some ⟨w.heap.size, j * 6, none⟩) 6 6, .slice (some ⟨w.heap.size + 1, j * 6, none⟩) 6 6] (wr.drewN n) fun e w' => e = .returned (.bool (same6 (rowG l j) (rowG l' j))) ∧ w' = wr.drewN n) := fun n => (allSame6 w.heap.size (w.heap.size + 1) (j * 6) (j * 6) 6 6 (rowG l j) (rowG l' j) (wr.drewN n)
        (fun x hx => by obtain ⟨q, hq⟩ := HWR.out; rw [hq, rowG_ix hx]; exact CV.out _ (by omega)) (fun x hx => by obtain ⟨q, hq⟩ := HWR.out; rw [hq, rowG_ix hx]; exact CV'.out _ (by omega))).mono fun _ _ ⟨a, b⟩ => ⟨a, b.symm⟩
      cases hS : same6 (rowG l j) (rowG l' j)
      · rw [hS] at HQ
        have e := Lib.hid (HN.out j hlt hS)
        clear hS
        go_wp2
        go_quiet ((go_at_call 42; with_reducible exact Calls.quiet_of_same (HQ.out _)))
        go_wp2
        go_ret
        exact ⟨by rw [e.out]; rfl, below_dn HBr.out _⟩
      · rw [hS] at HQ
        have e := Lib.hid hS
        clear hS
        go_wp2
        go_quiet ((go_at_call 42; with_reducible exact Calls.quiet_of_same (HQ.out _)))
        go_wp2
        go_roundw
        case rel => exact ⟨j + 1, by omega, by go_num, fun k hk => by
          by_cases e' : k = j
          · subst e'; exact e.out
          · exact HSM.out k (by omega), by obtain ⟨n, hn⟩ := HWR.out; rw [hn]; exact ⟨_, by rw [World.drewN_drewN]⟩⟩
        case measure => simp [intOf]; omega
    · have : j = 6 := by omega
      subst this
      have e := Lib.hid (HY.out HSM.out)
      go_wp2
      go_ret
      exact ⟨by rw [e.out]; rfl, HBr.out⟩
set_option maxRecDepth 10000 in
set_option maxHeartbeats 1000000 in
theorem spec_SameGas (l l' : List Nat) (hl : l.length = 36) (hl' : l'.length = 36) (w : World) : Calls Try.prog 13 #[.agg (flCells l), .agg (flCells l')] w (Ret (.bool (sameGas l l')) w) := by
  have HL := Lib.hid hl; clear hl
  have HL' := Lib.hid hl'; clear hl'
  obtain ⟨W, hW⟩ : ∃ W, W = (w.alloc (.cells (flCells l) 26)).alloc (.cells (flCells l') 26) := ⟨_, rfl⟩
  have CV : Hid (∀ j, j < 36 → W.cell? ⟨w.heap.size, j, none⟩ = some (.float .f32 (ix l j))) := by rw [hW]; exact fun k hk => (cell_of_row _ _ _ _ _ _ (ha2_0 _ _ _)).trans (flCells_at (by rw [HL.out]; exact hk))
  have CV' : Hid (∀ j, j < 36 → W.cell? ⟨w.heap.size + 1, j, none⟩ = some (.float .f32 (ix l' j))) := by rw [hW]; exact fun k hk => (cell_of_row _ _ _ _ _ _ (ha2_1 _ _ _)).trans (flCells_at (by rw [HL'.out]; exact hk))
  have HB : Hid (Below w.heap.size w W) := by rw [hW]; show Below _ _ _; (repeat (first | exact Below.refl _ _ | assumption | refine below_new ?_ _ | refine below_step ?_ (by assumption) | refine Below.drew ?_ | refine below_dn ?_ _ | refine Below.setCell ?_ (by simp <;> omega) _))
  have HW := Lib.hid hW
  clear hW
  have HN := Lib.hid (fun k => @sameGas_no l l' k)
  have HY := Lib.hid (@sameGas_yes l l')
  obtain ⟨R, hR⟩ : ∃ R, sameGas l l' = R := ⟨_, rfl⟩
  rw [hR] at HN HY
  rw [hR]
  clear hR
  go_enter Try.func13, Try.ntmps13
  go_wp2
  rw [← HW.out]
  clear HW
  go_loopw [5] (fun i wr => ∃ j : Nat, j ≤ 6 ∧ i = .int .i64 j ∧ (∀ k, k < j → same6 (rowG l k) (rowG l' k) = true) ∧ ∃ n, wr = W.drewN n) (fun i _ => 6 - (intOf i).toNat)
  case atStart => exact ⟨0, by omega, rfl, fun k hk => absurd hk (by omega), 0, rfl⟩
  case round =>
    obtain ⟨y, hy, rfl, hsm, hwr⟩ := hrel
    have HWR := Lib.hid hwr; clear hwr
    have HSM := Lib.hid hsm; clear hsm
    have HBr : Hid (Below w.heap.size w wr) := by
      obtain ⟨n, hn⟩ := HWR.out; rw [hn]; exact below_dn HB.out _
    by_cases hlt : y < 6
    · have HNy := Lib.hid (HN.out y hlt)
      have H6N := Lib.hid (fun k => @same6_no (rowG l y) (rowG l' y) k)
      have H6Y := Lib.hid (@same6_yes (rowG l y) (rowG l' y))
      go_wp2
      go_loopw [6] (fun i wr => ∃ j : Nat, j ≤ 6 ∧ i = .int .i64 j ∧ (∀ k, k < j → sameN (ix (rowG l y) k) (ix (rowG l' y) k) = true) ∧ ∃ n, wr = W.drewN n) (fun i _ => 6 - (intOf i).toNat)
      case atStart => exact ⟨0, by omega, rfl, fun k hk => absurd hk (by omega), HWR.out⟩
      case round =>
        obtain ⟨j, hj, rfl, hsm2, hwr2⟩ := hrel
        clear HWR HBr
        have HWR := Lib.hid hwr2; clear hwr2
        have HSM2 := Lib.hid hsm2; clear hsm2
        have HBr : Hid (Below w.heap.size w wr) := by
          obtain ⟨n, hn⟩ := HWR.out; rw [hn]; exact below_dn HB.out _
        by_cases hlt2 : j < 6
        · have ca : wr.cell? ⟨w.heap.size, y * 6 + j, none⟩ = some (.float .f32 (ix (rowG l y) j)) := by
            obtain ⟨n, hn⟩ := HWR.out; rw [hn, rowG_ix hlt2]; exact CV.out _ (by omega)
          have cb : wr.cell? ⟨w.heap.size + 1, y * 6 + j, none⟩ = some (.float .f32 (ix (rowG l' y) j)) := by
            obtain ⟨n, hn⟩ := HWR.out; rw [hn, rowG_ix hlt2]; exact CV'.out _ (by omega)
          have HQ : Hid (∀ w, Calls Try.prog 40 #[.float .f32 (ix (rowG l y) j), .float .f32 (ix (rowG l' y) j)] w fun e w' => e = .returned (.bool (sameN (ix (rowG l y) j) (ix (rowG l' y) j))) ∧ w' = w) := fun w => (spec_l01Same _ _ _).mono fun _ _ ⟨a, b⟩ => ⟨a, b.symm⟩
          cases hS : sameN (ix (rowG l y) j) (ix (rowG l' y) j)
          · rw [hS] at HQ
            have e := Lib.hid (HNy.out (H6N.out j hlt2 hS))
            clear hS
            go_wp2
            go_quiet ((go_at_call 40; with_reducible exact Calls.quiet_of_same (HQ.out _)))
            go_wp2
            go_ret
            exact ⟨by rw [e.out]; rfl, below_dn HBr.out _⟩
          · rw [hS] at HQ
            have e := Lib.hid hS
            clear hS
            go_wp2
            go_quiet ((go_at_call 40; with_reducible exact Calls.quiet_of_same (HQ.out _)))
            go_wp2
            go_roundw
            case rel => exact ⟨j + 1, by omega, by go_num, fun k hk => by
              by_cases e' : k = j
              · subst e'; exact e.out
              · exact HSM2.out k (by omega), by obtain ⟨n, hn⟩ := HWR.out; rw [hn]; exact ⟨_, by rw [World.drewN_drewN]⟩⟩
            case measure => simp [intOf]; omega
        · have : j = 6 := by omega
          subst this
          have e := Lib.hid (H6Y.out HSM2.out)
          go_wp2
          go_roundw
          case rel => exact ⟨y + 1, by omega, by go_num, fun k hk => by
            by_cases e' : k = y
            · subst e'; exact e.out
            · exact HSM.out k (by omega), HWR.out⟩
          case measure => simp [intOf]; omega
    · have : y = 6 := by omega
      subst this
      have e := Lib.hid (HY.out HSM.out)
      go_wp2
      go_ret
      exact ⟨by rw [e.out]; rfl, HBr.out⟩
end Go.Proofs.Ytejipgofbefbjaa
