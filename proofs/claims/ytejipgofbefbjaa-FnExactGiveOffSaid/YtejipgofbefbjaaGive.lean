/-
  CONTRACTS: crates give off gas; gas compared with itself.
-/
import Derived.Test.YtejipgofbefbjaaAirAt
import Derived.Deep.RegionHeld3
set_option linter.unusedVariables false
set_option linter.unusedSimpArgs false
namespace Go.FL
open Ieee
theorem order_one {a : Nat} (h : fin a) : single.order 1065353216 a = some (compare (sv 1065353216) (sv a)) ∧ single.order a 1065353216 = some (compare (sv a) (sv 1065353216)) :=
  ⟨order_fin (by decide) h.1, order_fin h.1 (by decide)⟩
theorem one_pos {a : Nat} (h : fin a) (he : sv 1065353216 = sv a) : a = 1065353216 := by
  have h1 : sv 1065353216 = (rv 1065353216 : Int) := by
    have hs : sg 1065353216 = false := by decide
    have hr : rg 1065353216 = 1065353216 := by decide
    rw [sv_nonneg hs, hr]
  have hpos : 0 < rv 1065353216 := by rw [rv_one]; exact Nat.two_pow_pos _
  have hs : sg a = false := by
    cases q : sg a
    · rfl
    · have := sv_neg q; omega
  exact eq_of_sv h ⟨by decide, by decide⟩ he.symm (by rw [hs]; decide)
theorem upto_32 : upto 1 1023410176 := by
  refine ⟨⟨by decide, by decide⟩, by rw [sv_nonneg (by decide)]; omega, ?_⟩
  rw [sv_nonneg (by decide), show rg 1023410176 = 1023410176 by decide]
  have := rv_mono (show 1023410176 ≤ 1065353216 by omega)
  rw [rv_one] at this; omega
end Go.FL
namespace Go.Proofs.Ytejipgofbefbjaa
open Go.RowKit Go.FV

/-- At most one. -/
def capW (a : Nat) : Nat := if fgt a 1065353216 then 1065353216 else a
theorem run_min1 {a : Nat} (h : FL.fin a) (ts : Array TypeId) (t : TypeId) (w : World) : (Builtin.min_ ts t #[.float .f32 1065353216, .float .f32 a]).run Try.prog w = .ok (.float .f32 (capW a)) w := by
  obtain ⟨e1, e2⟩ := FL.order_one h
  have f1 : FloatKind.f32.format.order 1065353216 a = some (compare (FL.sv 1065353216) (FL.sv a)) := e1
  have hc : fgt a 1065353216 = (compare (FL.sv a) (FL.sv 1065353216) == .gt) := by
    unfold fgt ord
    rw [show FloatKind.f32.format = Ieee.single from rfl, e2]
    rcases compare (FL.sv a) (FL.sv 1065353216) with _ | _ | _ <;> rfl
  unfold capW
  rw [hc]
  rcases Int.lt_trichotomy (FL.sv 1065353216) (FL.sv a) with h1 | h1 | h1
  · have c1 : compare (FL.sv 1065353216) (FL.sv a) = .lt := by simp [compare, compareOfLessAndEq, h1]
    have c2 : compare (FL.sv a) (FL.sv 1065353216) = .gt := by show compareOfLessAndEq _ _ = _; unfold compareOfLessAndEq; rw [if_neg (by omega), if_neg (by omega)]
    rw [c1] at f1
    rw [c2]
    simp [Builtin.min_, Builtin.min2, f1]
  · have hA := FL.one_pos h h1
    have c1 : compare (FL.sv 1065353216) (FL.sv a) = .eq := by simp [compare, compareOfLessAndEq, h1]
    have c2 : compare (FL.sv a) (FL.sv 1065353216) = .eq := by simp [compare, compareOfLessAndEq, h1]
    rw [c1] at f1
    rw [c2]
    have hneg : (FloatKind.f32.decode 1065353216).neg = false := by decide
    simp [Builtin.min_, Builtin.min2, f1, hneg]
  · have c1 : compare (FL.sv 1065353216) (FL.sv a) = .gt := by show compareOfLessAndEq _ _ = _; unfold compareOfLessAndEq; rw [if_neg (by omega), if_neg (by omega)]
    have c2 : compare (FL.sv a) (FL.sv 1065353216) = .lt := by simp [compare, compareOfLessAndEq, h1]
    rw [c1] at f1
    rw [c2]
    simp [Builtin.min_, Builtin.min2, f1]
theorem capW_fin {a : Nat} (h : FL.fin a) : FL.fin (capW a) := by
  unfold capW; split
  · exact ⟨by decide, by decide⟩
  · exact h
/-- What the first fruits give off. -/
def giveS (c : List Nat) : Nat → Nat
  | 0 => 0
  | k + 1 => addW (giveS c k) (mulW (ix c k) 1023410176)
theorem giveS_ok {c : List Nat} {n : Nat} (h : ∀ j, j < n → FL.upto 1 (ix c j)) (hn : n ≤ 16) : ∀ k, k ≤ n → FL.upto k (giveS c k)
  | 0, _ => (⟨⟨by decide, by decide⟩, by decide, by rw [show FL.sv 0 = 0 by decide]; omega⟩ : FL.upto 0 0)
  | k + 1, hk => (addW_spec (giveS_ok h hn k (by omega)) (mulW_spec (h k (by omega)) FL.upto_32 (by omega)).2 (by omega)).2
def giveV (l c : List Nat) (i n : Nat) : Nat := capW (addW (ix l i) (giveS c n))
def giveL (l c : List Nat) (i n : Nat) : List Nat := l.set i (giveV l c i n)
theorem giveL_len {l : List Nat} (h : l.length = 36) (c : List Nat) (i n : Nat) : (giveL l c i n).length = 36 := by unfold giveL; rw [List.length_set, h]
theorem giveL_fin {l c : List Nat} {i n : Nat} (hl : l.length = 36) (hu : ∀ j, j < 36 → FL.upto 1 (ix l j)) (hc : ∀ j, j < n → FL.upto 1 (ix c j)) (hn : n ≤ 16) (hi : i < 36) (j : Nat) (hj : j < 36) : FL.fin (ix (giveL l c i n) j) := by
  unfold giveL
  rw [ix_set (by omega)]
  split
  · exact capW_fin (addW_spec (hu i hi) (giveS_ok hc hn n (Nat.le_refl _)) (by omega)).2.1
  · exact (hu j hj).1
set_option maxRecDepth 100000 in
set_option maxHeartbeats 1000000 in
theorem l02Give_any (l : List Nat) (hl : l.length = 36) (X Y : Nat) (hX : X < 6) (hY : Y < 6) (hu : ∀ j, j < 36 → FL.upto 1 (ix l j)) (C n : Nat) (hn : n ≤ 16) (c : List Nat) (hc : ∀ j, j < n → FL.upto 1 (ix c j)) (w : World) (hC : C < w.heap.size)
    (d0 : w.cell? ⟨C, 0, none⟩ = some (.int .i8 n)) (dv : ∀ k, k < 16 → w.cell? ⟨C, 1 + k, none⟩ = some (.float .f32 (ix c k))) :
    Calls Try.prog 53 #[.agg (flCells l), .int .i64 X, .int .i64 Y, .pointer (some ⟨C, 0, none⟩)] w (Ret (.agg (flCells (giveL l c (Y * 6 + X) n))) w) := by
  have HL := Lib.hid hl
  have HS := Lib.hid (fun k (hk : k < n) t => run_addW (giveS_ok hc hn k (by omega)) (mulW_spec (hc k hk) FL.upto_32 (by omega)).2 (by omega) t)
  have HM := Lib.hid (fun k (hk : k < n) t => run_mulW (hc k hk) FL.upto_32 (by omega) t)
  have hA := Lib.hid (fun t => run_addW (hu (Y * 6 + X) (by omega)) (giveS_ok hc hn n (Nat.le_refl _)) (by omega) t)
  have hV : Hid (giveL l c (Y * 6 + X) n = l.set (Y * 6 + X) (capW (addW (ix l (Y * 6 + X)) (giveS c n)))) := rfl
  rw [hV.out]
  obtain ⟨S, hS⟩ : ∃ S : Nat → Nat, ∀ k, giveS c k = S k := ⟨_, fun _ => rfl⟩
  have hst : Hid (∀ k, addW (S k) (mulW (ix c k) 1023410176) = S (k + 1)) := fun k => by rw [← hS, ← hS]; rfl
  have hs0 : Hid (S 0 = 0) := (hS 0).symm
  simp only [hS, hst.out] at HS hA
  rw [hS]
  obtain ⟨O, hO⟩ : ∃ O, addW (ix l (Y * 6 + X)) (S n) = O := ⟨_, rfl⟩
  rw [hO] at hA
  rw [hO]
  obtain ⟨W, hW⟩ : ∃ W, W = (w.alloc (.cells (flCells l) 26)).alloc (.cells (flCells zero36) 26) := ⟨_, rfl⟩
  have G0 : Hid (W.heap[w.heap.size]? = some (.cells (flCells l) 26 (0, 0))) := by rw [hW]; exact ha2_0 _ _ _
  have G1 : Hid (W.heap[w.heap.size + 1]? = some (.cells (flCells zero36) 26 (0, 0))) := by rw [hW]; exact ha2_1 _ _ _
  have HB : Hid (Below w.heap.size w W) := by rw [hW]; show Below _ _ _; (repeat (first | exact Below.refl _ _ | assumption | refine below_new ?_ _ | refine below_step ?_ (by assumption) | refine Below.drew ?_ | refine below_dn ?_ _ | refine Below.setCell ?_ (by simp <;> omega) _))
  have D0 : W.cell? ⟨C, 0, none⟩ = some (.int .i8 n) := (HB.out.cell (p := ⟨C, 0, none⟩) hC).trans d0
  have DV : Hid (∀ k, k < 16 → W.cell? ⟨C, 1 + k, none⟩ = some (.float .f32 (ix c k))) := fun k hk => (HB.out.cell (p := ⟨C, 1 + k, none⟩) hC).trans (dv k hk)
  have HW := Lib.hid hW
  clear hW d0 dv hu hc hS hO hV hst
  go_enter Try.func53, Try.ntmps53
  go_wp2_with fail
  rw [show (#[.float .f32 0, .float .f32 0, .float .f32 0, .float .f32 0, .float .f32 0, .float .f32 0, .float .f32 0, .float .f32 0, .float .f32 0, .float .f32 0, .float .f32 0, .float .f32 0, .float .f32 0, .float .f32 0, .float .f32 0, .float .f32 0, .float .f32 0, .float .f32 0, .float .f32 0, .float .f32 0, .float .f32 0, .float .f32 0, .float .f32 0, .float .f32 0, .float .f32 0, .float .f32 0, .float .f32 0, .float .f32 0, .float .f32 0, .float .f32 0, .float .f32 0, .float .f32 0, .float .f32 0, .float .f32 0, .float .f32 0, .float .f32 0] : Array Value) = flCells zero36 from rfl, ← HW.out]
  clear HW
  go_loop [9, 10] (fun s i => ∃ k : Nat, k ≤ n ∧ i = .int .i64 k ∧ s = .float .f32 (S k)) (fun _ i => 16 - (intOf i).toNat)
  case atStart => exact ⟨0, by omega, rfl, by rw [hs0.out]⟩
  case round =>
    obtain ⟨k, hk, rfl, rfl⟩ := hrel
    by_cases hlt : k < n
    · have ck := DV.out k (by omega)
      have r1 := HM.out k hlt 22
      have r2 := HS.out k hlt 22
      go_wp2
      go_round
      case rel => exact ⟨k + 1, by omega, by go_num, rfl⟩
      case measure => simp [intOf]; omega
    · have : k = n := by omega
      subst this
      have ca : W.cell? ⟨w.heap.size, Y * 6 + X, none⟩ = some (.float .f32 (ix l (Y * 6 + X))) := (cell_of_row _ _ _ _ _ _ G0.out).trans (flCells_at (by rw [HL.out]; omega))
      have fa : W.frozen? ⟨w.heap.size, Y * 6 + X, none⟩ = false := frozen_of_row _ _ _ _ _ G0.out
      have r3 := hA.out 22
      have i1 : (X : Int) < 6 := by omega
      have i2 : (Y : Int) < 6 := by omega
      have HN : Hid (∀ v, (W.setCell ⟨w.heap.size, Y * 6 + X, none⟩ (.float .f32 v)).heap[w.heap.size]? = some (.cells (flCells (l.set (Y * 6 + X) v)) 26 (0, 0))) := fun v => by rw [heap_setCell_same _ _ _ _ _ _ G0.out, flCells_set]
      have HN1 : Hid (∀ v, (W.setCell ⟨w.heap.size, Y * 6 + X, none⟩ (.float .f32 v)).heap[w.heap.size + 1]? = some (.cells (flCells zero36) 26 (0, 0))) := fun v => by rw [heap_setCell_other _ _ _ _ (by simp)]; exact G1.out
      have HLS : Hid (∀ v, (l.set (Y * 6 + X) v).length = 36) := fun v => by rw [List.length_set, HL.out]
      cases q : fgt O 1065353216
      all_goals
        have e : Hid (capW O = if fgt O 1065353216 then 1065353216 else O) := rfl
        rw [q] at e
        simp only [Bool.false_eq_true, ↓reduceIte] at e
        have e := Lib.hid e
        unfold fgt at q
        go_wp2_with (first
          | ((with_reducible show wpList _ _ _ (⟨some 44, _, _, _, _, _⟩ :: _) _ _); refine wpList_load_row rfl 26 (.tmp 4) rfl w.heap.size rfl 26 (flCells _) (0, 0) _ (HN.out _) Try.underlying26 rfl (by rw [flCells_size, HLS.out]; kernel_rfl) ?_)
          | ((with_reducible show wpList _ _ _ (⟨none, .store _ (.tmp 8) _, _, _, _, _⟩ :: _) _ _); refine wpList_store_row rfl 26 (.tmp 8) _ rfl (w.heap.size + 1) (flCells _) rfl rfl 26 (flCells zero36) (HN1.out _) (by rw [flCells_size, HLS.out]; kernel_rfl) (by rw [flCells_size, flCells_size, HLS.out]; rfl) (fl_oneCell _) ?_))
        exact bodyPost_ret (results_cell_row rfl _ _ (w.heap.size + 1) 26 (flCells _) (0, 0) _ rfl (setRow_heap _ _ _ _ _ _ (HN1.out _)) Try.underlying26 rfl (by rw [flCells_size, HLS.out]; kernel_rfl)) rfl ⟨by rw [e.out], below_setRow (Below.setCell HB.out (by simp) _) (by omega) _⟩
set_option maxRecDepth 100000 in
set_option maxHeartbeats 2000000 in
theorem give_any (l : List Nat) (hl : l.length = 36) (X Y : Nat) (hX : X < 6) (hY : Y < 6) (hu : ∀ j, j < 36 → FL.upto 1 (ix l j)) (n : Nat) (hn : n ≤ 16) (c : List Nat) (hcl : c.length = 16) (hc : ∀ j, j < n → FL.upto 1 (ix c j)) (w : World) :
    Calls Try.prog 56 #[.agg (flCells l), .int .i64 X, .int .i64 Y, .agg (crateCells n c)] w (Ret (.agg (flCells (giveL l c (Y * 6 + X) n))) w) := by
  have HL := Lib.hid hl
  have HS := Lib.hid (fun k (hk : k < n) t => run_addW (giveS_ok hc hn k (by omega)) (mulW_spec (hc k hk) FL.upto_32 (by omega)).2 (by omega) t)
  have HM := Lib.hid (fun k (hk : k < n) t => run_mulW (hc k hk) FL.upto_32 (by omega) t)
  have hA := Lib.hid (fun t => run_addW (hu (Y * 6 + X) (by omega)) (giveS_ok hc hn n (Nat.le_refl _)) (by omega) t)
  have hMin := Lib.hid (fun ts t w => run_min1 (addW_spec (hu (Y * 6 + X) (by omega)) (giveS_ok hc hn n (Nat.le_refl _)) (by omega)).2.1 ts t w)
  have hV : Hid (giveL l c (Y * 6 + X) n = l.set (Y * 6 + X) (capW (addW (ix l (Y * 6 + X)) (giveS c n)))) := rfl
  rw [hV.out]
  obtain ⟨S, hS⟩ : ∃ S : Nat → Nat, ∀ k, giveS c k = S k := ⟨_, fun _ => rfl⟩
  have hst : Hid (∀ k, addW (S k) (mulW (ix c k) 1023410176) = S (k + 1)) := fun k => by rw [← hS, ← hS]; rfl
  have hs0 : Hid (S 0 = 0) := (hS 0).symm
  simp only [hS, hst.out] at HS hA hMin
  rw [hS]
  obtain ⟨O, hO⟩ : ∃ O, addW (ix l (Y * 6 + X)) (S n) = O := ⟨_, rfl⟩
  rw [hO] at hA
  simp only [hO] at hMin
  rw [hO]
  obtain ⟨V, hVV⟩ : ∃ V, capW O = V := ⟨_, rfl⟩
  simp only [hVV] at hMin
  rw [hVV]
  obtain ⟨W, hW⟩ : ∃ W, W = ((w.alloc (.cells (flCells l) 26)).alloc (.cells (crateCells n c) 54)).alloc (.cells (flCells zero36) 26) := ⟨_, rfl⟩
  have G0 : Hid (W.heap[w.heap.size]? = some (.cells (flCells l) 26 (0, 0))) := by rw [hW]; exact ha3_0 _ _ _ _
  have GC : Hid (W.heap[w.heap.size + 1]? = some (.cells (crateCells n c) 54 (0, 0))) := by rw [hW]; exact ha3_1 _ _ _ _
  have G1 : Hid (W.heap[w.heap.size + 1 + 1]? = some (.cells (flCells zero36) 26 (0, 0))) := by rw [hW]; exact ha3_2 _ _ _ _
  have HB : Hid (Below w.heap.size w W) := by rw [hW]; show Below _ _ _; (repeat (first | exact Below.refl _ _ | assumption | refine below_new ?_ _ | refine below_step ?_ (by assumption) | refine Below.drew ?_ | refine below_dn ?_ _ | refine Below.setCell ?_ (by simp <;> omega) _))
  have F0 := Lib.hid (fruits_any (w.heap.size + 1) n hn W ((cell_of_row _ _ _ _ _ _ GC.out).trans (crateCells_0 _ _)))
  have DV : Hid (∀ k, k < 16 → W.cell? ⟨w.heap.size + 1, 1 + k, none⟩ = some (.float .f32 (ix c k))) := fun k hk => (cell_of_row _ _ _ _ _ _ GC.out).trans (crateCells_at (by rw [hcl]; exact hk))
  have HW := Lib.hid hW
  clear hW hu hc hS hO hV hst hVV GC
  go_enter Try.func56, Try.ntmps56
  go_wp2_with fail
  rw [show (#[.float .f32 0, .float .f32 0, .float .f32 0, .float .f32 0, .float .f32 0, .float .f32 0, .float .f32 0, .float .f32 0, .float .f32 0, .float .f32 0, .float .f32 0, .float .f32 0, .float .f32 0, .float .f32 0, .float .f32 0, .float .f32 0, .float .f32 0, .float .f32 0, .float .f32 0, .float .f32 0, .float .f32 0, .float .f32 0, .float .f32 0, .float .f32 0, .float .f32 0, .float .f32 0, .float .f32 0, .float .f32 0, .float .f32 0, .float .f32 0, .float .f32 0, .float .f32 0, .float .f32 0, .float .f32 0, .float .f32 0, .float .f32 0] : Array Value) = flCells zero36 from rfl, ← HW.out]
  clear HW
  ((with_reducible refine (F0.out).mono ?_); rintro e w' ⟨rfl, m, rfl⟩)
  go_wp2_with fail
  go_loop [9, 14] (fun s i => ∃ k : Nat, k ≤ n ∧ i = .int .i64 k ∧ s = .float .f32 (S k)) (fun _ i => 16 - (intOf i).toNat)
  case atStart => exact ⟨0, by omega, rfl, by rw [hs0.out]⟩
  case round =>
    obtain ⟨k, hk, rfl, rfl⟩ := hrel
    by_cases hlt : k < n
    · have ck : (W.drewN m).cell? ⟨w.heap.size + 1, 1 + k, none⟩ = some (.float .f32 (ix c k)) := DV.out k (by omega)
      have r1 := HM.out k hlt 22
      have r2 := HS.out k hlt 22
      go_wp2
      go_round
      case rel => exact ⟨k + 1, by omega, by go_num, rfl⟩
      case measure => simp [intOf]; omega
    · have : k = n := by omega
      subst this
      have ca : W.cell? ⟨w.heap.size, Y * 6 + X, none⟩ = some (.float .f32 (ix l (Y * 6 + X))) := (cell_of_row _ _ _ _ _ _ G0.out).trans (flCells_at (by rw [HL.out]; omega))
      have fa : W.frozen? ⟨w.heap.size, Y * 6 + X, none⟩ = false := frozen_of_row _ _ _ _ _ G0.out
      have r3 := hA.out 22
      have r4 := hMin.out
      have i1 : (X : Int) < 6 := by omega
      have i2 : (Y : Int) < 6 := by omega
      go_wp2_with fail
      refine wp_region_held_drew (S := fun _ => True) (by kernel_rfl) trivial (fun hHeld => ?_)
      refine wpAnyH_take (i := 0) (v := (.int .i64 Y)) rfl (by kernel_rfl) (by kernel_rfl) (by kernel_rfl) (fun _ _ _ h => h) (Or.inl ⟨by rfl, fun w _ => by go_simp⟩) trivial ?_
      (try simp only [Act.put, List.setIfInBounds_toArray, List.set_cons_zero, List.set_cons_succ])
      refine wpAnyH_take (i := 1) (v := (.int .i64 X)) rfl (by kernel_rfl) (by kernel_rfl) (by kernel_rfl) (fun _ _ _ h => h) (Or.inl ⟨by rfl, fun w _ => by go_simp⟩) trivial ?_
      (try simp only [Act.put, List.setIfInBounds_toArray, List.set_cons_zero, List.set_cons_succ])
      refine wpAnyH_take (i := 2) (v := (.int .i64 Y)) rfl (by kernel_rfl) (by kernel_rfl) (by kernel_rfl) (fun _ _ _ h => h) (Or.inl ⟨by rfl, fun w _ => by go_simp⟩) trivial ?_
      (try simp only [Act.put, List.setIfInBounds_toArray, List.set_cons_zero, List.set_cons_succ])
      refine wpAnyH_take (i := 3) (v := (.int .i64 X)) rfl (by kernel_rfl) (by kernel_rfl) (by kernel_rfl) (fun _ _ _ h => h) (Or.inl ⟨by rfl, fun w _ => by go_simp⟩) trivial ?_
      (try simp only [Act.put, List.setIfInBounds_toArray, List.set_cons_zero, List.set_cons_succ])
      refine wpAnyH_take (i := 4) (v := (.pointer (some ⟨w.heap.size, Y * 6, none⟩))) rfl (by kernel_rfl) (by kernel_rfl) (by kernel_rfl) (fun _ _ _ h => h) (Or.inl ⟨by rfl, fun w _ => by go_simp⟩) trivial ?_
      (try simp only [Act.put, List.setIfInBounds_toArray, List.set_cons_zero, List.set_cons_succ])
      refine wpAnyH_take (i := 5) (v := (.pointer (some ⟨w.heap.size, Y * 6 + X, none⟩))) rfl (by kernel_rfl) (by kernel_rfl) (by kernel_rfl) (fun _ _ _ h => h) (Or.inl ⟨by rfl, fun w _ => by go_simp⟩) trivial ?_
      (try simp only [Act.put, List.setIfInBounds_toArray, List.set_cons_zero, List.set_cons_succ])
      refine wpAnyH_take (i := 7) (v := (.float .f32 (S k))) rfl (by kernel_rfl) (by kernel_rfl) (by kernel_rfl) (fun _ _ _ h => h) (Or.inl ⟨by rfl, fun w _ => by go_simp⟩) trivial ?_
      (try simp only [Act.put, List.setIfInBounds_toArray, List.set_cons_zero, List.set_cons_succ])
      refine wpAnyH_take (i := 10) (v := (.pointer (some ⟨w.heap.size, Y * 6, none⟩))) rfl (by kernel_rfl) (by kernel_rfl) (by kernel_rfl) (fun _ _ _ h => h) (Or.inl ⟨by rfl, fun w _ => by go_simp⟩) trivial ?_
      (try simp only [Act.put, List.setIfInBounds_toArray, List.set_cons_zero, List.set_cons_succ])
      refine wpAnyH_ready (rs := [6]) (by kernel_rfl) (by simp) (AllReadyH.cons rfl (fun K' hK => ?_) AllReadyH.nil)
      rw [if_pos (by rfl)]
      (try simp only [Act.put, List.setIfInBounds_toArray, List.set_cons_zero, List.set_cons_succ])
      go_wp2_with fail
      refine hK.out _ _ trivial (fun _ => ?_)
      clear hK
      refine wpAnyH_ready (rs := [8]) (by kernel_rfl) (by simp) (AllReadyH.cons rfl (fun K' hK => ?_) AllReadyH.nil)
      rw [if_pos (by rfl)]
      (try simp only [Act.put, List.setIfInBounds_toArray, List.set_cons_zero, List.set_cons_succ])
      go_wp2_with fail
      refine hK.out _ _ trivial (fun _ => ?_)
      clear hK
      refine wpAnyH_ready (rs := [9]) (by kernel_rfl) (by simp) (AllReadyH.cons rfl (fun K' hK => ?_) AllReadyH.nil)
      rw [if_pos (by rfl)]
      (try simp only [Act.put, List.setIfInBounds_toArray, List.set_cons_zero, List.set_cons_succ])
      go_wp2_with fail
      refine hK.out _ _ trivial (fun _ => ?_)
      clear hK
      refine wpAnyH_take (i := 11) (v := (.pointer (some ⟨w.heap.size, Y * 6 + X, none⟩))) rfl (by kernel_rfl) (by kernel_rfl) (by kernel_rfl) (fun _ _ _ h => h) (Or.inl ⟨by rfl, fun w _ => by go_simp⟩) trivial ?_
      (try simp only [Act.put, List.setIfInBounds_toArray, List.set_cons_zero, List.set_cons_succ])
      refine wpAnyH_ready (rs := [12]) (by kernel_rfl) (by simp) (AllReadyH.cons rfl (fun K' hK => ?_) AllReadyH.nil)
      rw [if_pos (by rfl)]
      (try simp only [Act.put, List.setIfInBounds_toArray, List.set_cons_zero, List.set_cons_succ])
      go_wp2_with fail
      refine hK.out _ _ trivial (fun _ => ?_)
      clear hK
      refine wpAnyH_done (by kernel_rfl) ?_ _
      clear hHeld
      have G0' : (W.drewN (m + 1)).heap[w.heap.size]? = some (.cells (flCells l) 26 (0, 0)) := G0.out
      have g0 : Hid (((W.drewN (m + 1)).setCell ⟨w.heap.size, Y * 6 + X, none⟩ (.float .f32 V)).heap[w.heap.size]? = some (.cells (flCells (l.set (Y * 6 + X) V)) 26 (0, 0))) := Lib.hid (by rw [heap_setCell_same _ _ _ _ _ _ G0', flCells_set])
      have g1 : Hid (((W.drewN (m + 1)).setCell ⟨w.heap.size, Y * 6 + X, none⟩ (.float .f32 V)).heap[w.heap.size + 1 + 1]? = some (.cells (flCells zero36) 26 (0, 0))) := Lib.hid (by rw [heap_setCell_other _ _ _ _ (by simp <;> omega)]; exact G1.out)
      clear G0'
      have HLS : Hid ((l.set (Y * 6 + X) V).length = 36) := Lib.hid (by rw [List.length_set, HL.out])
      go_wp2_with (first
        | ((with_reducible show wpList _ _ _ (⟨some 35, _, _, _, _, _⟩ :: _) _ _); refine wpList_load_row rfl 26 (.tmp 4) rfl w.heap.size rfl 26 (flCells (l.set (Y * 6 + X) V)) (0, 0) _ g0.out Try.underlying26 rfl (by rw [flCells_size, HLS.out]; kernel_rfl) ?_)
        | ((with_reducible show wpList _ _ _ (⟨none, .store _ (.tmp 8) _, _, _, _, _⟩ :: _) _ _); refine wpList_store_row rfl 26 (.tmp 8) _ rfl (w.heap.size + 1 + 1) (flCells (l.set (Y * 6 + X) V)) rfl rfl 26 (flCells zero36) g1.out (by rw [flCells_size, HLS.out]; kernel_rfl) (by rw [flCells_size, flCells_size, HLS.out]; rfl) (fl_oneCell _) ?_))
      exact bodyPost_ret (results_cell_row rfl _ _ (w.heap.size + 1 + 1) 26 (flCells (l.set (Y * 6 + X) V)) (0, 0) _ rfl (setRow_heap _ _ _ _ _ _ g1.out) Try.underlying26 rfl (by rw [flCells_size, HLS.out]; kernel_rfl)) rfl ⟨rfl, below_setRow (Below.setCell (below_dn HB.out _) (by simp) _) (by omega) _⟩
set_option maxHeartbeats 1000000 in
theorem eqFloat32A6_self (l : List Nat) (hl : l.length = 6) (hf : ∀ i, i < 6 → FL.fin (ix l i)) (w : World) : Calls Try.prog 57 #[.agg (flCells l), .agg (flCells l)] w (Ret (.bool true) w) := by
  have HL := Lib.hid hl; clear hl
  have HF := Lib.hid hf; clear hf
  go_enter Try.func57, Try.ntmps57
  go_wp2
  obtain ⟨W, hW⟩ : ∃ W, W = (w.alloc (.cells (flCells l) 23)).alloc (.cells (flCells l) 23) := ⟨_, rfl⟩
  have HW : Hid (W = (w.alloc (.cells (flCells l) 23)).alloc (.cells (flCells l) 23)) := hW
  rw [← hW]; clear hW
  go_loopw [5] (fun i wr => ∃ k : Nat, k ≤ 6 ∧ i = .int .i64 k ∧ ∃ n, wr = W.drewN n) (fun i _ => 6 - (intOf i).toNat)
  case atStart => exact ⟨0, by omega, rfl, 0, rfl⟩
  case round =>
    obtain ⟨k, hk, rfl, hwr⟩ := hrel
    have HWR := Lib.hid hwr; clear hwr
    by_cases hlt : (k : Int) < 6
    · have c0 : wr.cell? ⟨w.heap.size, k, none⟩ = some (.float .f32 (ix l k)) := by
        obtain ⟨n, hn⟩ := HWR.out; rw [hn]; show W.cell? _ = _
        rw [HW.out, cell_of_row _ _ _ _ _ _ (ha2_0 _ _ _)]; exact flCells_at (by rw [HL.out]; omega)
      have c1 : wr.cell? ⟨w.heap.size + 1, k, none⟩ = some (.float .f32 (ix l k)) := by
        obtain ⟨n, hn⟩ := HWR.out; rw [hn]; show W.cell? _ = _
        rw [HW.out, cell_of_row _ _ _ _ _ _ (ha2_1 _ _ _)]; exact flCells_at (by rw [HL.out]; omega)
      have hcv := run_cv (ix l k) (HF.out k (by omega))
      have HQ := Lib.hid (sameFloat_q (cv (ix l k)) (cv_self _ (HF.out k (by omega))))
      go_wp2
      go_quiet ((go_at_call 21; with_reducible exact Calls.quiet_of_same (HQ.out _)))
      go_wp2
      go_roundw
      case rel => exact ⟨k + 1, by omega, by go_num, by obtain ⟨n, hn⟩ := HWR.out; rw [hn]; exact ⟨_, by rw [World.drewN_drewN]⟩⟩
      case measure => simp [intOf]; omega
    · go_wp2
      go_ret
      refine ⟨rfl, ?_⟩
      obtain ⟨n, hn⟩ := HWR.out
      rw [hn, HW.out]
      (repeat (first | exact Below.refl _ _ | assumption | refine below_new ?_ _ | refine below_step ?_ (by assumption) | refine Below.drew ?_ | refine below_dn ?_ _ | refine Below.setCell ?_ (by simp <;> omega) _))
set_option maxRecDepth 100000 in
set_option maxHeartbeats 2000000 in
theorem eqGas_self (l : List Nat) (hl : l.length = 36) (hf : ∀ i, i < 36 → FL.fin (ix l i)) (w : World) : Calls Try.prog 30 #[.agg (flCells l), .agg (flCells l)] w (Ret (.bool true) w) := by
  have HL := Lib.hid hl
  have HE := Lib.hid (fun y (hy : y < 6) w => eqFloat32A6_self (rowG l y) (rowG_len l y) (fun i hi => by rw [rowG_ix hi]; exact hf _ (by omega)) w)
  clear hl hf
  obtain ⟨W, hW⟩ : ∃ W, W = (w.alloc (.cells (flCells l) 26)).alloc (.cells (flCells l) 26) := ⟨_, rfl⟩
  have G0 : Hid (W.heap[w.heap.size]? = some (.cells (flCells l) 26 (0, 0))) := by rw [hW]; exact ha2_0 _ _ _
  have G1 : Hid (W.heap[w.heap.size + 1]? = some (.cells (flCells l) 26 (0, 0))) := by rw [hW]; exact ha2_1 _ _ _
  have HB : Hid (Below w.heap.size w W) := by rw [hW]; show Below _ _ _; (repeat (first | exact Below.refl _ _ | assumption | refine below_new ?_ _ | refine below_step ?_ (by assumption) | refine Below.drew ?_ | refine below_dn ?_ _ | refine Below.setCell ?_ (by simp <;> omega) _))
  have HW := Lib.hid hW
  clear hW
  go_enter Try.func30, Try.ntmps30
  go_wp2_with fail
  rw [← HW.out]
  clear HW
  go_loopw [5] (fun i wr => ∃ y : Nat, y ≤ 6 ∧ i = .int .i64 y ∧ Below w.heap.size w wr ∧ wr.heap[w.heap.size]? = some (.cells (flCells l) 26 (0, 0)) ∧ wr.heap[w.heap.size + 1]? = some (.cells (flCells l) 26 (0, 0))) (fun i _ => 6 - (intOf i).toNat)
  case atStart => exact ⟨0, by omega, rfl, HB.out, G0.out, G1.out⟩
  case round =>
    obtain ⟨y, hy, rfl, hB, g0, g1⟩ := hrel
    clear G0 G1 HB
    have G0 := Lib.hid g0
    have G1 := Lib.hid g1
    clear g0 g1
    by_cases hlt : y < 6
    · have HEy := Lib.hid (HE.out y hlt)
      have hrl := Lib.hid (rowG_len l y)
      have i2 : (y : Int) < 6 := by omega
      have CA : Hid (∀ (W' : World), W'.heap[w.heap.size]? = some (.cells (flCells l) 26 (0, 0)) → ∀ j v, (flCells (rowG l y)).toList[j]? = some v → W'.cell? ⟨w.heap.size, y * 6 + j, none⟩ = some v) := fun W' h j v hv => by
        rw [cell_of_row _ _ _ _ _ _ h]
        have hj : j < 6 := by
          refine Nat.lt_of_not_le fun hle => ?_
          rw [List.getElem?_eq_none (by simp [rowG_len]; omega)] at hv; cases hv
        rw [flCells_at (by rw [HL.out]; omega), ← hv, Array.getElem?_toList, flCells_at (by rw [rowG_len]; exact hj), rowG_ix hj]
      have CB : Hid (∀ (W' : World), W'.heap[w.heap.size + 1]? = some (.cells (flCells l) 26 (0, 0)) → ∀ j v, (flCells (rowG l y)).toList[j]? = some v → W'.cell? ⟨w.heap.size + 1, y * 6 + j, none⟩ = some v) := fun W' h j v hv => by
        rw [cell_of_row _ _ _ _ _ _ h]
        have hj : j < 6 := by
          refine Nat.lt_of_not_le fun hle => ?_
          rw [List.getElem?_eq_none (by simp [rowG_len]; omega)] at hv; cases hv
        rw [flCells_at (by rw [HL.out]; omega), ← hv, Array.getElem?_toList, flCells_at (by rw [rowG_len]; exact hj), rowG_ix hj]
      go_wp2_with fail
      refine wp_region_held_drew (S := fun W => Below w.heap.size w W ∧ W.heap[w.heap.size]? = some (.cells (flCells l) 26 (0, 0)) ∧ W.heap[w.heap.size + 1]? = some (.cells (flCells l) 26 (0, 0))) (by kernel_rfl) ⟨Below.drew hB, G0.out, G1.out⟩ (fun hHeld => ?_)
      refine wpAnyH_take (i := 0) (v := (.int .i64 y)) rfl (by kernel_rfl) (by kernel_rfl) (by kernel_rfl) (fun _ _ _ h => h) (Or.inl ⟨by rfl, fun w _ => by go_simp⟩) hHeld ?_
      (try simp only [Act.put, List.setIfInBounds_toArray, List.set_cons_zero, List.set_cons_succ])
      refine wpAnyH_take (i := 1) (v := (.pointer (some ⟨w.heap.size, y * 6, none⟩))) rfl (by kernel_rfl) (by kernel_rfl) (by kernel_rfl) (fun _ _ _ h => h) (Or.inl ⟨by rfl, fun w _ => by go_simp⟩) hHeld ?_
      (try simp only [Act.put, List.setIfInBounds_toArray, List.set_cons_zero, List.set_cons_succ])
      refine wpAnyH_take (i := 3) (v := (.int .i64 y)) rfl (by kernel_rfl) (by kernel_rfl) (by kernel_rfl) (fun _ _ _ h => h) (Or.inl ⟨by rfl, fun w _ => by go_simp⟩) hHeld ?_
      (try simp only [Act.put, List.setIfInBounds_toArray, List.set_cons_zero, List.set_cons_succ])
      refine wpAnyH_take (i := 4) (v := (.pointer (some ⟨w.heap.size + 1, y * 6, none⟩))) rfl (by kernel_rfl) (by kernel_rfl) (by kernel_rfl) (fun _ _ _ h => h) (Or.inl ⟨by rfl, fun w _ => by go_simp⟩) hHeld ?_
      (try simp only [Act.put, List.setIfInBounds_toArray, List.set_cons_zero, List.set_cons_succ])
      refine wpAnyH_take (i := 2) rfl (by kernel_rfl) (by kernel_rfl) (by kernel_rfl) (fun _ _ _ h => h) (yieldsIf_load_mid (by rfl) _ _ rfl w.heap.size (y * 6) rfl (flCells (rowG l y)).toList _ (fun W hW j v hv => CA.out W hW.2.1 j v hv) Try.underlying23 rfl (by rw [Array.length_toList, flCells_size, hrl.out]; kernel_rfl)) hHeld ?_
      refine wpAnyH_take (i := 5) rfl (by kernel_rfl) (by kernel_rfl) (by kernel_rfl) (fun _ _ _ h => h) (yieldsIf_load_mid (by rfl) _ _ rfl (w.heap.size + 1) (y * 6) rfl (flCells (rowG l y)).toList _ (fun W hW j v hv => CB.out W hW.2.2 j v hv) Try.underlying23 rfl (by rw [Array.length_toList, flCells_size, hrl.out]; kernel_rfl)) hHeld ?_
      refine wpAnyH_ready (rs := [6]) (by kernel_rfl) (by simp) (AllReadyH.cons rfl (fun K' hK => ?_) AllReadyH.nil); rw [if_pos (by rfl)]; (try simp only [Act.put, List.setIfInBounds_toArray, List.set_cons_zero, List.set_cons_succ])
      go_wp2_with fail
      ((with_reducible refine (HEy.out _).mono ?_); rintro e w1 ⟨rfl, hb1⟩)
      have hB1 := below_step (Below.drew hB) hb1
      refine hK.out _ _ ⟨hB1, below_heap hb1 G0.out, below_heap hb1 G1.out⟩ (fun hH => ?_)
      clear hK
      refine wpAnyH_ready (rs := [7]) (by kernel_rfl) (by simp) (AllReadyH.cons rfl (fun K' hK => ?_) AllReadyH.nil); rw [if_pos (by rfl)]; (try simp only [Act.put, List.setIfInBounds_toArray, List.set_cons_zero, List.set_cons_succ])
      go_wp2_with fail
      refine hK.out _ _ hH (fun hH2 => ?_)
      clear hK
      refine wpAnyH_done (by kernel_rfl) ?_ _
      clear hHeld hH2
      go_wp2_with fail
      refine ⟨?_, ?_⟩
      · first | exact ⟨y + 1, by omega, by go_num, hH.1, hH.2.1, hH.2.2⟩ | ((repeat apply Exists.intro); refine ⟨?_, rfl⟩; exact ⟨y + 1, by omega, by go_num, hH.1, hH.2.1, hH.2.2⟩)
      · simp [intOf]; omega
    · go_wp2
      go_ret; exact ⟨rfl, hB⟩
end Go.Proofs.Ytejipgofbefbjaa
