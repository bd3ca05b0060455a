/-
  CONTRACTS: the air at a place.
-/
import Derived.Test.YtejipgofbefbjaaTotal
set_option linter.unusedVariables false
set_option linter.unusedSimpArgs false
namespace Go.Proofs.Ytejipgofbefbjaa
open Go.RowKit Go.FV

theorem inG_nat {a b x y : Int} (h : inG a b x y = true) (ha : a ≤ 6) (hb : b ≤ 6) : ∃ X Y : Nat, x = X ∧ y = Y ∧ X < 6 ∧ Y < 6 ∧ (X : Int) < a ∧ (Y : Int) < b := by
  unfold inG at h
  simp only [Bool.and_eq_true, decide_eq_true_eq] at h
  exact ⟨x.toNat, y.toNat, by omega, by omega, by omega, by omega, by omega, by omega⟩
set_option maxRecDepth 100000 in
set_option maxHeartbeats 1000000 in
theorem l02Placed_any (B G C : Nat) (a b : Int) (f : Nat) (vs : List Int) (l : List Nat) (hl : l.length = 36) (n : Int) (c : List Nat) (x y : Int) (fine : Bool) (w : World) (hB : B < w.heap.size) (hG : G < w.heap.size) (hC : C < w.heap.size) (h1 : -128 ≤ a) (h2 : a ≤ 127) (h3 : -128 ≤ b) (h4 : b ≤ 127) (h5 : -128 ≤ n) (h6 : n ≤ 127)
    (c0 : w.cell? ⟨B, 0, none⟩ = some (.int .i8 a)) (c1 : w.cell? ⟨B, 1, none⟩ = some (.int .i8 b)) (c2 : w.cell? ⟨B, 2, none⟩ = some (.float .f32 f)) (cv : ∀ k : Nat, k < 6 → w.cell? ⟨B, 3 + k, none⟩ = some (.int .u8 (ixI vs k))) (hv : ∀ k : Nat, 0 ≤ ixI vs k ∧ ixI vs k ≤ 255)
    (cg : ∀ j, j < 36 → w.cell? ⟨G, j, none⟩ = some (.float .f32 (ix l j)))
    (d0 : w.cell? ⟨C, 0, none⟩ = some (.int .i8 n)) (dv : ∀ k, k < 16 → w.cell? ⟨C, 1 + k, none⟩ = some (.float .f32 (ix c k))) :
    Calls Try.prog 51 #[.pointer (some ⟨B, 0, none⟩), .pointer (some ⟨G, 0, none⟩), .pointer (some ⟨C, 0, none⟩), .int .i64 x, .int .i64 y, .bool fine] w (Ret (.int .i64 (told (validGas a b f vs l && validCrate n c) (inG a b x y && fine))) w) := by
  have HC := Lib.hid (spec_l02Gas B G a b f vs l hl w hB hG h1 h2 h3 h4 c0 c1 c2 cv hv cg)
  have K := Lib.hid (fun w1 (hb1 : Below w.heap.size w w1) => (spec_l01Crate C n c w1 h5 h6 ((hb1.cell (p := ⟨C, 0, none⟩) hC).trans d0) (fun k hk => (hb1.cell (p := ⟨C, 1 + k, none⟩) hC).trans (dv k hk))))
  have I := Lib.hid (fun w1 (hb1 : Below w.heap.size w w1) => (spec_l02Is B a b x y h1 h2 h3 h4 w1 ((hb1.cell (p := ⟨B, 0, none⟩) hB).trans c0) ((hb1.cell (p := ⟨B, 1, none⟩) hB).trans c1)))
  clear c0 c1 c2 cv hv cg d0 dv
  cases hV : validGas a b f vs l <;> cases hK : validCrate n c <;> cases hI : inG a b x y <;> cases fine
  all_goals
    rw [hV] at HC
    rw [hK] at K
    rw [hI] at I
    go_enter Try.func51, Try.ntmps51
    go_wp2_with (first | (go_at_call 43; ((with_reducible refine (HC.out).mono ?_); rintro e w1 ⟨rfl, hb1⟩); obtain ⟨hc1, hf1⟩ := bcell hb1) | (go_at_call 74; ((with_reducible refine (K.out _ (by assumption)).mono ?_); rintro e w' ⟨rfl, rfl⟩)) | (go_at_call 71; ((with_reducible refine (I.out _ (by assumption)).mono ?_); rintro e w' ⟨rfl, rfl⟩)))
    go_ret; exact ⟨rfl, by assumption⟩
def airX (l : List Nat) (x y : Int) (q : Nat) (Z : Bool) : Array Value := if Z then #[.float .f32 q, .float .f32 (ix l (y.toNat * 6 + x.toNat))] else #[.float .f32 0, .float .f32 0]
theorem zero_valid : validCrate 0 zero16 = true := by decide +kernel
set_option maxRecDepth 100000 in
set_option maxHeartbeats 2000000 in
theorem spec_AirAt (a b : Int) (f : Nat) (v0 v1 v2 v3 v4 v5 : Int) (l : List Nat) (hl : l.length = 36) (hb : ∀ i, ix l i < 4294967296) (x y : Int) (q : Nat) (w : World) (h1 : -128 ≤ a) (h2 : a ≤ 127) (h3 : -128 ≤ b) (h4 : b ≤ 127) (hv : ∀ k : Nat, 0 ≤ ixI [v0, v1, v2, v3, v4, v5] k ∧ ixI [v0, v1, v2, v3, v4, v5] k ≤ 255) :
    Calls Try.prog 24 #[.agg #[.int .i8 a, .int .i8 b, .float .f32 f, .int .u8 v0, .int .u8 v1, .int .u8 v2, .int .u8 v3, .int .u8 v4, .int .u8 v5], .agg (flCells l), .int .i64 x, .int .i64 y, .float .f32 q] w (Ret (.tuple #[.agg (airX l x y q ((validGas a b f [v0, v1, v2, v3, v4, v5] l) && (inG a b x y && isPart q))), .int .i64 (told (validGas a b f [v0, v1, v2, v3, v4, v5] l) (inG a b x y && isPart q))]) w) := by
  obtain ⟨W, hW⟩ : ∃ W, W = (((w.alloc (.cells #[.int .i8 a, .int .i8 b, .float .f32 f, .int .u8 v0, .int .u8 v1, .int .u8 v2, .int .u8 v3, .int .u8 v4, .int .u8 v5] 34)).alloc (.cells (flCells l) 26)).alloc (.cells #[.float .f32 0, .float .f32 0] 44)).alloc (.cells #[.int .i8 0, .float .f32 0, .float .f32 0, .float .f32 0, .float .f32 0, .float .f32 0, .float .f32 0, .float .f32 0, .float .f32 0, .float .f32 0, .float .f32 0, .float .f32 0, .float .f32 0, .float .f32 0, .float .f32 0, .float .f32 0, .float .f32 0] 54) := ⟨_, rfl⟩
  have G0 : W.heap[w.heap.size]? = some (.cells #[.int .i8 a, .int .i8 b, .float .f32 f, .int .u8 v0, .int .u8 v1, .int .u8 v2, .int .u8 v3, .int .u8 v4, .int .u8 v5] 34 (0, 0)) := by rw [hW, heap_alloc_old (h := by rw [size_al, size_al, size_al]; omega)]; exact ha3_0 _ _ _ _
  have G1 : W.heap[w.heap.size + 1]? = some (.cells (flCells l) 26 (0, 0)) := by rw [hW, heap_alloc_old (h := by rw [size_al, size_al, size_al]; omega)]; exact ha3_1 _ _ _ _
  have G2 : W.heap[w.heap.size + 1 + 1]? = some (.cells #[.float .f32 0, .float .f32 0] 44 (0, 0)) := by rw [hW, heap_alloc_old (h := by rw [size_al, size_al, size_al]; omega)]; exact ha3_2 _ _ _ _
  have G3 : W.heap[w.heap.size + 1 + 1 + 1]? = some (.cells (crateCells 0 zero16) 54 (0, 0)) := by rw [hW]; have := heap_alloc_new (((w.alloc (.cells #[.int .i8 a, .int .i8 b, .float .f32 f, .int .u8 v0, .int .u8 v1, .int .u8 v2, .int .u8 v3, .int .u8 v4, .int .u8 v5] 34)).alloc (.cells (flCells l) 26)).alloc (.cells #[.float .f32 0, .float .f32 0] 44)) (.cells (crateCells 0 zero16) 54); rwa [size_al, size_al, size_al] at this
  have HB : Hid (Below w.heap.size w W) := by rw [hW]; show Below _ _ _; (repeat (first | exact Below.refl _ _ | assumption | refine below_new ?_ _ | refine below_step ?_ (by assumption) | refine Below.drew ?_ | refine below_dn ?_ _ | refine Below.setCell ?_ (by simp <;> omega) _))
  have hsz : W.heap.size = w.heap.size + 4 := by rw [hW, size_al, size_al, size_al, size_al]
  have HC := Lib.hid (l02Placed_any w.heap.size (w.heap.size + 1) (w.heap.size + 1 + 1 + 1) a b f [v0, v1, v2, v3, v4, v5] l hl 0 zero16 x y (isPart q) W (by omega) (by omega) (by omega) h1 h2 h3 h4 (by omega) (by omega) (cell_of_row _ _ _ _ _ _ G0) (cell_of_row _ _ _ _ _ _ G0) (cell_of_row _ _ _ _ _ _ G0) (room_cv (w := w) G0) hv (fun j hj => (cell_of_row _ _ _ _ _ _ G1).trans (flCells_at (by rw [hl]; exact hj)))
    ((cell_of_row _ _ _ _ _ _ G3).trans (crateCells_0 _ _)) (fun k hk => (cell_of_row _ _ _ _ _ _ G3).trans (crateCells_at hk)))
  rw [zero_valid, Bool.and_true] at HC
  have HP := Lib.hid (fun w => spec_l01Part q w)
  have HF := Lib.hid (fun h => gas_facts (a := a) (b := b) (f := f) (vs := [v0, v1, v2, v3, v4, v5]) (l := l) h hb)
  have HL := Lib.hid hl
  have HW := Lib.hid hW
  have hsz2 : w.heap.size + 1 + 1 < W.heap.size := by omega
  have G1 := Lib.hid G1
  have G2 := Lib.hid G2
  clear hW hv hb hl G0 G3 hsz
  cases hZ : (validGas a b f [v0, v1, v2, v3, v4, v5] l && (inG a b x y && isPart q))
  · have hne : Hid (told (validGas a b f [v0, v1, v2, v3, v4, v5] l) (inG a b x y && isPart q) ≠ 0) := by
      cases hA : (validGas a b f [v0, v1, v2, v3, v4, v5] l) <;> cases hB : (inG a b x y && isPart q) <;> rw [hA, hB] at hZ <;> first | exact absurd hZ (by decide) | (show told _ _ ≠ 0; decide)
    obtain ⟨T, hT⟩ : ∃ T, told (validGas a b f [v0, v1, v2, v3, v4, v5] l) (inG a b x y && isPart q) = T := ⟨_, rfl⟩
    obtain ⟨F, hF⟩ : ∃ F, isPart q = F := ⟨_, rfl⟩
    rw [hT] at hne HC
    rw [hT]
    rw [hF] at HC HP
    have hne' : (T != 0) = true := by simpa using hne.out
    have hR : Hid (airX l x y q false = #[.float .f32 0, .float .f32 0]) := rfl
    rw [hR.out]
    clear HF hZ hne hT hF
    go_enter Try.func24, Try.ntmps24
    go_wp2_with (go_at_call 52; ((with_reducible refine (HP.out _).mono ?_); rintro e w' ⟨rfl, rfl⟩))
    rw [← HW.out]
    clear HW
    ((with_reducible refine (HC.out).mono ?_); rintro e w1 ⟨rfl, hb1⟩)
    have g2 := Lib.hid (below_heap hb1 G2.out)
    have hB1 := Lib.hid (below_step HB.out hb1)
    go_wp2_with ((with_reducible show wpList _ _ _ (⟨none, .store _ (.tmp 10) _, _, _, _, _⟩ :: _) _ _); refine wpList_store_row rfl 44 (.tmp 10) _ rfl (w.heap.size + 1 + 1) #[.float .f32 0, .float .f32 0] rfl rfl 44 #[.float .f32 0, .float .f32 0] (g2.out) (by kernel_rfl) rfl (by simp [Value.oneCell']) ?_)
    exact bodyPost_ret (results_row_tmp rfl _ _ (w.heap.size + 1 + 1) 44 #[.float .f32 0, .float .f32 0] (0, 0) _ rfl (setRow_heap _ _ _ _ _ _ g2.out) Try.underlying44 rfl (by kernel_rfl)) rfl ⟨rfl, below_setRow hB1.out (by omega) _⟩
  · rw [Bool.and_eq_true, Bool.and_eq_true] at hZ
    obtain ⟨hV, hi, hq⟩ := hZ
    rw [hV, hi, hq] at HC
    rw [hq] at HP
    rw [hV, hi, hq]
    obtain ⟨A, H, rfl, rfl, ⟨hA1, hA2⟩, ⟨hH1, hH2⟩, _, _, _⟩ := HF.out hV
    obtain ⟨X, Y, rfl, rfl, hX, hY, _, _⟩ := inG_nat hi (by omega) (by omega)
    have hR : Hid (airX l X Y q true = #[.float .f32 q, .float .f32 (ix l (Y * 6 + X))]) := rfl
    rw [hR.out]
    have i1 : (X : Int) < 6 := by omega
    have i2 : (Y : Int) < 6 := by omega
    clear HF hV hi hq hR
    go_enter Try.func24, Try.ntmps24
    go_wp2_with (go_at_call 52; ((with_reducible refine (HP.out _).mono ?_); rintro e w' ⟨rfl, rfl⟩))
    rw [← HW.out]
    clear HW
    ((with_reducible refine (HC.out).mono ?_); rintro e w1 ⟨rfl, hb1⟩)
    have g2 := Lib.hid (below_heap hb1 G2.out)
    have hB1 := Lib.hid (below_step HB.out hb1)
    have ca : w1.cell? ⟨w.heap.size + 1, Y * 6 + X, none⟩ = some (.float .f32 (ix l (Y * 6 + X))) := (cell_of_row _ _ _ _ _ _ (below_heap hb1 G1.out)).trans (flCells_at (by rw [HL.out]; omega))
    clear hb1
    go_wp2_with ((with_reducible show wpList _ _ _ (⟨none, .store _ (.tmp 10) _, _, _, _, _⟩ :: _) _ _); refine wpList_store_row rfl 44 (.tmp 10) _ rfl (w.heap.size + 1 + 1) #[.float .f32 q, .float .f32 (ix l (Y * 6 + X))] rfl rfl 44 #[.float .f32 0, .float .f32 0] (g2.out) (by kernel_rfl) rfl (by simp [Value.oneCell']) ?_)
    exact bodyPost_ret (results_row_tmp rfl _ _ (w.heap.size + 1 + 1) 44 #[.float .f32 q, .float .f32 (ix l (Y * 6 + X))] (0, 0) _ rfl (setRow_heap _ _ _ _ _ _ g2.out) Try.underlying44 rfl (by kernel_rfl)) rfl ⟨rfl, below_setRow hB1.out (by omega) _⟩
set_option maxRecDepth 100000 in
set_option maxHeartbeats 2000000 in
theorem impl_AirAt (a b : Int) (f : Nat) (v0 v1 v2 v3 v4 v5 : Int) (l : List Nat) (hl : l.length = 36) (hb : ∀ i, ix l i < 4294967296) (x y : Int) (q : Nat) (w : World) (h1 : -128 ≤ a) (h2 : a ≤ 127) (h3 : -128 ≤ b) (h4 : b ≤ 127) :
    Calls Try.prog 25 #[.agg #[.int .i8 a, .int .i8 b, .float .f32 f, .int .u8 v0, .int .u8 v1, .int .u8 v2, .int .u8 v3, .int .u8 v4, .int .u8 v5], .agg (flCells l), .int .i64 x, .int .i64 y, .float .f32 q] w (Ret (.tuple #[.agg (airX l x y q ((validGas a b f [v0, v1, v2, v3, v4, v5] l) && (inG a b x y && isPart q))), .int .i64 (told (validGas a b f [v0, v1, v2, v3, v4, v5] l) (inG a b x y && isPart q))]) w) := by
  have HL := Lib.hid hl
  have HV := Lib.hid (fun w => impl_ValidGas a b f v0 v1 v2 v3 v4 v5 l hl w h1 h2 h3 h4)
  have HH := Lib.hid (fun w => has_any a b f v0 v1 v2 v3 v4 v5 x y h1 h2 h3 h4 w)
  have HF := Lib.hid (fun h => gas_facts (a := a) (b := b) (f := f) (vs := [v0, v1, v2, v3, v4, v5]) (l := l) h hb)
  have HP := Lib.hid (fun w => impl_IsPart q w)
  clear hl hb h1 h2 h3 h4
  cases hV : validGas a b f [v0, v1, v2, v3, v4, v5] l
  · rw [hV] at HV
    have hR : Hid (airX l x y q (false && (inG a b x y && isPart q)) = #[.float .f32 0, .float .f32 0] ∧ told false (inG a b x y && isPart q) = 1) := ⟨rfl, rfl⟩
    rw [hR.out.1, hR.out.2]
    go_enter Try.func25, Try.ntmps25
    go_wp2_with ((with_reducible show wpList _ _ _ (⟨some 14, _, _, _, _, _⟩ :: _) _ _); refine wpList_load_row rfl 26 (.tmp 6) rfl (w.heap.size + 1) rfl 26 (flCells l) (0, 0) _ (ha3_1 _ _ _ _) Try.underlying26 rfl (by rw [flCells_size, HL.out]; kernel_rfl) ?_)
    ((with_reducible refine (HV.out _).mono ?_); rintro e w1 ⟨rfl, hb1⟩)
    have g0 : Hid (w1.heap[w.heap.size]? = some (.cells #[.int .i8 a, .int .i8 b, .float .f32 f, .int .u8 v0, .int .u8 v1, .int .u8 v2, .int .u8 v3, .int .u8 v4, .int .u8 v5] 34 (0, 0))) := below_heap hb1 (ha3_0 _ _ _ _)
    have g1 : Hid (w1.heap[w.heap.size + 1]? = some (.cells (flCells l) 26 (0, 0))) := below_heap hb1 (ha3_1 _ _ _ _)
    have g2 : Hid (w1.heap[w.heap.size + 1 + 1]? = some (.cells #[.float .f32 0, .float .f32 0] 44 (0, 0))) := below_heap hb1 (ha3_2 _ _ _ _)
    have hB1 : Hid (Below w.heap.size w w1) := below_step (by (repeat (first | exact Below.refl _ _ | assumption | refine below_new ?_ _ | refine below_step ?_ (by assumption) | refine Below.drew ?_ | refine below_dn ?_ _ | refine Below.setCell ?_ (by simp <;> omega) _))) hb1
    clear hb1
    go_wp2_with ((with_reducible show wpList _ _ _ (⟨none, .store _ (.tmp 10) _, _, _, _, _⟩ :: _) _ _); refine wpList_store_row rfl 44 (.tmp 10) _ rfl (w.heap.size + 1 + 1) #[.float .f32 0, .float .f32 0] rfl rfl 44 #[.float .f32 0, .float .f32 0] (g2.out) (by kernel_rfl) rfl (by simp [Value.oneCell']) ?_)
    exact bodyPost_ret (results_row_tmp rfl _ _ (w.heap.size + 1 + 1) 44 #[.float .f32 0, .float .f32 0] (0, 0) _ rfl (setRow_heap _ _ _ _ _ _ g2.out) Try.underlying44 rfl (by kernel_rfl)) rfl ⟨rfl, below_setRow hB1.out (by omega) _⟩
  · rw [hV] at HV
    cases hi : inG a b x y
    · rw [hi] at HH
      have hR : Hid (airX l x y q (true && (false && isPart q)) = #[.float .f32 0, .float .f32 0] ∧ told true (false && isPart q) = 2) := ⟨rfl, rfl⟩
      rw [hR.out.1, hR.out.2]
      go_enter Try.func25, Try.ntmps25
      go_wp2_with ((with_reducible show wpList _ _ _ (⟨some 14, _, _, _, _, _⟩ :: _) _ _); refine wpList_load_row rfl 26 (.tmp 6) rfl (w.heap.size + 1) rfl 26 (flCells l) (0, 0) _ (ha3_1 _ _ _ _) Try.underlying26 rfl (by rw [flCells_size, HL.out]; kernel_rfl) ?_)
      ((with_reducible refine (HV.out _).mono ?_); rintro e w1 ⟨rfl, hb1⟩)
      have g0 : Hid (w1.heap[w.heap.size]? = some (.cells #[.int .i8 a, .int .i8 b, .float .f32 f, .int .u8 v0, .int .u8 v1, .int .u8 v2, .int .u8 v3, .int .u8 v4, .int .u8 v5] 34 (0, 0))) := below_heap hb1 (ha3_0 _ _ _ _)
      have g1 : Hid (w1.heap[w.heap.size + 1]? = some (.cells (flCells l) 26 (0, 0))) := below_heap hb1 (ha3_1 _ _ _ _)
      have g2 : Hid (w1.heap[w.heap.size + 1 + 1]? = some (.cells #[.float .f32 0, .float .f32 0] 44 (0, 0))) := below_heap hb1 (ha3_2 _ _ _ _)
      have hB1 : Hid (Below w.heap.size w w1) := below_step (by (repeat (first | exact Below.refl _ _ | assumption | refine below_new ?_ _ | refine below_step ?_ (by assumption) | refine Below.drew ?_ | refine below_dn ?_ _ | refine Below.setCell ?_ (by simp <;> omega) _))) hb1
      clear hb1
      have c0 : w1.cell? ⟨w.heap.size, 0, none⟩ = some (.int .i8 a) := cell_of_row _ _ _ _ _ _ g0.out
      have c1 : w1.cell? ⟨w.heap.size, 1, none⟩ = some (.int .i8 b) := cell_of_row _ _ _ _ _ _ g0.out
      have c2 : w1.cell? ⟨w.heap.size, 2, none⟩ = some (.float .f32 f) := cell_of_row _ _ _ _ _ _ g0.out
      have c3 : w1.cell? ⟨w.heap.size, 3, none⟩ = some (.int .u8 v0) := cell_of_row _ _ _ _ _ _ g0.out
      have c4 : w1.cell? ⟨w.heap.size, 4, none⟩ = some (.int .u8 v1) := cell_of_row _ _ _ _ _ _ g0.out
      have c5 : w1.cell? ⟨w.heap.size, 5, none⟩ = some (.int .u8 v2) := cell_of_row _ _ _ _ _ _ g0.out
      have c6 : w1.cell? ⟨w.heap.size, 6, none⟩ = some (.int .u8 v3) := cell_of_row _ _ _ _ _ _ g0.out
      have c7 : w1.cell? ⟨w.heap.size, 7, none⟩ = some (.int .u8 v4) := cell_of_row _ _ _ _ _ _ g0.out
      have c8 : w1.cell? ⟨w.heap.size, 8, none⟩ = some (.int .u8 v5) := cell_of_row _ _ _ _ _ _ g0.out
      go_wp2_with fail
      ((with_reducible refine (HH.out _).mono ?_); rintro e w2 ⟨rfl, hb2⟩)
      have g2' := Lib.hid (below_heap hb2 g2.out)
      have hB2 := Lib.hid (below_step hB1.out hb2)
      clear hb2
      go_wp2_with ((with_reducible show wpList _ _ _ (⟨none, .store _ (.tmp 10) _, _, _, _, _⟩ :: _) _ _); refine wpList_store_row rfl 44 (.tmp 10) _ rfl (w.heap.size + 1 + 1) #[.float .f32 0, .float .f32 0] rfl rfl 44 #[.float .f32 0, .float .f32 0] (g2'.out) (by kernel_rfl) rfl (by simp [Value.oneCell']) ?_)
      exact bodyPost_ret (results_row_tmp rfl _ _ (w.heap.size + 1 + 1) 44 #[.float .f32 0, .float .f32 0] (0, 0) _ rfl (setRow_heap _ _ _ _ _ _ g2'.out) Try.underlying44 rfl (by kernel_rfl)) rfl ⟨rfl, below_setRow hB2.out (by omega) _⟩
    · rw [hi] at HH
      cases hq : isPart q
      · rw [hq] at HP
        have hR : Hid (airX l x y q (true && (true && false)) = #[.float .f32 0, .float .f32 0] ∧ told true (true && false) = 2) := ⟨rfl, rfl⟩
        rw [hR.out.1, hR.out.2]
        go_enter Try.func25, Try.ntmps25
        go_wp2_with ((with_reducible show wpList _ _ _ (⟨some 14, _, _, _, _, _⟩ :: _) _ _); refine wpList_load_row rfl 26 (.tmp 6) rfl (w.heap.size + 1) rfl 26 (flCells l) (0, 0) _ (ha3_1 _ _ _ _) Try.underlying26 rfl (by rw [flCells_size, HL.out]; kernel_rfl) ?_)
        ((with_reducible refine (HV.out _).mono ?_); rintro e w1 ⟨rfl, hb1⟩)
        have g0 : Hid (w1.heap[w.heap.size]? = some (.cells #[.int .i8 a, .int .i8 b, .float .f32 f, .int .u8 v0, .int .u8 v1, .int .u8 v2, .int .u8 v3, .int .u8 v4, .int .u8 v5] 34 (0, 0))) := below_heap hb1 (ha3_0 _ _ _ _)
        have g1 : Hid (w1.heap[w.heap.size + 1]? = some (.cells (flCells l) 26 (0, 0))) := below_heap hb1 (ha3_1 _ _ _ _)
        have g2 : Hid (w1.heap[w.heap.size + 1 + 1]? = some (.cells #[.float .f32 0, .float .f32 0] 44 (0, 0))) := below_heap hb1 (ha3_2 _ _ _ _)
        have hB1 : Hid (Below w.heap.size w w1) := below_step (by (repeat (first | exact Below.refl _ _ | assumption | refine below_new ?_ _ | refine below_step ?_ (by assumption) | refine Below.drew ?_ | refine below_dn ?_ _ | refine Below.setCell ?_ (by simp <;> omega) _))) hb1
        clear hb1
        have c0 : w1.cell? ⟨w.heap.size, 0, none⟩ = some (.int .i8 a) := cell_of_row _ _ _ _ _ _ g0.out
        have c1 : w1.cell? ⟨w.heap.size, 1, none⟩ = some (.int .i8 b) := cell_of_row _ _ _ _ _ _ g0.out
        have c2 : w1.cell? ⟨w.heap.size, 2, none⟩ = some (.float .f32 f) := cell_of_row _ _ _ _ _ _ g0.out
        have c3 : w1.cell? ⟨w.heap.size, 3, none⟩ = some (.int .u8 v0) := cell_of_row _ _ _ _ _ _ g0.out
        have c4 : w1.cell? ⟨w.heap.size, 4, none⟩ = some (.int .u8 v1) := cell_of_row _ _ _ _ _ _ g0.out
        have c5 : w1.cell? ⟨w.heap.size, 5, none⟩ = some (.int .u8 v2) := cell_of_row _ _ _ _ _ _ g0.out
        have c6 : w1.cell? ⟨w.heap.size, 6, none⟩ = some (.int .u8 v3) := cell_of_row _ _ _ _ _ _ g0.out
        have c7 : w1.cell? ⟨w.heap.size, 7, none⟩ = some (.int .u8 v4) := cell_of_row _ _ _ _ _ _ g0.out
        have c8 : w1.cell? ⟨w.heap.size, 8, none⟩ = some (.int .u8 v5) := cell_of_row _ _ _ _ _ _ g0.out
        go_wp2_with fail
        ((with_reducible refine (HH.out _).mono ?_); rintro e w2 ⟨rfl, hb2⟩)
        have g2' := Lib.hid (below_heap hb2 g2.out)
        have hB2 := Lib.hid (below_step hB1.out hb2)
        clear hb2
        go_wp2_with (first | (go_at_call 47; ((with_reducible refine (HP.out _).mono ?_); rintro e w' ⟨rfl, rfl⟩)) | ((with_reducible show wpList _ _ _ (⟨none, .store _ (.tmp 10) _, _, _, _, _⟩ :: _) _ _); refine wpList_store_row rfl 44 (.tmp 10) _ rfl (w.heap.size + 1 + 1) #[.float .f32 0, .float .f32 0] rfl rfl 44 #[.float .f32 0, .float .f32 0] (g2'.out) (by kernel_rfl) rfl (by simp [Value.oneCell']) ?_))
        exact bodyPost_ret (results_row_tmp rfl _ _ (w.heap.size + 1 + 1) 44 #[.float .f32 0, .float .f32 0] (0, 0) _ rfl (setRow_heap _ _ _ _ _ _ g2'.out) Try.underlying44 rfl (by kernel_rfl)) rfl ⟨rfl, below_setRow hB2.out (by omega) _⟩
      · rw [hq] at HP
        obtain ⟨A, H, rfl, rfl, ⟨hA1, hA2⟩, ⟨hH1, hH2⟩, _, _, _⟩ := HF.out hV
        obtain ⟨X, Y, rfl, rfl, hX, hY, _, _⟩ := inG_nat hi (by omega) (by omega)
        have hR : Hid (airX l X Y q (true && (true && true)) = #[.float .f32 q, .float .f32 (ix l (Y * 6 + X))] ∧ told true (true && true) = 0) := ⟨rfl, rfl⟩
        rw [hR.out.1, hR.out.2]
        have i1 : (X : Int) < 6 := by omega
        have i2 : (Y : Int) < 6 := by omega
        clear HF hV hi hq hR
        go_enter Try.func25, Try.ntmps25
        go_wp2_with ((with_reducible show wpList _ _ _ (⟨some 14, _, _, _, _, _⟩ :: _) _ _); refine wpList_load_row rfl 26 (.tmp 6) rfl (w.heap.size + 1) rfl 26 (flCells l) (0, 0) _ (ha3_1 _ _ _ _) Try.underlying26 rfl (by rw [flCells_size, HL.out]; kernel_rfl) ?_)
        ((with_reducible refine (HV.out _).mono ?_); rintro e w1 ⟨rfl, hb1⟩)
        have g0 : Hid (w1.heap[w.heap.size]? = some (.cells #[.int .i8 A, .int .i8 H, .float .f32 f, .int .u8 v0, .int .u8 v1, .int .u8 v2, .int .u8 v3, .int .u8 v4, .int .u8 v5] 34 (0, 0))) := below_heap hb1 (ha3_0 _ _ _ _)
        have g1 : Hid (w1.heap[w.heap.size + 1]? = some (.cells (flCells l) 26 (0, 0))) := below_heap hb1 (ha3_1 _ _ _ _)
        have g2 : Hid (w1.heap[w.heap.size + 1 + 1]? = some (.cells #[.float .f32 0, .float .f32 0] 44 (0, 0))) := below_heap hb1 (ha3_2 _ _ _ _)
        have hB1 : Hid (Below w.heap.size w w1) := below_step (by (repeat (first | exact Below.refl _ _ | assumption | refine below_new ?_ _ | refine below_step ?_ (by assumption) | refine Below.drew ?_ | refine below_dn ?_ _ | refine Below.setCell ?_ (by simp <;> omega) _))) hb1
        clear hb1
        have c0 : w1.cell? ⟨w.heap.size, 0, none⟩ = some (.int .i8 A) := cell_of_row _ _ _ _ _ _ g0.out
        have c1 : w1.cell? ⟨w.heap.size, 1, none⟩ = some (.int .i8 H) := cell_of_row _ _ _ _ _ _ g0.out
        have c2 : w1.cell? ⟨w.heap.size, 2, none⟩ = some (.float .f32 f) := cell_of_row _ _ _ _ _ _ g0.out
        have c3 : w1.cell? ⟨w.heap.size, 3, none⟩ = some (.int .u8 v0) := cell_of_row _ _ _ _ _ _ g0.out
        have c4 : w1.cell? ⟨w.heap.size, 4, none⟩ = some (.int .u8 v1) := cell_of_row _ _ _ _ _ _ g0.out
        have c5 : w1.cell? ⟨w.heap.size, 5, none⟩ = some (.int .u8 v2) := cell_of_row _ _ _ _ _ _ g0.out
        have c6 : w1.cell? ⟨w.heap.size, 6, none⟩ = some (.int .u8 v3) := cell_of_row _ _ _ _ _ _ g0.out
        have c7 : w1.cell? ⟨w.heap.size, 7, none⟩ = some (.int .u8 v4) := cell_of_row _ _ _ _ _ _ g0.out
        have c8 : w1.cell? ⟨w.heap.size, 8, none⟩ = some (.int .u8 v5) := cell_of_row _ _ _ _ _ _ g0.out
        go_wp2_with fail
        ((with_reducible refine (HH.out _).mono ?_); rintro e w2 ⟨rfl, hb2⟩)
        have g2' := Lib.hid (below_heap hb2 g2.out)
        have hB2 := Lib.hid (below_step hB1.out hb2)
        have ca : w2.cell? ⟨w.heap.size + 1, Y * 6 + X, none⟩ = some (.float .f32 (ix l (Y * 6 + X))) := (cell_of_row _ _ _ _ _ _ (below_heap hb2 g1.out)).trans (flCells_at (by rw [HL.out]; omega))
        clear hb2 c0 c1 c2 c3 c4 c5 c6 c7 c8
        go_wp2_with (first | (go_at_call 47; ((with_reducible refine (HP.out _).mono ?_); rintro e w' ⟨rfl, rfl⟩)) | ((with_reducible show wpList _ _ _ (⟨none, .store _ (.tmp 10) _, _, _, _, _⟩ :: _) _ _); refine wpList_store_row rfl 44 (.tmp 10) _ rfl (w.heap.size + 1 + 1) #[.float .f32 q, .float .f32 (ix l (Y * 6 + X))] rfl rfl 44 #[.float .f32 0, .float .f32 0] (g2'.out) (by kernel_rfl) rfl (by simp [Value.oneCell']) ?_))
        exact bodyPost_ret (results_row_tmp rfl _ _ (w.heap.size + 1 + 1) 44 #[.float .f32 q, .float .f32 (ix l (Y * 6 + X))] (0, 0) _ rfl (setRow_heap _ _ _ _ _ _ g2'.out) Try.underlying44 rfl (by kernel_rfl)) rfl ⟨rfl, below_setRow hB2.out (by omega) _⟩

end Go.Proofs.Ytejipgofbefbjaa
