/-
  CONTRACTS: a crate gives off gas at a place, asked from outside.
-/
import Derived.Test.YtejipgofbefbjaaGive
import Derived.Test.YtejipgofbefbjaaGuard
set_option linter.unusedVariables false
set_option linter.unusedSimpArgs false
namespace Go.Proofs.Ytejipgofbefbjaa
open Go.RowKit Go.FV

theorem Ins4 (w : World) (o0 o1 o2 o3 : Obj) : Ins w [o0, o1, o2, o3] ((((w.alloc o0).alloc o1).alloc o2).alloc o3) := by
  refine ⟨by (repeat rw [size_al]); exact Nat.le_refl _, by (repeat (first | exact Below.refl _ _ | assumption | refine below_new ?_ _ | refine below_step ?_ (by assumption) | refine Below.drew ?_ | refine below_dn ?_ _ | refine Below.setCell ?_ (by simp <;> omega) _)), fun i o ho => ?_⟩
  match i, ho with
  | 0, ho => cases ho; show ((((w.heap.push _).push _).push _).push _)[_]? = _; simp only [Array.getElem?_push, Array.size_push]; repeat (first | rw [if_pos trivial] | rw [if_pos (by omega)] | rw [if_neg (by omega)])
  | 1, ho => cases ho; show ((((w.heap.push _).push _).push _).push _)[_]? = _; simp only [Array.getElem?_push, Array.size_push]; repeat (first | rw [if_pos trivial] | rw [if_pos (by omega)] | rw [if_neg (by omega)])
  | 2, ho => cases ho; show ((((w.heap.push _).push _).push _).push _)[_]? = _; simp only [Array.getElem?_push, Array.size_push]; repeat (first | rw [if_pos trivial] | rw [if_pos (by omega)] | rw [if_neg (by omega)])
  | 3, ho => cases ho; show ((((w.heap.push _).push _).push _).push _)[_]? = _; simp only [Array.getElem?_push, Array.size_push]; repeat (first | rw [if_pos trivial] | rw [if_pos (by omega)] | rw [if_neg (by omega)])
def giveX (l c : List Nat) (x y n : Int) (Z : Bool) : List Nat := if Z then giveL l c (y.toNat * 6 + x.toNat) n.toNat else zero36
set_option maxRecDepth 100000 in
set_option maxHeartbeats 2000000 in
theorem spec_GiveOff (a b : Int) (f : Nat) (v0 v1 v2 v3 v4 v5 : Int) (l : List Nat) (hl : l.length = 36) (hb : ∀ i, ix l i < 4294967296) (n : Int) (c : List Nat) (hcl : c.length = 16) (hcb : ∀ i, ix c i < 4294967296) (h5 : -128 ≤ n) (h6 : n ≤ 127) (x y : Int) (w : World) (h1 : -128 ≤ a) (h2 : a ≤ 127) (h3 : -128 ≤ b) (h4 : b ≤ 127) (hv : ∀ k : Nat, 0 ≤ ixI [v0, v1, v2, v3, v4, v5] k ∧ ixI [v0, v1, v2, v3, v4, v5] k ≤ 255) :
    Calls Try.prog 27 #[.agg #[.int .i8 a, .int .i8 b, .float .f32 f, .int .u8 v0, .int .u8 v1, .int .u8 v2, .int .u8 v3, .int .u8 v4, .int .u8 v5], .agg (flCells l), .int .i64 x, .int .i64 y, .agg (crateCells n c)] w (Ret (.tuple #[.agg (flCells (giveX l c x y n ((validGas a b f [v0, v1, v2, v3, v4, v5] l && validCrate n c) && inG a b x y))), .int .i64 (told (validGas a b f [v0, v1, v2, v3, v4, v5] l && validCrate n c) (inG a b x y))]) w) := by
  obtain ⟨W, hW⟩ : ∃ W, W = (((w.alloc (.cells #[.int .i8 a, .int .i8 b, .float .f32 f, .int .u8 v0, .int .u8 v1, .int .u8 v2, .int .u8 v3, .int .u8 v4, .int .u8 v5] 34)).alloc (.cells (flCells l) 26)).alloc (.cells (crateCells n c) 54)).alloc (.cells (flCells zero36) 26) := ⟨_, rfl⟩
  have hI : Ins w [.cells #[.int .i8 a, .int .i8 b, .float .f32 f, .int .u8 v0, .int .u8 v1, .int .u8 v2, .int .u8 v3, .int .u8 v4, .int .u8 v5] 34 (0, 0), .cells (flCells l) 26 (0, 0), .cells (crateCells n c) 54 (0, 0), .cells (flCells zero36) 26 (0, 0)] W := by rw [hW]; exact Ins4 w _ _ _ _
  have G0 := hI.2.2 0 _ rfl
  have G1 := hI.2.2 1 _ rfl
  have G2 := hI.2.2 2 _ rfl
  have hsz : w.heap.size + 4 ≤ W.heap.size := hI.1
  have HC := Lib.hid (l02Placed_any w.heap.size (w.heap.size + 1) (w.heap.size + 1 + 1) a b f [v0, v1, v2, v3, v4, v5] l hl n c x y true W (by omega) (by omega) (by omega) h1 h2 h3 h4 h5 h6 (cell_of_row _ _ _ _ _ _ G0) (cell_of_row _ _ _ _ _ _ G0) (cell_of_row _ _ _ _ _ _ G0) (room_cv (w := w) G0) hv (fun j hj => (cell_of_row _ _ _ _ _ _ G1).trans (flCells_at (by rw [hl]; exact hj)))
    ((cell_of_row _ _ _ _ _ _ G2).trans (crateCells_0 _ _)) (fun k hk => (cell_of_row _ _ _ _ _ _ G2).trans (crateCells_at (by rw [hcl]; exact hk))))
  rw [Bool.and_true] at HC
  have HF := Lib.hid (fun h => gas_facts (a := a) (b := b) (f := f) (vs := [v0, v1, v2, v3, v4, v5]) (l := l) h hb)
  have HK := Lib.hid (fun (h : validCrate n c = true) => crate_upto h hcb)
  have HKN := Lib.hid (valid_count (n := n) (l := c))
  have HL := Lib.hid hl
  have HCL := Lib.hid hcl
  have HW := Lib.hid hW
  have hI := Lib.hid hI
  clear hW hv hb hcb G0 G1 G2 hsz
  cases hZ : ((validGas a b f [v0, v1, v2, v3, v4, v5] l && validCrate n c) && inG a b x y)
  · have hne : Hid (told (validGas a b f [v0, v1, v2, v3, v4, v5] l && validCrate n c) (inG a b x y) ≠ 0) := by
      cases hA : (validGas a b f [v0, v1, v2, v3, v4, v5] l && validCrate n c) <;> cases hB : inG a b x y <;> rw [hA, hB] at hZ <;> first | exact absurd hZ (by decide) | (show told _ _ ≠ 0; decide)
    obtain ⟨T, hT⟩ : ∃ T, told (validGas a b f [v0, v1, v2, v3, v4, v5] l && validCrate n c) (inG a b x y) = T := ⟨_, rfl⟩
    rw [hT] at hne HC
    rw [hT]
    have hne' : (T != 0) = true := by simpa using hne.out
    have hR : Hid (giveX l c x y n false = zero36) := rfl
    rw [hR.out]
    clear HF HK HKN hZ hne hT
    go_enter Try.func27, Try.ntmps27
    go_wp2_with fail
    rw [show (#[.float .f32 0, .float .f32 0, .float .f32 0, .float .f32 0, .float .f32 0, .float .f32 0, .float .f32 0, .float .f32 0, .float .f32 0, .float .f32 0, .float .f32 0, .float .f32 0, .float .f32 0, .float .f32 0, .float .f32 0, .float .f32 0, .float .f32 0, .float .f32 0, .float .f32 0, .float .f32 0, .float .f32 0, .float .f32 0, .float .f32 0, .float .f32 0, .float .f32 0, .float .f32 0, .float .f32 0, .float .f32 0, .float .f32 0, .float .f32 0, .float .f32 0, .float .f32 0, .float .f32 0, .float .f32 0, .float .f32 0, .float .f32 0] : Array Value) = flCells zero36 from rfl, ← HW.out]
    clear HW
    ((with_reducible refine (HC.out).mono ?_); rintro e w1 ⟨rfl, hb1⟩)
    have hI1 := Lib.hid (hI.out.below hb1)
    have g3 := Lib.hid (hI1.out.2.2 3 _ rfl)
    go_wp2_with ((with_reducible show wpList _ _ _ (⟨none, .store _ (.tmp 10) _, _, _, _, _⟩ :: _) _ _); refine wpList_store_row rfl 26 (.tmp 10) _ rfl (w.heap.size + 1 + 1 + 1) (flCells zero36) rfl rfl 26 (flCells zero36) g3.out (by kernel_rfl) (by rfl) (fl_oneCell _) ?_)
    exact bodyPost_ret (results_row_tmp rfl _ _ (w.heap.size + 1 + 1 + 1) 26 (flCells zero36) (0, 0) _ rfl (setRow_heap _ _ _ _ _ _ g3.out) Try.underlying26 rfl (by kernel_rfl)) rfl ⟨rfl, below_setRow hI1.out.2.1 (by omega) _⟩
  · rw [Bool.and_eq_true, Bool.and_eq_true] at hZ
    obtain ⟨⟨hV, hKv⟩, hi⟩ := hZ
    rw [hV, hKv, hi] at HC
    rw [hV, hKv, hi]
    obtain ⟨A, H, rfl, rfl, ⟨hA1, hA2⟩, ⟨hH1, hH2⟩, hu, _, _⟩ := HF.out hV
    obtain ⟨X, Y, rfl, rfl, hX, hY, _, _⟩ := inG_nat hi (by omega) (by omega)
    have hcu := HK.out hKv
    obtain ⟨n, rfl, hn⟩ := HKN.out hKv
    have hcu' : ∀ j, j < n → FL.upto 1 (ix c j) := fun j hj => hcu j (by omega)
    have HGv := Lib.hid (fun w hC d0 dv => l02Give_any l HL.out X Y hX hY hu (w.heap.size + 1 + 1) n hn c hcu' w hC d0 dv)
    have HGv := Lib.hid (fun C w hC d0 dv => l02Give_any l HL.out X Y hX hY hu C n hn c hcu' w hC d0 dv)
    have hR : Hid (giveX l c X Y n true = giveL l c (Y * 6 + X) n ∧ told (true && true) true = 0) := ⟨rfl, rfl⟩
    rw [hR.out.1, hR.out.2]
    have HM := Lib.hid (giveL_len HL.out c (Y * 6 + X) n)
    obtain ⟨M, hM⟩ : ∃ M, giveL l c (Y * 6 + X) n = M := ⟨_, rfl⟩
    rw [hM] at HGv HM
    rw [hM]
    clear HF HK HKN hV hKv hi hR hM hu hcu hcu'
    go_enter Try.func27, Try.ntmps27
    go_wp2_with fail
    rw [show (#[.float .f32 0, .float .f32 0, .float .f32 0, .float .f32 0, .float .f32 0, .float .f32 0, .float .f32 0, .float .f32 0, .float .f32 0, .float .f32 0, .float .f32 0, .float .f32 0, .float .f32 0, .float .f32 0, .float .f32 0, .float .f32 0, .float .f32 0, .float .f32 0, .float .f32 0, .float .f32 0, .float .f32 0, .float .f32 0, .float .f32 0, .float .f32 0, .float .f32 0, .float .f32 0, .float .f32 0, .float .f32 0, .float .f32 0, .float .f32 0, .float .f32 0, .float .f32 0, .float .f32 0, .float .f32 0, .float .f32 0, .float .f32 0] : Array Value) = flCells zero36 from rfl, ← HW.out]
    clear HW
    ((with_reducible refine (HC.out).mono ?_); rintro e w1 ⟨rfl, hb1⟩)
    have hI1 := Lib.hid (hI.out.below hb1)
    have g1 := Lib.hid (hI1.out.2.2 1 _ rfl)
    have g2 := Lib.hid (hI1.out.2.2 2 _ rfl)
    have hs1 : w.heap.size + 1 + 1 < w1.heap.size := by have := hI1.out.1; simp at this; omega
    clear hb1
    go_wp2_with ((with_reducible show wpList _ _ _ (⟨some 20, _, _, _, _, _⟩ :: _) _ _); refine wpList_load_row rfl 26 (.tmp 6) rfl (w.heap.size + 1) rfl 26 (flCells l) (0, 0) _ g1.out Try.underlying26 rfl (by rw [flCells_size, HL.out]; kernel_rfl) ?_)
    ((with_reducible refine (HGv.out _ _ hs1 ((cell_of_row _ _ _ _ _ _ g2.out).trans (crateCells_0 _ _)) (fun k hk => (cell_of_row _ _ _ _ _ _ g2.out).trans (crateCells_at (by rw [HCL.out]; exact hk)))).mono ?_); rintro e w2 ⟨rfl, hb2⟩)
    have hI2 := Lib.hid (hI1.out.below hb2)
    have g3 := Lib.hid (hI2.out.2.2 3 _ rfl)
    go_wp2_with ((with_reducible show wpList _ _ _ (⟨none, .store _ (.tmp 10) _, _, _, _, _⟩ :: _) _ _); refine wpList_store_row rfl 26 (.tmp 10) _ rfl (w.heap.size + 1 + 1 + 1) (flCells M) rfl rfl 26 (flCells zero36) g3.out (by rw [flCells_size, HM.out]; kernel_rfl) (by rw [flCells_size, flCells_size, HM.out]; rfl) (fl_oneCell _) ?_)
    exact bodyPost_ret (results_row_tmp rfl _ _ (w.heap.size + 1 + 1 + 1) 26 (flCells M) (0, 0) _ rfl (setRow_heap _ _ _ _ _ _ g3.out) Try.underlying26 rfl (by rw [flCells_size, HM.out]; kernel_rfl)) rfl ⟨rfl, below_setRow hI2.out.2.1 (by omega) _⟩
set_option maxRecDepth 100000 in
set_option maxHeartbeats 2000000 in
theorem impl_GiveOff (a b : Int) (f : Nat) (v0 v1 v2 v3 v4 v5 : Int) (l : List Nat) (hl : l.length = 36) (hb : ∀ i, ix l i < 4294967296) (n : Int) (c : List Nat) (hcl : c.length = 16) (hcb : ∀ i, ix c i < 4294967296) (h5 : -128 ≤ n) (h6 : n ≤ 127) (x y : Int) (w : World) (h1 : -128 ≤ a) (h2 : a ≤ 127) (h3 : -128 ≤ b) (h4 : b ≤ 127) :
    Calls Try.prog 29 #[.agg #[.int .i8 a, .int .i8 b, .float .f32 f, .int .u8 v0, .int .u8 v1, .int .u8 v2, .int .u8 v3, .int .u8 v4, .int .u8 v5], .agg (flCells l), .int .i64 x, .int .i64 y, .agg (crateCells n c)] w (Ret (.tuple #[.agg (flCells (giveX l c x y n ((validGas a b f [v0, v1, v2, v3, v4, v5] l && validCrate n c) && inG a b x y))), .int .i64 (told (validGas a b f [v0, v1, v2, v3, v4, v5] l && validCrate n c) (inG a b x y))]) w) := by
  have hI : Hid (Ins w [.cells #[.int .i8 a, .int .i8 b, .float .f32 f, .int .u8 v0, .int .u8 v1, .int .u8 v2, .int .u8 v3, .int .u8 v4, .int .u8 v5] 34 (0, 0), .cells (flCells l) 26 (0, 0), .cells (crateCells n c) 54 (0, 0), .cells (flCells zero36) 26 (0, 0)] ((((w.alloc (.cells #[.int .i8 a, .int .i8 b, .float .f32 f, .int .u8 v0, .int .u8 v1, .int .u8 v2, .int .u8 v3, .int .u8 v4, .int .u8 v5] 34)).alloc (.cells (flCells l) 26)).alloc (.cells (crateCells n c) 54)).alloc (.cells #[.float .f32 0, .float .f32 0, .float .f32 0, .float .f32 0, .float .f32 0, .float .f32 0, .float .f32 0, .float .f32 0, .float .f32 0, .float .f32 0, .float .f32 0, .float .f32 0, .float .f32 0, .float .f32 0, .float .f32 0, .float .f32 0, .float .f32 0, .float .f32 0, .float .f32 0, .float .f32 0, .float .f32 0, .float .f32 0, .float .f32 0, .float .f32 0, .float .f32 0, .float .f32 0, .float .f32 0, .float .f32 0, .float .f32 0, .float .f32 0, .float .f32 0, .float .f32 0, .float .f32 0, .float .f32 0, .float .f32 0, .float .f32 0] 26))) := Ins4 w _ _ _ _
  have HL := Lib.hid hl
  have HCL := Lib.hid hcl
  have HV := Lib.hid (fun w => impl_ValidGas a b f v0 v1 v2 v3 v4 v5 l hl w h1 h2 h3 h4)
  have HKc := Lib.hid (fun w => impl_ValidCrate n c hcl w h5 h6)
  have HH := Lib.hid (fun w => has_any a b f v0 v1 v2 v3 v4 v5 x y h1 h2 h3 h4 w)
  have HF := Lib.hid (fun h => gas_facts (a := a) (b := b) (f := f) (vs := [v0, v1, v2, v3, v4, v5]) (l := l) h hb)
  have HK := Lib.hid (fun (h : validCrate n c = true) => crate_upto h hcb)
  have HKN := Lib.hid (valid_count (n := n) (l := c))
  clear hb hcb h1 h2 h3 h4 h5 h6
  cases hV : validGas a b f [v0, v1, v2, v3, v4, v5] l
  · rw [hV] at HV
    have hR : Hid (giveX l c x y n (false && validCrate n c && inG a b x y) = zero36 ∧ told (false && validCrate n c) (inG a b x y) = 1) := ⟨rfl, rfl⟩
    rw [hR.out.1, hR.out.2]
    clear HF HK HKN hV
    go_enter Try.func29, Try.ntmps29
    go_wp2_with ((with_reducible show wpList _ _ _ (⟨some 14, _, _, _, _, _⟩ :: _) _ _); refine wpList_load_row rfl 26 (.tmp 6) rfl (w.heap.size + 1) rfl 26 (flCells l) (0, 0) _ ((hI.out).2.2 1 _ rfl) Try.underlying26 rfl (by rw [flCells_size, HL.out]; kernel_rfl) ?_)
    ((with_reducible refine (HV.out _).mono ?_); rintro e w1 ⟨rfl, hb1⟩)
    have hI1 := Lib.hid ((hI.out).below hb1)
    clear hb1
    have g3 := Lib.hid (hI1.out.2.2 3 _ rfl)
    go_wp2_with ((with_reducible show wpList _ _ _ (⟨none, .store _ (.tmp 10) _, _, _, _, _⟩ :: _) _ _); refine wpList_store_row rfl 26 (.tmp 10) _ rfl (w.heap.size + 1 + 1 + 1) (flCells zero36) rfl rfl 26 (flCells zero36) g3.out (by kernel_rfl) (by rfl) (fl_oneCell _) ?_)
    exact bodyPost_ret (results_row_tmp rfl _ _ (w.heap.size + 1 + 1 + 1) 26 (flCells zero36) (0, 0) _ rfl (setRow_heap _ _ _ _ _ _ g3.out) Try.underlying26 rfl (by kernel_rfl)) rfl ⟨rfl, below_setRow hI1.out.2.1 (by omega) _⟩
  · rw [hV] at HV
    cases hKv : validCrate n c
    · rw [hKv] at HKc
      have hR : Hid (giveX l c x y n (true && false && inG a b x y) = zero36 ∧ told (true && false) (inG a b x y) = 1) := ⟨rfl, rfl⟩
      rw [hR.out.1, hR.out.2]
      clear HF HK HKN hV hKv
      go_enter Try.func29, Try.ntmps29
      go_wp2_with ((with_reducible show wpList _ _ _ (⟨some 14, _, _, _, _, _⟩ :: _) _ _); refine wpList_load_row rfl 26 (.tmp 6) rfl (w.heap.size + 1) rfl 26 (flCells l) (0, 0) _ ((hI.out).2.2 1 _ rfl) Try.underlying26 rfl (by rw [flCells_size, HL.out]; kernel_rfl) ?_)
      ((with_reducible refine (HV.out _).mono ?_); rintro e w1 ⟨rfl, hb1⟩)
      have hI1 := Lib.hid ((hI.out).below hb1)
      clear hb1
      have g2 := Lib.hid (hI1.out.2.2 2 _ rfl)
      go_wp2_with ((with_reducible show wpList _ _ _ (⟨some 18, _, _, _, _, _⟩ :: _) _ _); refine wpList_load_row_g (by rfl) 54 (.tmp 9) rfl (w.heap.size + 1 + 1) rfl 54 (crateCells n c) (0, 0) _ g2.out Try.underlying54 rfl (by rw [crateCells_size, HCL.out]; kernel_rfl) ?_)
      ((with_reducible refine (HKc.out _).mono ?_); rintro e w2 ⟨rfl, hb2⟩)
      have hI2 := Lib.hid (hI1.out.below hb2)
      clear hb2
      have g3 := Lib.hid (hI2.out.2.2 3 _ rfl)
      go_wp2_with ((with_reducible show wpList _ _ _ (⟨none, .store _ (.tmp 10) _, _, _, _, _⟩ :: _) _ _); refine wpList_store_row rfl 26 (.tmp 10) _ rfl (w.heap.size + 1 + 1 + 1) (flCells zero36) rfl rfl 26 (flCells zero36) g3.out (by kernel_rfl) (by rfl) (fl_oneCell _) ?_)
      exact bodyPost_ret (results_row_tmp rfl _ _ (w.heap.size + 1 + 1 + 1) 26 (flCells zero36) (0, 0) _ rfl (setRow_heap _ _ _ _ _ _ g3.out) Try.underlying26 rfl (by kernel_rfl)) rfl ⟨rfl, below_setRow hI2.out.2.1 (by omega) _⟩
    · rw [hKv] at HKc
      cases hi : inG a b x y
      · rw [hi] at HH
        have hR : Hid (giveX l c x y n (true && true && false) = zero36 ∧ told (true && true) false = 2) := ⟨rfl, rfl⟩
        rw [hR.out.1, hR.out.2]
        clear HF HK HKN hV hKv hi
        go_enter Try.func29, Try.ntmps29
        go_wp2_with ((with_reducible show wpList _ _ _ (⟨some 14, _, _, _, _, _⟩ :: _) _ _); refine wpList_load_row rfl 26 (.tmp 6) rfl (w.heap.size + 1) rfl 26 (flCells l) (0, 0) _ ((hI.out).2.2 1 _ rfl) Try.underlying26 rfl (by rw [flCells_size, HL.out]; kernel_rfl) ?_)
        ((with_reducible refine (HV.out _).mono ?_); rintro e w1 ⟨rfl, hb1⟩)
        have hI1 := Lib.hid ((hI.out).below hb1)
        clear hb1
        have g2 := Lib.hid (hI1.out.2.2 2 _ rfl)
        go_wp2_with ((with_reducible show wpList _ _ _ (⟨some 18, _, _, _, _, _⟩ :: _) _ _); refine wpList_load_row_g (by rfl) 54 (.tmp 9) rfl (w.heap.size + 1 + 1) rfl 54 (crateCells n c) (0, 0) _ g2.out Try.underlying54 rfl (by rw [crateCells_size, HCL.out]; kernel_rfl) ?_)
        ((with_reducible refine (HKc.out _).mono ?_); rintro e w2 ⟨rfl, hb2⟩)
        have hI2 := Lib.hid (hI1.out.below hb2)
        clear hb2
        have r0 := hI2.out.2.2 0 _ rfl
        have c0 : w2.cell? ⟨w.heap.size, 0, none⟩ = some (.int .i8 a) := cell_of_row _ _ _ _ _ _ r0
        have c1 : w2.cell? ⟨w.heap.size, 1, none⟩ = some (.int .i8 b) := cell_of_row _ _ _ _ _ _ r0
        have c2 : w2.cell? ⟨w.heap.size, 2, none⟩ = some (.float .f32 f) := cell_of_row _ _ _ _ _ _ r0
        have c3 : w2.cell? ⟨w.heap.size, 3, none⟩ = some (.int .u8 v0) := cell_of_row _ _ _ _ _ _ r0
        have c4 : w2.cell? ⟨w.heap.size, 4, none⟩ = some (.int .u8 v1) := cell_of_row _ _ _ _ _ _ r0
        have c5 : w2.cell? ⟨w.heap.size, 5, none⟩ = some (.int .u8 v2) := cell_of_row _ _ _ _ _ _ r0
        have c6 : w2.cell? ⟨w.heap.size, 6, none⟩ = some (.int .u8 v3) := cell_of_row _ _ _ _ _ _ r0
        have c7 : w2.cell? ⟨w.heap.size, 7, none⟩ = some (.int .u8 v4) := cell_of_row _ _ _ _ _ _ r0
        have c8 : w2.cell? ⟨w.heap.size, 8, none⟩ = some (.int .u8 v5) := cell_of_row _ _ _ _ _ _ r0
        clear r0
        go_wp2_with fail
        ((with_reducible refine (HH.out _).mono ?_); rintro e w3 ⟨rfl, hb3⟩)
        have hI3 := Lib.hid (hI2.out.below hb3)
        clear hb3 c0 c1 c2 c3 c4 c5 c6 c7 c8
        have g3 := Lib.hid (hI3.out.2.2 3 _ rfl)
        go_wp2_with ((with_reducible show wpList _ _ _ (⟨none, .store _ (.tmp 10) _, _, _, _, _⟩ :: _) _ _); refine wpList_store_row rfl 26 (.tmp 10) _ rfl (w.heap.size + 1 + 1 + 1) (flCells zero36) rfl rfl 26 (flCells zero36) g3.out (by kernel_rfl) (by rfl) (fl_oneCell _) ?_)
        exact bodyPost_ret (results_row_tmp rfl _ _ (w.heap.size + 1 + 1 + 1) 26 (flCells zero36) (0, 0) _ rfl (setRow_heap _ _ _ _ _ _ g3.out) Try.underlying26 rfl (by kernel_rfl)) rfl ⟨rfl, below_setRow hI3.out.2.1 (by omega) _⟩
      · rw [hi] at HH
        obtain ⟨A, H, rfl, rfl, ⟨hA1, hA2⟩, ⟨hH1, hH2⟩, hu, _, _⟩ := HF.out hV
        obtain ⟨X, Y, rfl, rfl, hX, hY, _, _⟩ := inG_nat hi (by omega) (by omega)
        have hcu := HK.out hKv
        obtain ⟨n, rfl, hn⟩ := HKN.out hKv
        have HGv := Lib.hid (fun w => give_any l HL.out X Y hX hY hu n hn c HCL.out (fun j hj => hcu j (by omega)) w)
        have hR : Hid (giveX l c X Y n (true && true && true) = giveL l c (Y * 6 + X) n ∧ told (true && true) true = 0) := ⟨rfl, rfl⟩
        rw [hR.out.1, hR.out.2]
        have HM := Lib.hid (giveL_len HL.out c (Y * 6 + X) n)
        obtain ⟨M, hM⟩ : ∃ M, giveL l c (Y * 6 + X) n = M := ⟨_, rfl⟩
        rw [hM] at HGv HM
        rw [hM]
        clear HF HK HKN hV hKv hi hR hM hu hcu
        go_enter Try.func29, Try.ntmps29
        go_wp2_with ((with_reducible show wpList _ _ _ (⟨some 14, _, _, _, _, _⟩ :: _) _ _); refine wpList_load_row rfl 26 (.tmp 6) rfl (w.heap.size + 1) rfl 26 (flCells l) (0, 0) _ ((hI.out).2.2 1 _ rfl) Try.underlying26 rfl (by rw [flCells_size, HL.out]; kernel_rfl) ?_)
        ((with_reducible refine (HV.out _).mono ?_); rintro e w1 ⟨rfl, hb1⟩)
        have hI1 := Lib.hid ((hI.out).below hb1)
        clear hb1
        have g2 := Lib.hid (hI1.out.2.2 2 _ rfl)
        go_wp2_with ((with_reducible show wpList _ _ _ (⟨some 18, _, _, _, _, _⟩ :: _) _ _); refine wpList_load_row_g (by rfl) 54 (.tmp 9) rfl (w.heap.size + 1 + 1) rfl 54 (crateCells n c) (0, 0) _ g2.out Try.underlying54 rfl (by rw [crateCells_size, HCL.out]; kernel_rfl) ?_)
        ((with_reducible refine (HKc.out _).mono ?_); rintro e w2 ⟨rfl, hb2⟩)
        have hI2 := Lib.hid (hI1.out.below hb2)
        clear hb2
        have r0 := hI2.out.2.2 0 _ rfl
        have c0 : w2.cell? ⟨w.heap.size, 0, none⟩ = some (.int .i8 A) := cell_of_row _ _ _ _ _ _ r0
        have c1 : w2.cell? ⟨w.heap.size, 1, none⟩ = some (.int .i8 H) := cell_of_row _ _ _ _ _ _ r0
        have c2 : w2.cell? ⟨w.heap.size, 2, none⟩ = some (.float .f32 f) := cell_of_row _ _ _ _ _ _ r0
        have c3 : w2.cell? ⟨w.heap.size, 3, none⟩ = some (.int .u8 v0) := cell_of_row _ _ _ _ _ _ r0
        have c4 : w2.cell? ⟨w.heap.size, 4, none⟩ = some (.int .u8 v1) := cell_of_row _ _ _ _ _ _ r0
        have c5 : w2.cell? ⟨w.heap.size, 5, none⟩ = some (.int .u8 v2) := cell_of_row _ _ _ _ _ _ r0
        have c6 : w2.cell? ⟨w.heap.size, 6, none⟩ = some (.int .u8 v3) := cell_of_row _ _ _ _ _ _ r0
        have c7 : w2.cell? ⟨w.heap.size, 7, none⟩ = some (.int .u8 v4) := cell_of_row _ _ _ _ _ _ r0
        have c8 : w2.cell? ⟨w.heap.size, 8, none⟩ = some (.int .u8 v5) := cell_of_row _ _ _ _ _ _ r0
        clear r0
        go_wp2_with fail
        ((with_reducible refine (HH.out _).mono ?_); rintro e w3 ⟨rfl, hb3⟩)
        have hI3 := Lib.hid (hI2.out.below hb3)
        clear hb3 c0 c1 c2 c3 c4 c5 c6 c7 c8
        have g1' := Lib.hid (hI3.out.2.2 1 _ rfl)
        have g2' := Lib.hid (hI3.out.2.2 2 _ rfl)
        go_wp2_with (first | ((with_reducible show wpList _ _ _ (⟨some 30, _, _, _, _, _⟩ :: _) _ _); refine wpList_load_row rfl 26 (.tmp 6) rfl (w.heap.size + 1) rfl 26 (flCells l) (0, 0) _ g1'.out Try.underlying26 rfl (by rw [flCells_size, HL.out]; kernel_rfl) ?_) | ((with_reducible show wpList _ _ _ (⟨some 33, _, _, _, _, _⟩ :: _) _ _); refine wpList_load_row_g (by rfl) 54 (.tmp 9) rfl (w.heap.size + 1 + 1) rfl 54 (crateCells n c) (0, 0) _ g2'.out Try.underlying54 rfl (by rw [crateCells_size, HCL.out]; kernel_rfl) ?_))
        ((with_reducible refine (HGv.out _).mono ?_); rintro e w4 ⟨rfl, hb4⟩)
        have hI4 := Lib.hid (hI3.out.below hb4)
        have g3 := Lib.hid (hI4.out.2.2 3 _ rfl)
        go_wp2_with ((with_reducible show wpList _ _ _ (⟨none, .store _ (.tmp 10) _, _, _, _, _⟩ :: _) _ _); refine wpList_store_row rfl 26 (.tmp 10) _ rfl (w.heap.size + 1 + 1 + 1) (flCells M) rfl rfl 26 (flCells zero36) g3.out (by rw [flCells_size, HM.out]; kernel_rfl) (by rw [flCells_size, flCells_size, HM.out]; rfl) (fl_oneCell _) ?_)
        exact bodyPost_ret (results_row_tmp rfl _ _ (w.heap.size + 1 + 1 + 1) 26 (flCells M) (0, 0) _ rfl (setRow_heap _ _ _ _ _ _ g3.out) Try.underlying26 rfl (by rw [flCells_size, HM.out]; kernel_rfl)) rfl ⟨rfl, below_setRow hI4.out.2.1 (by omega) _⟩
end Go.Proofs.Ytejipgofbefbjaa
