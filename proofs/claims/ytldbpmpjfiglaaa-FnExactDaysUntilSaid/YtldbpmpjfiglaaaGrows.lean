/-
  CONTRACTS: crates that ripen, asked from outside.
-/
import Derived.Test.YtldbpmpjfiglaaaGrow
set_option linter.unusedVariables false
set_option linter.unusedSimpArgs false
namespace Go.Proofs.Ytldbpmpjfiglaaa
open Go.RowKit Go.FV

def cntX (n : Int) (Z : Bool) : Int := if Z then n else 0
def fruX (n : Int) (l : List Nat) (r d : Nat) (Z : Bool) : List Nat := if Z then growDays l r n.toNat d else zero16
theorem both_upto {n : Int} {l : List Nat} {x y : Nat} (h : (validCrate n l && airOk x y) = true) (hb : ∀ i, ix l i < 4294967296) (hx : x < 4294967296) (hy : y < 4294967296) :
    ∃ k : Nat, n = k ∧ k ≤ 16 ∧ FL.upto 1 x ∧ FL.upto 1 y ∧ ∀ j, j < k → FL.upto 1 (ix l j) := by
  rw [Bool.and_eq_true] at h
  obtain ⟨h1, h2⟩ := h
  obtain ⟨k, rfl, hk⟩ := valid_count h1
  unfold airOk at h2
  rw [Bool.and_eq_true] at h2
  exact ⟨k, rfl, hk, part_upto h2.1 (fin_part h2.1 hx), part_upto h2.2 (fin_part h2.2 hy), fun j hj => crate_upto h1 hb j (by omega)⟩
set_option maxRecDepth 100000 in
set_option maxHeartbeats 2000000 in
theorem spec_GrowOnce (n : Int) (l : List Nat) (hl : l.length = 16) (hb : ∀ i, ix l i < 4294967296) (h1 : -128 ≤ n) (h2 : n ≤ 127) (x y : Nat) (hx : x < 4294967296) (hy : y < 4294967296) (w : World) :
    Calls Try.prog 15 #[.agg (crateCells n l), .agg #[.float .f32 x, .float .f32 y]] w
      (Ret (.tuple #[.agg (crateCells (cntX n (validCrate n l && airOk x y)) (fruX n l (rateW x y) 1 (validCrate n l && airOk x y))), .int .i64 (told (validCrate n l && airOk x y) true)]) w) := by
  have HL := Lib.hid hl
  obtain ⟨W, hW⟩ : ∃ W, W = ((w.alloc (.cells (crateCells n l) 29)).alloc (.cells #[.float .f32 x, .float .f32 y] 33)).alloc (.cells #[.int .i8 0, .float .f32 0, .float .f32 0, .float .f32 0, .float .f32 0, .float .f32 0, .float .f32 0, .float .f32 0, .float .f32 0, .float .f32 0, .float .f32 0, .float .f32 0, .float .f32 0, .float .f32 0, .float .f32 0, .float .f32 0, .float .f32 0] 29) := ⟨_, rfl⟩
  have G0 : Hid (W.heap[w.heap.size]? = some (.cells (crateCells n l) 29 (0, 0))) := by rw [hW]; exact ha3_0 _ _ _ _
  have G1 : Hid (W.heap[w.heap.size + 1]? = some (.cells #[.float .f32 x, .float .f32 y] 33 (0, 0))) := by rw [hW]; exact ha3_1 _ _ _ _
  have G2 : Hid (W.heap[w.heap.size + 1 + 1]? = some (.cells (crateCells 0 zero16) 29 (0, 0))) := by rw [hW]; exact ha3_2 _ _ _ _
  have HB : Hid (Below w.heap.size w W) := by rw [hW]; (repeat (first | exact Below.refl _ _ | assumption | refine below_new ?_ _ | refine below_step ?_ (by assumption) | refine Below.drew ?_ | refine below_dn ?_ _ | refine Below.setCell ?_ (by simp <;> omega) _))
  have hsz : w.heap.size + 1 + 1 < W.heap.size := by rw [hW, size_al, size_al, size_al]; omega
  have HC := Lib.hid (l01Both_any w.heap.size n l (w.heap.size + 1) x y true W h1 h2 (cell_of_row _ _ _ _ _ _ G0.out) (fun k hk => (cell_of_row _ _ _ _ _ _ G0.out).trans (crateCells_at (by rw [hl]; exact hk))) (cell_of_row _ _ _ _ _ _ G1.out) (cell_of_row _ _ _ _ _ _ G1.out))
  have HU := Lib.hid (fun h => both_upto (n := n) (l := l) (x := x) (y := y) h hb hx hy)
  have HW := Lib.hid hW
  clear hW hb hx hy
  cases hZ : (validCrate n l && airOk x y)
  · rw [hZ] at HC
    clear HU
    go_enter Try.func15, Try.ntmps15
    go_wp2_with fail
    rw [← HW.out]
    clear HW
    ((with_reducible refine (HC.out).mono ?_); rintro e w' ⟨rfl, rfl⟩)
    go_wp2_with ((with_reducible show wpList _ _ _ (⟨none, .store _ (.tmp 4) _, _, _, _, _⟩ :: _) _ _); refine wpList_store_row rfl 29 (.tmp 4) _ rfl (w.heap.size + 1 + 1) (crateCells 0 zero16) rfl rfl 29 (crateCells 0 zero16) (G2.out) (by kernel_rfl) rfl (crate_oneCell _ _) ?_)
    exact bodyPost_ret (results_row_tmp rfl _ _ (w.heap.size + 1 + 1) 29 (crateCells 0 zero16) (0, 0) _ rfl (setRow_heap _ _ _ _ _ _ G2.out) Try.underlying29 rfl (by kernel_rfl)) rfl ⟨rfl, below_setRow HB.out (by omega) _⟩
  · rw [hZ] at HC
    obtain ⟨k, rfl, hk, ux, uy, hu⟩ := HU.out hZ
    clear HU hZ
    have HR := Lib.hid (fun w c0 c1 => l01Rate_any (w.heap.size + 1) x y ux uy w c0 c1)
    have HR := Lib.hid (fun b w c0 c1 => l01Rate_any b x y ux uy w c0 c1)
    have HG : Hid (∀ w, Calls Try.prog 59 #[.agg (crateCells k l), .float .f32 (rateW x y), .int .i64 1] w (Ret (.agg (crateCells k (growDays l (rateW x y) k 1))) w)) := fun w => l01Grow_any k hk l HL.out (rateW x y) (rateW_ok ux uy) hu 1 (by omega) w
    have hF : Hid (fruX k l (rateW x y) 1 true = growDays l (rateW x y) k 1 ∧ cntX k true = k) := ⟨rfl, rfl⟩
    rw [hF.out.1, hF.out.2]
    have HM := Lib.hid (growDays_len HL.out (rateW x y) k 1)
    obtain ⟨r, hr⟩ : ∃ r, rateW x y = r := ⟨_, rfl⟩
    rw [hr] at HR HG HM
    rw [hr]
    obtain ⟨M, hM⟩ : ∃ M, growDays l r k 1 = M := ⟨_, rfl⟩
    rw [hM] at HG HM
    rw [hM]
    clear hr hM hF ux uy hu
    go_enter Try.func15, Try.ntmps15
    go_wp2_with fail
    rw [← HW.out]
    clear HW
    ((with_reducible refine (HC.out).mono ?_); rintro e w' ⟨rfl, rfl⟩)
    go_wp2_with fail
    refine wp_region_held_drew (S := fun W => w.heap.size + 1 + 1 < W.heap.size ∧ Below w.heap.size w W ∧ W.heap[w.heap.size]? = some (.cells (crateCells k l) 29 (0, 0))) (by kernel_rfl) ⟨hsz, Below.drew HB.out, G0.out⟩ (fun hHeld => ?_)
    refine wpAnyH_take (i := 0) rfl (by kernel_rfl) (by kernel_rfl) (by kernel_rfl) (fun _ _ _ h => h) (yieldsIf_load_mid (by rfl) _ _ rfl _ _ rfl (crateCells k l).toList _ (fun W hW j v hv => (cell_of_row _ _ _ _ _ _ (hW.2.2)).trans (by rw [Nat.zero_add, ← hv]; simp)) Try.underlying29 rfl (by rw [Array.length_toList, crateCells_size, HL.out]; kernel_rfl)) hHeld ?_
    refine wpAnyH_ready (rs := [1]) (by kernel_rfl) (by simp) (AllReadyH.cons rfl (fun K' hK => ?_) AllReadyH.nil); rw [if_pos (by rfl)]; (try simp only [Act.put, List.setIfInBounds_toArray, List.set_cons_zero, List.set_cons_succ])
    go_wp2_with fail
    ((with_reducible refine (HR.out _ _ (cell_of_row _ _ _ _ _ _ G1.out) (cell_of_row _ _ _ _ _ _ G1.out)).mono ?_); rintro e w' ⟨rfl, m, rfl⟩)
    refine hK.out _ _ ⟨hsz, below_dn (Below.drew HB.out) _, G0.out⟩ (fun hH1 => ?_)
    clear hK
    refine wpAnyH_ready (rs := [2]) (by kernel_rfl) (by simp) (AllReadyH.cons rfl (fun K' hK => ?_) AllReadyH.nil); rw [if_pos (by rfl)]; (try simp only [Act.put, List.setIfInBounds_toArray, List.set_cons_zero, List.set_cons_succ])
    go_wp2_with fail
    ((with_reducible refine (HG.out _).mono ?_); rintro e w2 ⟨rfl, hb2⟩)
    have hsz2 : w.heap.size + 1 + 1 < w2.heap.size := Nat.lt_of_lt_of_le hsz hb2.size
    have g2 : Hid (w2.heap[w.heap.size + 1 + 1]? = some (.cells (crateCells 0 zero16) 29 (0, 0))) := below_heap hb2 G2.out
    have hB2 := below_step (below_dn HB.out _) hb2
    refine hK.out _ _ ⟨hsz2, hB2, below_heap hb2 G0.out⟩ (fun hH2 => ?_)
    clear hK
    refine wpAnyH_ready (rs := [3]) (by kernel_rfl) (by simp) (AllReadyH.cons rfl (fun K' hK => ?_) AllReadyH.nil); rw [if_pos (by rfl)]; (try simp only [Act.put, List.setIfInBounds_toArray, List.set_cons_zero, List.set_cons_succ])
    refine wp_store_row 29 _ _ rfl (w.heap.size + 1 + 1) (crateCells k M) rfl rfl 29 (crateCells 0 zero16) g2.out (by rw [crateCells_size, HM.out]; kernel_rfl) (by rw [crateCells_size, crateCells_size, HM.out]; rfl) (crate_oneCell _ _) ?_
    refine hK.out _ _ ⟨by simpa [World.setRow] using hsz2, below_setRow hB2 (by omega) _, by rw [setRow_other _ _ _ _ (by omega)]; exact hH2.2.2⟩ (fun hH3 => ?_)
    clear hK
    refine wpAnyH_ready (rs := [4]) (by kernel_rfl) (by simp) (AllReadyH.cons rfl (fun K' hK => ?_) AllReadyH.nil); rw [if_pos (by rfl)]; (try simp only [Act.put, List.setIfInBounds_toArray, List.set_cons_zero, List.set_cons_succ])
    go_wp2_with fail
    refine hK.out _ _ hH3 (fun hH4 => ?_)
    clear hK
    refine wpAnyH_done (by kernel_rfl) ?_ _
    clear hHeld hH1 hH2 hH4
    go_wp2_with fail
    exact bodyPost_ret (results_row_tmp rfl _ _ (w.heap.size + 1 + 1) 29 (crateCells k M) (0, 0) _ rfl (setRow_heap _ _ _ _ _ _ g2.out) Try.underlying29 rfl (by rw [crateCells_size, HM.out]; kernel_rfl)) rfl ⟨rfl, hH3.2.1⟩
set_option maxRecDepth 100000 in
set_option maxHeartbeats 2000000 in
theorem spec_GrowDays (n : Int) (l : List Nat) (hl : l.length = 16) (hb : ∀ i, ix l i < 4294967296) (h1 : -128 ≤ n) (h2 : n ≤ 127) (x y : Nat) (hx : x < 4294967296) (hy : y < 4294967296) (d : Int) (w : World) :
    Calls Try.prog 20 #[.agg (crateCells n l), .agg #[.float .f32 x, .float .f32 y], .int .i64 d] w
      (Ret (.tuple #[.agg (crateCells (cntX n (validCrate n l && airOk x y && stepsB d)) (fruX n l (rateW x y) d.toNat (validCrate n l && airOk x y && stepsB d))), .int .i64 (told (validCrate n l && airOk x y) (stepsB d))]) w) := by
  have HL := Lib.hid hl
  obtain ⟨W, hW⟩ : ∃ W, W = ((w.alloc (.cells (crateCells n l) 29)).alloc (.cells #[.float .f32 x, .float .f32 y] 33)).alloc (.cells #[.int .i8 0, .float .f32 0, .float .f32 0, .float .f32 0, .float .f32 0, .float .f32 0, .float .f32 0, .float .f32 0, .float .f32 0, .float .f32 0, .float .f32 0, .float .f32 0, .float .f32 0, .float .f32 0, .float .f32 0, .float .f32 0, .float .f32 0] 29) := ⟨_, rfl⟩
  have G0 : Hid (W.heap[w.heap.size]? = some (.cells (crateCells n l) 29 (0, 0))) := by rw [hW]; exact ha3_0 _ _ _ _
  have G1 : Hid (W.heap[w.heap.size + 1]? = some (.cells #[.float .f32 x, .float .f32 y] 33 (0, 0))) := by rw [hW]; exact ha3_1 _ _ _ _
  have G2 : Hid (W.heap[w.heap.size + 1 + 1]? = some (.cells (crateCells 0 zero16) 29 (0, 0))) := by rw [hW]; exact ha3_2 _ _ _ _
  have HB : Hid (Below w.heap.size w W) := by rw [hW]; (repeat (first | exact Below.refl _ _ | assumption | refine below_new ?_ _ | refine below_step ?_ (by assumption) | refine Below.drew ?_ | refine below_dn ?_ _ | refine Below.setCell ?_ (by simp <;> omega) _))
  have hsz : w.heap.size + 1 + 1 < W.heap.size := by rw [hW, size_al, size_al, size_al]; omega
  have HC := Lib.hid (l01Both_any w.heap.size n l (w.heap.size + 1) x y (stepsB d) W h1 h2 (cell_of_row _ _ _ _ _ _ G0.out) (fun k hk => (cell_of_row _ _ _ _ _ _ G0.out).trans (crateCells_at (by rw [hl]; exact hk))) (cell_of_row _ _ _ _ _ _ G1.out) (cell_of_row _ _ _ _ _ _ G1.out))
  have HD := Lib.hid (fun w => spec_l01Days d w)
  have HU := Lib.hid (fun h => both_upto (n := n) (l := l) (x := x) (y := y) h hb hx hy)
  have HW := Lib.hid hW
  clear hW hb hx hy
  cases hZ : (validCrate n l && airOk x y && stepsB d)
  · have hne : Hid (told (validCrate n l && airOk x y) (stepsB d) ≠ 0) := by
      cases hA : (validCrate n l && airOk x y) <;> cases hB : stepsB d <;> rw [hA, hB] at hZ <;> first | exact absurd hZ (by decide) | (show told _ _ ≠ 0; decide)
    obtain ⟨T, hT⟩ : ∃ T, told (validCrate n l && airOk x y) (stepsB d) = T := ⟨_, rfl⟩
    obtain ⟨F, hF⟩ : ∃ F, stepsB d = F := ⟨_, rfl⟩
    have hZ2 := hZ
    rw [hT] at hne HC
    rw [hT]
    rw [hF] at HC HD
    have hne' : (T != 0) = true := by simpa using hne.out
    clear HU hZ hZ2 hne hT hF
    go_enter Try.func20, Try.ntmps20
    go_wp2_with (go_at_call 64; ((with_reducible refine (HD.out _).mono ?_); rintro e w' ⟨rfl, rfl⟩))
    rw [← HW.out]
    clear HW
    ((with_reducible refine (HC.out).mono ?_); rintro e w' ⟨rfl, rfl⟩)
    go_wp2_with ((with_reducible show wpList _ _ _ (⟨none, .store _ (.tmp 6) _, _, _, _, _⟩ :: _) _ _); refine wpList_store_row rfl 29 (.tmp 6) _ rfl (w.heap.size + 1 + 1) (crateCells 0 zero16) rfl rfl 29 (crateCells 0 zero16) (G2.out) (by kernel_rfl) rfl (crate_oneCell _ _) ?_)
    exact bodyPost_ret (results_row_tmp rfl _ _ (w.heap.size + 1 + 1) 29 (crateCells 0 zero16) (0, 0) _ rfl (setRow_heap _ _ _ _ _ _ G2.out) Try.underlying29 rfl (by kernel_rfl)) rfl ⟨rfl, below_setRow HB.out (by omega) _⟩
  · rw [Bool.and_eq_true] at hZ
    obtain ⟨hZ, hF⟩ := hZ
    rw [hZ, hF] at HC
    rw [hF] at HD
    rw [hZ, hF]
    obtain ⟨k, rfl, hk, ux, uy, hu⟩ := HU.out hZ
    obtain ⟨d, rfl, hd⟩ := stepsB_nat hF
    clear HU hZ hF
    have HR := Lib.hid (fun w c0 c1 => l01Rate_any (w.heap.size + 1) x y ux uy w c0 c1)
    have HR := Lib.hid (fun b w c0 c1 => l01Rate_any b x y ux uy w c0 c1)
    have HG : Hid (∀ w, Calls Try.prog 59 #[.agg (crateCells k l), .float .f32 (rateW x y), .int .i64 d] w (Ret (.agg (crateCells k (growDays l (rateW x y) k d))) w)) := fun w => l01Grow_any k hk l HL.out (rateW x y) (rateW_ok ux uy) hu d hd w
    have hF : Hid (fruX k l (rateW x y) (d : Int).toNat true = growDays l (rateW x y) k d ∧ cntX k true = k) := ⟨rfl, rfl⟩
    rw [hF.out.1, hF.out.2]
    have HM := Lib.hid (growDays_len HL.out (rateW x y) k d)
    obtain ⟨r, hr⟩ : ∃ r, rateW x y = r := ⟨_, rfl⟩
    rw [hr] at HR HG HM
    rw [hr]
    obtain ⟨M, hM⟩ : ∃ M, growDays l r k d = M := ⟨_, rfl⟩
    rw [hM] at HG HM
    rw [hM]
    clear hr hM hF ux uy hu
    go_enter Try.func20, Try.ntmps20
    go_wp2_with (go_at_call 64; ((with_reducible refine (HD.out _).mono ?_); rintro e w' ⟨rfl, rfl⟩))
    rw [← HW.out]
    clear HW
    ((with_reducible refine (HC.out).mono ?_); rintro e w' ⟨rfl, rfl⟩)
    go_wp2_with fail
    refine wp_region_held_drew (S := fun W => w.heap.size + 1 + 1 < W.heap.size ∧ Below w.heap.size w W ∧ W.heap[w.heap.size]? = some (.cells (crateCells k l) 29 (0, 0))) (by kernel_rfl) ⟨hsz, Below.drew HB.out, G0.out⟩ (fun hHeld => ?_)
    refine wpAnyH_take (i := 0) rfl (by kernel_rfl) (by kernel_rfl) (by kernel_rfl) (fun _ _ _ h => h) (yieldsIf_load_mid (by rfl) _ _ rfl _ _ rfl (crateCells k l).toList _ (fun W hW j v hv => (cell_of_row _ _ _ _ _ _ (hW.2.2)).trans (by rw [Nat.zero_add, ← hv]; simp)) Try.underlying29 rfl (by rw [Array.length_toList, crateCells_size, HL.out]; kernel_rfl)) hHeld ?_
    refine wpAnyH_take (i := 2) (v := .int .i64 d) rfl (by kernel_rfl) (by kernel_rfl) (by kernel_rfl) (fun _ _ _ h => h) (Or.inl ⟨by rfl, fun w _ => by go_simp⟩) hHeld ?_
    refine wpAnyH_ready (rs := [1]) (by kernel_rfl) (by simp) (AllReadyH.cons rfl (fun K' hK => ?_) AllReadyH.nil); rw [if_pos (by rfl)]; (try simp only [Act.put, List.setIfInBounds_toArray, List.set_cons_zero, List.set_cons_succ])
    go_wp2_with fail
    ((with_reducible refine (HR.out _ _ (cell_of_row _ _ _ _ _ _ G1.out) (cell_of_row _ _ _ _ _ _ G1.out)).mono ?_); rintro e w' ⟨rfl, m, rfl⟩)
    refine hK.out _ _ ⟨hsz, below_dn (Below.drew HB.out) _, G0.out⟩ (fun hH1 => ?_)
    clear hK
    refine wpAnyH_ready (rs := [3]) (by kernel_rfl) (by simp) (AllReadyH.cons rfl (fun K' hK => ?_) AllReadyH.nil); rw [if_pos (by rfl)]; (try simp only [Act.put, List.setIfInBounds_toArray, List.set_cons_zero, List.set_cons_succ])
    go_wp2_with fail
    ((with_reducible refine (HG.out _).mono ?_); rintro e w2 ⟨rfl, hb2⟩)
    have hsz2 : w.heap.size + 1 + 1 < w2.heap.size := Nat.lt_of_lt_of_le hsz hb2.size
    have g2 : Hid (w2.heap[w.heap.size + 1 + 1]? = some (.cells (crateCells 0 zero16) 29 (0, 0))) := below_heap hb2 G2.out
    have hB2 := below_step (below_dn HB.out _) hb2
    refine hK.out _ _ ⟨hsz2, hB2, below_heap hb2 G0.out⟩ (fun hH2 => ?_)
    clear hK
    refine wpAnyH_ready (rs := [4]) (by kernel_rfl) (by simp) (AllReadyH.cons rfl (fun K' hK => ?_) AllReadyH.nil); rw [if_pos (by rfl)]; (try simp only [Act.put, List.setIfInBounds_toArray, List.set_cons_zero, List.set_cons_succ])
    refine wp_store_row 29 _ _ rfl (w.heap.size + 1 + 1) (crateCells k M) rfl rfl 29 (crateCells 0 zero16) g2.out (by rw [crateCells_size, HM.out]; kernel_rfl) (by rw [crateCells_size, crateCells_size, HM.out]; rfl) (crate_oneCell _ _) ?_
    refine hK.out _ _ ⟨by simpa [World.setRow] using hsz2, below_setRow hB2 (by omega) _, by rw [setRow_other _ _ _ _ (by omega)]; exact hH2.2.2⟩ (fun hH3 => ?_)
    clear hK
    refine wpAnyH_ready (rs := [5]) (by kernel_rfl) (by simp) (AllReadyH.cons rfl (fun K' hK => ?_) AllReadyH.nil); rw [if_pos (by rfl)]; (try simp only [Act.put, List.setIfInBounds_toArray, List.set_cons_zero, List.set_cons_succ])
    go_wp2_with fail
    refine hK.out _ _ hH3 (fun hH4 => ?_)
    clear hK
    refine wpAnyH_done (by kernel_rfl) ?_ _
    clear hHeld hH1 hH2 hH4
    go_wp2_with fail
    exact bodyPost_ret (results_row_tmp rfl _ _ (w.heap.size + 1 + 1) 29 (crateCells k M) (0, 0) _ rfl (setRow_heap _ _ _ _ _ _ g2.out) Try.underlying29 rfl (by rw [crateCells_size, HM.out]; kernel_rfl)) rfl ⟨rfl, hH3.2.1⟩
set_option maxRecDepth 100000 in
set_option maxHeartbeats 2000000 in
theorem impl_GrowOnce (n : Int) (l : List Nat) (hl : l.length = 16) (hb : ∀ i, ix l i < 4294967296) (h1 : -128 ≤ n) (h2 : n ≤ 127) (x y : Nat) (hx : x < 4294967296) (hy : y < 4294967296) (w : World) :
    Calls Try.prog 18 #[.agg (crateCells n l), .agg #[.float .f32 x, .float .f32 y]] w
      (Ret (.tuple #[.agg (crateCells (cntX n (validCrate n l && airOk x y)) (fruX n l (rateW x y) 1 (validCrate n l && airOk x y))), .int .i64 (told (validCrate n l && airOk x y) true)]) w) := by
  have HL := Lib.hid hl
  have HV := Lib.hid (fun w => impl_ValidCrate n l hl w h1 h2)
  have HA := Lib.hid (fun w => impl_ValidAir x y w)
  have HO : Hid (airOk x y = (isPart x && isPart y)) := rfl
  simp only [← HO.out] at HA
  have HU := Lib.hid (fun h => both_upto (n := n) (l := l) (x := x) (y := y) h hb hx hy)

  clear hb hx hy HO h1 h2
  cases hv : validCrate n l
  · rw [hv] at HV
    clear HU
    have hR : Hid (cntX n (false && airOk x y) = 0 ∧ fruX n l (rateW x y) 1 (false && airOk x y) = zero16 ∧ told (false && airOk x y) true = 1) := ⟨rfl, rfl, rfl⟩
    rw [hR.out.1, hR.out.2.1, hR.out.2.2]
    go_enter Try.func18, Try.ntmps18
    go_wp2_with ((with_reducible show wpList _ _ _ (⟨some 6, _, _, _, _, _⟩ :: _) _ _); refine wpList_load_row rfl 29 (.tmp 2) rfl (w.heap.size) rfl 29 (crateCells n l) (0, 0) _ (ha3_0 _ _ _ _) Try.underlying29 rfl (by rw [crateCells_size, HL.out]; kernel_rfl) ?_)
    ((with_reducible refine (HV.out _).mono ?_); rintro e w1 ⟨rfl, hb1⟩)
    have G2 : Hid (w1.heap[w.heap.size + 1 + 1]? = some (.cells (crateCells 0 zero16) 29 (0, 0))) := below_heap hb1 (ha3_2 _ _ _ _)
    have HB : Hid (Below w.heap.size w w1) := below_step (by (repeat (first | exact Below.refl _ _ | assumption | refine below_new ?_ _ | refine below_step ?_ (by assumption) | refine Below.drew ?_ | refine below_dn ?_ _ | refine Below.setCell ?_ (by simp <;> omega) _))) hb1
    go_wp2_with ((with_reducible show wpList _ _ _ (⟨none, .store _ (.tmp 4) _, _, _, _, _⟩ :: _) _ _); refine wpList_store_row rfl 29 (.tmp 4) _ rfl (w.heap.size + 1 + 1) (crateCells 0 zero16) rfl rfl 29 (crateCells 0 zero16) (G2.out) (by kernel_rfl) rfl (crate_oneCell _ _) ?_)
    exact bodyPost_ret (results_row_tmp rfl _ _ (w.heap.size + 1 + 1) 29 (crateCells 0 zero16) (0, 0) _ rfl (setRow_heap _ _ _ _ _ _ G2.out) Try.underlying29 rfl (by kernel_rfl)) rfl ⟨rfl, below_setRow HB.out (by omega) _⟩
  · rw [hv] at HV
    cases ha : airOk x y
    · rw [ha] at HA
      clear HU
      have hR : Hid (cntX n (true && false) = 0 ∧ fruX n l (rateW x y) 1 (true && false) = zero16 ∧ told (true && false) true = 1) := ⟨rfl, rfl, rfl⟩
      rw [hR.out.1, hR.out.2.1, hR.out.2.2]
      go_enter Try.func18, Try.ntmps18
      go_wp2_with ((with_reducible show wpList _ _ _ (⟨some 6, _, _, _, _, _⟩ :: _) _ _); refine wpList_load_row rfl 29 (.tmp 2) rfl (w.heap.size) rfl 29 (crateCells n l) (0, 0) _ (ha3_0 _ _ _ _) Try.underlying29 rfl (by rw [crateCells_size, HL.out]; kernel_rfl) ?_)
      ((with_reducible refine (HV.out _).mono ?_); rintro e w1 ⟨rfl, hb1⟩)
      have G1 : Hid (w1.heap[w.heap.size + 1]? = some (.cells #[.float .f32 x, .float .f32 y] 33 (0, 0))) := below_heap hb1 (ha3_1 _ _ _ _)
      have a0 : w1.cell? ⟨w.heap.size + 1, 0, none⟩ = some (.float .f32 x) := cell_of_row _ _ _ _ _ _ G1.out
      have a1 : w1.cell? ⟨w.heap.size + 1, 1, none⟩ = some (.float .f32 y) := cell_of_row _ _ _ _ _ _ G1.out
      go_wp2_with fail
      ((with_reducible refine (HA.out _).mono ?_); rintro e w2 ⟨rfl, hb2⟩)
      have G2 : Hid (w2.heap[w.heap.size + 1 + 1]? = some (.cells (crateCells 0 zero16) 29 (0, 0))) := below_heap hb2 (below_heap hb1 (ha3_2 _ _ _ _))
      have HB : Hid (Below w.heap.size w w2) := below_step (below_step (by (repeat (first | exact Below.refl _ _ | assumption | refine below_new ?_ _ | refine below_step ?_ (by assumption) | refine Below.drew ?_ | refine below_dn ?_ _ | refine Below.setCell ?_ (by simp <;> omega) _))) hb1) hb2
      go_wp2_with ((with_reducible show wpList _ _ _ (⟨none, .store _ (.tmp 4) _, _, _, _, _⟩ :: _) _ _); refine wpList_store_row rfl 29 (.tmp 4) _ rfl (w.heap.size + 1 + 1) (crateCells 0 zero16) rfl rfl 29 (crateCells 0 zero16) (G2.out) (by kernel_rfl) rfl (crate_oneCell _ _) ?_)
      exact bodyPost_ret (results_row_tmp rfl _ _ (w.heap.size + 1 + 1) 29 (crateCells 0 zero16) (0, 0) _ rfl (setRow_heap _ _ _ _ _ _ G2.out) Try.underlying29 rfl (by kernel_rfl)) rfl ⟨rfl, below_setRow HB.out (by omega) _⟩
    · rw [ha] at HA
      have hz : (validCrate n l && airOk x y) = true := by rw [hv, ha]; rfl
      obtain ⟨k, rfl, hk, ux, uy, hu⟩ := HU.out hz
      clear HU hz hv ha
      have HG := Lib.hid (fun w => grow_any k hk l HL.out x y ux uy hu w)
      have hR : Hid (cntX k (true && true) = k ∧ fruX k l (rateW x y) 1 (true && true) = growTo l (rateW x y) k ∧ told (true && true) true = 0) := ⟨rfl, rfl, rfl⟩
      rw [hR.out.1, hR.out.2.1, hR.out.2.2]
      have HM := Lib.hid (growTo_len l (rateW x y) k)
      obtain ⟨M, hM⟩ : ∃ M, growTo l (rateW x y) k = M := ⟨_, rfl⟩
      rw [hM] at HG HM
      rw [hM]
      clear hM hR ux uy hu
      go_enter Try.func18, Try.ntmps18
      go_wp2_with ((with_reducible show wpList _ _ _ (⟨some 6, _, _, _, _, _⟩ :: _) _ _); refine wpList_load_row rfl 29 (.tmp 2) rfl (w.heap.size) rfl 29 (crateCells k l) (0, 0) _ (ha3_0 _ _ _ _) Try.underlying29 rfl (by rw [crateCells_size, HL.out]; kernel_rfl) ?_)
      ((with_reducible refine (HV.out _).mono ?_); rintro e w1 ⟨rfl, hb1⟩)
      have G1 : Hid (w1.heap[w.heap.size + 1]? = some (.cells #[.float .f32 x, .float .f32 y] 33 (0, 0))) := below_heap hb1 (ha3_1 _ _ _ _)
      have a0 : w1.cell? ⟨w.heap.size + 1, 0, none⟩ = some (.float .f32 x) := cell_of_row _ _ _ _ _ _ G1.out
      have a1 : w1.cell? ⟨w.heap.size + 1, 1, none⟩ = some (.float .f32 y) := cell_of_row _ _ _ _ _ _ G1.out
      go_wp2_with fail
      ((with_reducible refine (HA.out _).mono ?_); rintro e w2 ⟨rfl, hb2⟩)
      have H1 := G1
      clear a0 a1 G1
      have G0 : Hid (w2.heap[w.heap.size]? = some (.cells (crateCells k l) 29 (0, 0))) := below_heap hb2 (below_heap hb1 (ha3_0 _ _ _ _))
      have G1 : Hid (w2.heap[w.heap.size + 1]? = some (.cells #[.float .f32 x, .float .f32 y] 33 (0, 0))) := below_heap hb2 H1.out
      have G2 : Hid (w2.heap[w.heap.size + 1 + 1]? = some (.cells (crateCells 0 zero16) 29 (0, 0))) := below_heap hb2 (below_heap hb1 (ha3_2 _ _ _ _))
      have HB : Hid (Below w.heap.size w w2) := below_step (below_step (by (repeat (first | exact Below.refl _ _ | assumption | refine below_new ?_ _ | refine below_step ?_ (by assumption) | refine Below.drew ?_ | refine below_dn ?_ _ | refine Below.setCell ?_ (by simp <;> omega) _))) hb1) hb2
      have hsz : w.heap.size + 1 + 1 < w2.heap.size := Nat.lt_of_lt_of_le (by have := hb1.size; rw [size_al, size_al, size_al] at this; omega) hb2.size
      clear hb1 hb2 H1
      have a0 : w2.cell? ⟨w.heap.size + 1, 0, none⟩ = some (.float .f32 x) := cell_of_row _ _ _ _ _ _ G1.out
      have a1 : w2.cell? ⟨w.heap.size + 1, 1, none⟩ = some (.float .f32 y) := cell_of_row _ _ _ _ _ _ G1.out
      go_wp2_with ((with_reducible show wpList _ _ _ (⟨some 15, _, _, _, _, _⟩ :: _) _ _); refine wpList_load_row rfl 29 (.tmp 2) rfl (w.heap.size) rfl 29 (crateCells k l) (0, 0) _ (G0.out) Try.underlying29 rfl (by rw [crateCells_size, HL.out]; kernel_rfl) ?_)
      ((with_reducible refine (HG.out _).mono ?_); rintro e w3 ⟨rfl, hb3⟩)
      have g2 : Hid (w3.heap[w.heap.size + 1 + 1]? = some (.cells (crateCells 0 zero16) 29 (0, 0))) := below_heap hb3 G2.out
      have hsz3 : w.heap.size + 1 + 1 < w3.heap.size := Nat.lt_of_lt_of_le hsz hb3.size
      have hB3 := below_step HB.out hb3
      go_wp2_with ((with_reducible show wpList _ _ _ (⟨none, .store _ (.tmp 4) _, _, _, _, _⟩ :: _) _ _); refine wpList_store_row rfl 29 (.tmp 4) _ rfl (w.heap.size + 1 + 1) (crateCells k M) rfl rfl 29 (crateCells 0 zero16) (g2.out) (by rw [crateCells_size, HM.out]; kernel_rfl) (by rw [crateCells_size, crateCells_size, HM.out]; rfl) (crate_oneCell _ _) ?_)
      exact bodyPost_ret (results_row_tmp rfl _ _ (w.heap.size + 1 + 1) 29 (crateCells k M) (0, 0) _ rfl (setRow_heap _ _ _ _ _ _ g2.out) Try.underlying29 rfl (by rw [crateCells_size, HM.out]; kernel_rfl)) rfl ⟨rfl, below_setRow hB3 (by omega) _⟩
set_option maxRecDepth 100000 in
set_option maxHeartbeats 2000000 in
theorem impl_GrowDays (n : Int) (l : List Nat) (hl : l.length = 16) (hb : ∀ i, ix l i < 4294967296) (h1 : -128 ≤ n) (h2 : n ≤ 127) (x y : Nat) (hx : x < 4294967296) (hy : y < 4294967296) (d : Int) (w : World) :
    Calls Try.prog 21 #[.agg (crateCells n l), .agg #[.float .f32 x, .float .f32 y], .int .i64 d] w
      (Ret (.tuple #[.agg (crateCells (cntX n (validCrate n l && airOk x y && stepsB d)) (fruX n l (rateW x y) d.toNat (validCrate n l && airOk x y && stepsB d))), .int .i64 (told (validCrate n l && airOk x y) (stepsB d))]) w) := by
  have HL := Lib.hid hl
  have HV := Lib.hid (fun w => impl_ValidCrate n l hl w h1 h2)
  have HA := Lib.hid (fun w => impl_ValidAir x y w)
  have HO : Hid (airOk x y = (isPart x && isPart y)) := rfl
  simp only [← HO.out] at HA
  have HU := Lib.hid (fun h => both_upto (n := n) (l := l) (x := x) (y := y) h hb hx hy)
  have HD := Lib.hid (fun w => impl_isDays d w)
  clear hb hx hy HO h1 h2
  cases hv : validCrate n l
  · rw [hv] at HV
    clear HU
    have hR : Hid (cntX n (false && airOk x y && stepsB d) = 0 ∧ fruX n l (rateW x y) d.toNat (false && airOk x y && stepsB d) = zero16 ∧ told (false && airOk x y) (stepsB d) = 1) := ⟨rfl, rfl, rfl⟩
    rw [hR.out.1, hR.out.2.1, hR.out.2.2]
    go_enter Try.func21, Try.ntmps21
    go_wp2_with ((with_reducible show wpList _ _ _ (⟨some 9, _, _, _, _, _⟩ :: _) _ _); refine wpList_load_row rfl 29 (.tmp 3) rfl (w.heap.size) rfl 29 (crateCells n l) (0, 0) _ (ha3_0 _ _ _ _) Try.underlying29 rfl (by rw [crateCells_size, HL.out]; kernel_rfl) ?_)
    ((with_reducible refine (HV.out _).mono ?_); rintro e w1 ⟨rfl, hb1⟩)
    have G2 : Hid (w1.heap[w.heap.size + 1 + 1]? = some (.cells (crateCells 0 zero16) 29 (0, 0))) := below_heap hb1 (ha3_2 _ _ _ _)
    have HB : Hid (Below w.heap.size w w1) := below_step (by (repeat (first | exact Below.refl _ _ | assumption | refine below_new ?_ _ | refine below_step ?_ (by assumption) | refine Below.drew ?_ | refine below_dn ?_ _ | refine Below.setCell ?_ (by simp <;> omega) _))) hb1
    go_wp2_with ((with_reducible show wpList _ _ _ (⟨none, .store _ (.tmp 6) _, _, _, _, _⟩ :: _) _ _); refine wpList_store_row rfl 29 (.tmp 6) _ rfl (w.heap.size + 1 + 1) (crateCells 0 zero16) rfl rfl 29 (crateCells 0 zero16) (G2.out) (by kernel_rfl) rfl (crate_oneCell _ _) ?_)
    exact bodyPost_ret (results_row_tmp rfl _ _ (w.heap.size + 1 + 1) 29 (crateCells 0 zero16) (0, 0) _ rfl (setRow_heap _ _ _ _ _ _ G2.out) Try.underlying29 rfl (by kernel_rfl)) rfl ⟨rfl, below_setRow HB.out (by omega) _⟩
  · rw [hv] at HV
    cases ha : airOk x y
    · rw [ha] at HA
      clear HU
      have hR : Hid (cntX n (true && false && stepsB d) = 0 ∧ fruX n l (rateW x y) d.toNat (true && false && stepsB d) = zero16 ∧ told (true && false) (stepsB d) = 1) := ⟨rfl, rfl, rfl⟩
      rw [hR.out.1, hR.out.2.1, hR.out.2.2]
      go_enter Try.func21, Try.ntmps21
      go_wp2_with ((with_reducible show wpList _ _ _ (⟨some 9, _, _, _, _, _⟩ :: _) _ _); refine wpList_load_row rfl 29 (.tmp 3) rfl (w.heap.size) rfl 29 (crateCells n l) (0, 0) _ (ha3_0 _ _ _ _) Try.underlying29 rfl (by rw [crateCells_size, HL.out]; kernel_rfl) ?_)
      ((with_reducible refine (HV.out _).mono ?_); rintro e w1 ⟨rfl, hb1⟩)
      have G1 : Hid (w1.heap[w.heap.size + 1]? = some (.cells #[.float .f32 x, .float .f32 y] 33 (0, 0))) := below_heap hb1 (ha3_1 _ _ _ _)
      have a0 : w1.cell? ⟨w.heap.size + 1, 0, none⟩ = some (.float .f32 x) := cell_of_row _ _ _ _ _ _ G1.out
      have a1 : w1.cell? ⟨w.heap.size + 1, 1, none⟩ = some (.float .f32 y) := cell_of_row _ _ _ _ _ _ G1.out
      go_wp2_with fail
      ((with_reducible refine (HA.out _).mono ?_); rintro e w2 ⟨rfl, hb2⟩)
      have G2 : Hid (w2.heap[w.heap.size + 1 + 1]? = some (.cells (crateCells 0 zero16) 29 (0, 0))) := below_heap hb2 (below_heap hb1 (ha3_2 _ _ _ _))
      have HB : Hid (Below w.heap.size w w2) := below_step (below_step (by (repeat (first | exact Below.refl _ _ | assumption | refine below_new ?_ _ | refine below_step ?_ (by assumption) | refine Below.drew ?_ | refine below_dn ?_ _ | refine Below.setCell ?_ (by simp <;> omega) _))) hb1) hb2
      go_wp2_with ((with_reducible show wpList _ _ _ (⟨none, .store _ (.tmp 6) _, _, _, _, _⟩ :: _) _ _); refine wpList_store_row rfl 29 (.tmp 6) _ rfl (w.heap.size + 1 + 1) (crateCells 0 zero16) rfl rfl 29 (crateCells 0 zero16) (G2.out) (by kernel_rfl) rfl (crate_oneCell _ _) ?_)
      exact bodyPost_ret (results_row_tmp rfl _ _ (w.heap.size + 1 + 1) 29 (crateCells 0 zero16) (0, 0) _ rfl (setRow_heap _ _ _ _ _ _ G2.out) Try.underlying29 rfl (by kernel_rfl)) rfl ⟨rfl, below_setRow HB.out (by omega) _⟩
    · rw [ha] at HA
      have hz : (validCrate n l && airOk x y) = true := by rw [hv, ha]; rfl
      obtain ⟨k, rfl, hk, ux, uy, hu⟩ := HU.out hz
      clear HU hz hv ha
      cases hF : stepsB d
      · rw [hF] at HD
        have hR : Hid (cntX k (true && true && false) = 0 ∧ fruX k l (rateW x y) d.toNat (true && true && false) = zero16 ∧ told (true && true) false = 2) := ⟨rfl, rfl, rfl⟩
        rw [hR.out.1, hR.out.2.1, hR.out.2.2]
        go_enter Try.func21, Try.ntmps21
        go_wp2_with ((with_reducible show wpList _ _ _ (⟨some 9, _, _, _, _, _⟩ :: _) _ _); refine wpList_load_row rfl 29 (.tmp 3) rfl (w.heap.size) rfl 29 (crateCells k l) (0, 0) _ (ha3_0 _ _ _ _) Try.underlying29 rfl (by rw [crateCells_size, HL.out]; kernel_rfl) ?_)
        ((with_reducible refine (HV.out _).mono ?_); rintro e w1 ⟨rfl, hb1⟩)
        have G1 : Hid (w1.heap[w.heap.size + 1]? = some (.cells #[.float .f32 x, .float .f32 y] 33 (0, 0))) := below_heap hb1 (ha3_1 _ _ _ _)
        have a0 : w1.cell? ⟨w.heap.size + 1, 0, none⟩ = some (.float .f32 x) := cell_of_row _ _ _ _ _ _ G1.out
        have a1 : w1.cell? ⟨w.heap.size + 1, 1, none⟩ = some (.float .f32 y) := cell_of_row _ _ _ _ _ _ G1.out
        go_wp2_with fail
        ((with_reducible refine (HA.out _).mono ?_); rintro e w2 ⟨rfl, hb2⟩)
        have H1 := G1
        clear a0 a1 G1
        have G0 : Hid (w2.heap[w.heap.size]? = some (.cells (crateCells k l) 29 (0, 0))) := below_heap hb2 (below_heap hb1 (ha3_0 _ _ _ _))
        have G1 : Hid (w2.heap[w.heap.size + 1]? = some (.cells #[.float .f32 x, .float .f32 y] 33 (0, 0))) := below_heap hb2 H1.out
        have G2 : Hid (w2.heap[w.heap.size + 1 + 1]? = some (.cells (crateCells 0 zero16) 29 (0, 0))) := below_heap hb2 (below_heap hb1 (ha3_2 _ _ _ _))
        have HB : Hid (Below w.heap.size w w2) := below_step (below_step (by (repeat (first | exact Below.refl _ _ | assumption | refine below_new ?_ _ | refine below_step ?_ (by assumption) | refine Below.drew ?_ | refine below_dn ?_ _ | refine Below.setCell ?_ (by simp <;> omega) _))) hb1) hb2
        have hsz : w.heap.size + 1 + 1 < w2.heap.size := Nat.lt_of_lt_of_le (by have := hb1.size; rw [size_al, size_al, size_al] at this; omega) hb2.size
        clear hb1 hb2 H1
        go_wp2_with (first | (go_at_call 65; ((with_reducible refine (HD.out _).mono ?_); rintro e w' ⟨rfl, rfl⟩)) | ((with_reducible show wpList _ _ _ (⟨none, .store _ (.tmp 6) _, _, _, _, _⟩ :: _) _ _); refine wpList_store_row rfl 29 (.tmp 6) _ rfl (w.heap.size + 1 + 1) (crateCells 0 zero16) rfl rfl 29 (crateCells 0 zero16) (G2.out) (by kernel_rfl) rfl (crate_oneCell _ _) ?_))
        exact bodyPost_ret (results_row_tmp rfl _ _ (w.heap.size + 1 + 1) 29 (crateCells 0 zero16) (0, 0) _ rfl (setRow_heap _ _ _ _ _ _ G2.out) Try.underlying29 rfl (by kernel_rfl)) rfl ⟨rfl, below_setRow HB.out (by omega) _⟩
      · rw [hF] at HD
        obtain ⟨d, rfl, hd⟩ := stepsB_nat hF
        have HG := Lib.hid (fun q w => grow_any k hk (growDays l (rateW x y) k q) (growDays_len HL.out _ _ q) x y ux uy (growDays_upto (rateW_ok ux uy) hk hu q) w)
        have hR : Hid (cntX k (true && true && true) = k ∧ fruX k l (rateW x y) (d : Int).toNat (true && true && true) = growDays l (rateW x y) k d ∧ told (true && true) true = 0) := ⟨rfl, rfl, rfl⟩
        rw [hR.out.1, hR.out.2.1, hR.out.2.2]
        have HM := Lib.hid (growDays_len HL.out (rateW x y) k)
        have hs : Hid (∀ q, growTo (growDays l (rateW x y) k q) (rateW x y) k = growDays l (rateW x y) k (q + 1)) := fun q => rfl
        have hz : Hid (growDays l (rateW x y) k 0 = l) := rfl
        obtain ⟨D, hD⟩ : ∃ D : Nat → List Nat, ∀ q, growDays l (rateW x y) k q = D q := ⟨_, fun _ => rfl⟩
        simp only [hD] at HG HM hs hz
        simp only [hs.out] at HG
        rw [hD]
        clear hD hR ux uy hu hF hs
        go_enter Try.func21, Try.ntmps21
        go_wp2_with ((with_reducible show wpList _ _ _ (⟨some 9, _, _, _, _, _⟩ :: _) _ _); refine wpList_load_row rfl 29 (.tmp 3) rfl (w.heap.size) rfl 29 (crateCells k l) (0, 0) _ (ha3_0 _ _ _ _) Try.underlying29 rfl (by rw [crateCells_size, HL.out]; kernel_rfl) ?_)
        ((with_reducible refine (HV.out _).mono ?_); rintro e w1 ⟨rfl, hb1⟩)
        have G1 : Hid (w1.heap[w.heap.size + 1]? = some (.cells #[.float .f32 x, .float .f32 y] 33 (0, 0))) := below_heap hb1 (ha3_1 _ _ _ _)
        have a0 : w1.cell? ⟨w.heap.size + 1, 0, none⟩ = some (.float .f32 x) := cell_of_row _ _ _ _ _ _ G1.out
        have a1 : w1.cell? ⟨w.heap.size + 1, 1, none⟩ = some (.float .f32 y) := cell_of_row _ _ _ _ _ _ G1.out
        go_wp2_with fail
        ((with_reducible refine (HA.out _).mono ?_); rintro e w2 ⟨rfl, hb2⟩)
        have H1 := G1
        clear a0 a1 G1
        have G0 : Hid (w2.heap[w.heap.size]? = some (.cells (crateCells k l) 29 (0, 0))) := below_heap hb2 (below_heap hb1 (ha3_0 _ _ _ _))
        have G1 : Hid (w2.heap[w.heap.size + 1]? = some (.cells #[.float .f32 x, .float .f32 y] 33 (0, 0))) := below_heap hb2 H1.out
        have G2 : Hid (w2.heap[w.heap.size + 1 + 1]? = some (.cells (crateCells 0 zero16) 29 (0, 0))) := below_heap hb2 (below_heap hb1 (ha3_2 _ _ _ _))
        have HB : Hid (Below w.heap.size w w2) := below_step (below_step (by (repeat (first | exact Below.refl _ _ | assumption | refine below_new ?_ _ | refine below_step ?_ (by assumption) | refine Below.drew ?_ | refine below_dn ?_ _ | refine Below.setCell ?_ (by simp <;> omega) _))) hb1) hb2
        have hsz : w.heap.size + 1 + 1 < w2.heap.size := Nat.lt_of_lt_of_le (by have := hb1.size; rw [size_al, size_al, size_al] at this; omega) hb2.size
        clear hb1 hb2 H1
        go_wp2_with (go_at_call 65; ((with_reducible refine (HD.out _).mono ?_); rintro e w' ⟨rfl, rfl⟩))
        go_loopw [24] (fun i wr => ∃ q : Nat, q ≤ d ∧ i = .int .i64 q ∧ Below w.heap.size w wr ∧ w.heap.size + 1 + 1 < wr.heap.size ∧ wr.heap[w.heap.size]? = some (.cells (crateCells k (D q)) 29 (0, 0)) ∧ wr.heap[w.heap.size + 1]? = some (.cells #[.float .f32 x, .float .f32 y] 33 (0, 0)) ∧ wr.heap[w.heap.size + 1 + 1]? = some (.cells (crateCells 0 zero16) 29 (0, 0))) (fun i _ => 200 - (intOf i).toNat)
        case atStart => exact ⟨0, by omega, rfl, HB.out, hsz, by rw [hz.out]; exact G0.out, G1.out, G2.out⟩
        case round =>
          obtain ⟨q, hq, rfl, hB, hsz, g0, g1, g2⟩ := hrel
          clear G0 G1 G2 HB
          have G0 := Lib.hid g0
          have G1 := Lib.hid g1
          have G2 := Lib.hid g2
          have a0 : wr.cell? ⟨w.heap.size + 1, 0, none⟩ = some (.float .f32 x) := cell_of_row _ _ _ _ _ _ g1
          have a1 : wr.cell? ⟨w.heap.size + 1, 1, none⟩ = some (.float .f32 y) := cell_of_row _ _ _ _ _ _ g1
          clear g0 g1 g2
          have HMq := Lib.hid (HM.out q)
          have HMn := Lib.hid (HM.out (q + 1))
          have HGq := Lib.hid (HG.out q)
          by_cases hlt : q < d
          · go_wp2_with ((with_reducible show wpList _ _ _ (⟨some 26, _, _, _, _, _⟩ :: _) _ _); refine wpList_load_row rfl 29 (.tmp 3) rfl (w.heap.size) rfl 29 (crateCells k (D q)) (0, 0) _ (G0.out) Try.underlying29 rfl (by rw [crateCells_size, HMq.out]; kernel_rfl) ?_)
            ((with_reducible refine (HGq.out _).mono ?_); rintro e w3 ⟨rfl, hb3⟩)
            have g0 : Hid (w3.heap[w.heap.size]? = some (.cells (crateCells k (D q)) 29 (0, 0))) := below_heap hb3 G0.out
            have g1 : Hid (w3.heap[w.heap.size + 1]? = some (.cells #[.float .f32 x, .float .f32 y] 33 (0, 0))) := below_heap hb3 G1.out
            have g2 : Hid (w3.heap[w.heap.size + 1 + 1]? = some (.cells (crateCells 0 zero16) 29 (0, 0))) := below_heap hb3 G2.out
            have hsz3 : w.heap.size + 1 + 1 < w3.heap.size := Nat.lt_of_lt_of_le hsz hb3.size
            have hB3 := Lib.hid (below_step hB hb3)
            clear hb3 a0 a1
            go_wp2_with ((with_reducible show wpList _ _ _ (⟨none, .store _ (.tmp 3) _, _, _, _, _⟩ :: _) _ _); refine wpList_store_row rfl 29 (.tmp 3) _ rfl (w.heap.size) (crateCells k (D (q + 1))) rfl rfl 29 (crateCells k (D q)) g0.out (by rw [crateCells_size, HMn.out]; kernel_rfl) (by rw [crateCells_size, crateCells_size, HMn.out, HMq.out]) (crate_oneCell _ _) ?_)
            go_roundw
            case rel => exact ⟨q + 1, by omega, by go_num, below_setRow hB3.out (Nat.le_refl _) _, by simpa [World.setRow] using hsz3, setRow_heap _ _ _ _ _ _ g0.out, by rw [setRow_other _ _ _ _ (by omega)]; exact g1.out, by rw [setRow_other _ _ _ _ (by omega)]; exact g2.out⟩
            case measure => simp [intOf]; omega
          · have : q = d := by omega
            subst this
            go_wp2_with (first | ((with_reducible show wpList _ _ _ (⟨some 30, _, _, _, _, _⟩ :: _) _ _); refine wpList_load_row rfl 29 (.tmp 3) rfl (w.heap.size) rfl 29 (crateCells k (D q)) (0, 0) _ (G0.out) Try.underlying29 rfl (by rw [crateCells_size, HMq.out]; kernel_rfl) ?_) | ((with_reducible show wpList _ _ _ (⟨none, .store _ (.tmp 6) _, _, _, _, _⟩ :: _) _ _); refine wpList_store_row rfl 29 (.tmp 6) _ rfl (w.heap.size + 1 + 1) (crateCells k (D q)) rfl rfl 29 (crateCells 0 zero16) (G2.out) (by rw [crateCells_size, HMq.out]; kernel_rfl) (by rw [crateCells_size, crateCells_size, HMq.out]; rfl) (crate_oneCell _ _) ?_))
            exact bodyPost_ret (results_row_tmp rfl _ _ (w.heap.size + 1 + 1) 29 (crateCells k (D q)) (0, 0) _ rfl (setRow_heap _ _ _ _ _ _ G2.out) Try.underlying29 rfl (by rw [crateCells_size, HMq.out]; kernel_rfl)) rfl ⟨rfl, below_setRow hB (by omega) _⟩
end Go.Proofs.Ytldbpmpjfiglaaa
