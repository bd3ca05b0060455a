/-
  CONTRACTS: the place with the most gas.
-/
import Derived.Test.YtejipgofbefbjaaTotal
set_option linter.unusedVariables false
set_option linter.unusedSimpArgs false
namespace Go.Proofs.Ytejipgofbefbjaa
open Go.RowKit Go.FV

theorem results_tmp4 {fn : Func} {t u v x : Tmp} (h : fn.results = #[.tmp t, .tmp u, .tmp v, .tmp x]) (tmps : Array Value) (P : Program) (w : World) :
    (results fn tmps).run P w = .ok (.tuple #[tmps.getD t undef, tmps.getD u undef, tmps.getD v undef, tmps.getD x undef]) w := by
  simp [results, h]
/-- The better of two places: row, column. -/
def updG (l : List Nat) (p : Nat × Nat) (y x : Nat) : Nat × Nat := if fgt (ix l (y * 6 + x)) (ix l (p.1 * 6 + p.2)) then (y, x) else p
def rowB (l : List Nat) (p : Nat × Nat) (y : Nat) : Nat → Nat × Nat
  | 0 => p
  | x + 1 => updG l (rowB l p y x) y x
def allB (l : List Nat) (A : Nat) : Nat → Nat × Nat
  | 0 => (0, 0)
  | y + 1 => rowB l (allB l A y) y A
theorem updG_lt {l : List Nat} {p : Nat × Nat} {y x : Nat} (hp : p.1 < 6 ∧ p.2 < 6) (hy : y < 6) (hx : x < 6) : (updG l p y x).1 < 6 ∧ (updG l p y x).2 < 6 := by
  unfold updG; split
  · exact ⟨hy, hx⟩
  · exact hp
theorem rowB_lt {l : List Nat} {p : Nat × Nat} {y : Nat} (hp : p.1 < 6 ∧ p.2 < 6) (hy : y < 6) : ∀ x, x ≤ 6 → (rowB l p y x).1 < 6 ∧ (rowB l p y x).2 < 6
  | 0, _ => hp
  | x + 1, hx => updG_lt (rowB_lt hp hy x (by omega)) hy (by omega)
theorem allB_lt {l : List Nat} {A : Nat} (hA : A ≤ 6) : ∀ y, y ≤ 6 → (allB l A y).1 < 6 ∧ (allB l A y).2 < 6
  | 0, _ => (⟨by decide, by decide⟩ : (0 : Nat) < 6 ∧ (0 : Nat) < 6)
  | y + 1, hy => rowB_lt (allB_lt hA y (by omega)) (by omega) A hA
theorem rowB_yes {l : List Nat} {p q : Nat × Nat} {y x : Nat} (h : rowB l p y x = q) (hf : fgt (ix l (y * 6 + x)) (ix l (q.1 * 6 + q.2)) = true) : rowB l p y (x + 1) = (y, x) := by
  rw [rowB, h, updG, hf]; rfl
theorem rowB_no {l : List Nat} {p q : Nat × Nat} {y x : Nat} (h : rowB l p y x = q) (hf : fgt (ix l (y * 6 + x)) (ix l (q.1 * 6 + q.2)) = false) : rowB l p y (x + 1) = q := by
  rw [rowB, h, updG, hf]; rfl
def mostY (l : List Nat) (a b : Int) (V : Bool) : Int := if V then ((allB l a.toNat b.toNat).1 : Nat) else 0
def mostX (l : List Nat) (a b : Int) (V : Bool) : Int := if V then ((allB l a.toNat b.toNat).2 : Nat) else 0
def mostG (l : List Nat) (a b : Int) (V : Bool) : Nat := if V then ix l ((allB l a.toNat b.toNat).1 * 6 + (allB l a.toNat b.toNat).2) else 0
set_option maxRecDepth 100000 in
set_option maxHeartbeats 2000000 in
theorem spec_MostGas (a b : Int) (f : Nat) (v0 v1 v2 v3 v4 v5 : Int) (l : List Nat) (hl : l.length = 36) (hb : ∀ i, ix l i < 4294967296) (w : World) (h1 : -128 ≤ a) (h2 : a ≤ 127) (h3 : -128 ≤ b) (h4 : b ≤ 127) (hv : ∀ k : Nat, 0 ≤ ixI [v0, v1, v2, v3, v4, v5] k ∧ ixI [v0, v1, v2, v3, v4, v5] k ≤ 255) :
    Calls Try.prog 22 #[.agg #[.int .i8 a, .int .i8 b, .float .f32 f, .int .u8 v0, .int .u8 v1, .int .u8 v2, .int .u8 v3, .int .u8 v4, .int .u8 v5], .agg (flCells l)] w (Ret (.tuple #[.int .i64 (mostX l a b (validGas a b f [v0, v1, v2, v3, v4, v5] l)), .int .i64 (mostY l a b (validGas a b f [v0, v1, v2, v3, v4, v5] l)), .float .f32 (mostG l a b (validGas a b f [v0, v1, v2, v3, v4, v5] l)), .int .i64 (told (validGas a b f [v0, v1, v2, v3, v4, v5] l) true)]) w) := by
  obtain ⟨W, hW⟩ : ∃ W, W = (w.alloc (.cells #[.int .i8 a, .int .i8 b, .float .f32 f, .int .u8 v0, .int .u8 v1, .int .u8 v2, .int .u8 v3, .int .u8 v4, .int .u8 v5] 34)).alloc (.cells (flCells l) 26) := ⟨_, rfl⟩
  have G0 : W.heap[w.heap.size]? = some (.cells #[.int .i8 a, .int .i8 b, .float .f32 f, .int .u8 v0, .int .u8 v1, .int .u8 v2, .int .u8 v3, .int .u8 v4, .int .u8 v5] 34 (0, 0)) := by rw [hW]; exact ha2_0 _ _ _
  have G1 : W.heap[w.heap.size + 1]? = some (.cells (flCells l) 26 (0, 0)) := by rw [hW]; exact ha2_1 _ _ _
  have HB : Hid (Below w.heap.size w W) := by rw [hW]; show Below _ _ _; (repeat (first | exact Below.refl _ _ | assumption | refine below_new ?_ _ | refine below_step ?_ (by assumption) | refine Below.drew ?_ | refine below_dn ?_ _ | refine Below.setCell ?_ (by simp <;> omega) _))
  have hsz : W.heap.size = w.heap.size + 2 := by rw [hW, size_al, size_al]
  have HC := Lib.hid (l02Asked_any w.heap.size (w.heap.size + 1) a b f [v0, v1, v2, v3, v4, v5] l hl true W (by omega) (by omega) h1 h2 h3 h4 (cell_of_row _ _ _ _ _ _ G0) (cell_of_row _ _ _ _ _ _ G0) (cell_of_row _ _ _ _ _ _ G0) (room_cv (w := w) G0) hv (fun j hj => (cell_of_row _ _ _ _ _ _ G1).trans (flCells_at (by rw [hl]; exact hj))))
  have HF := Lib.hid (fun h => gas_facts (a := a) (b := b) (f := f) (vs := [v0, v1, v2, v3, v4, v5]) (l := l) h hb)
  have HL := Lib.hid hl
  have HW := Lib.hid hW
  have G0 := Lib.hid G0
  have G1 := Lib.hid G1
  clear hW hv hb hl
  cases hV : validGas a b f [v0, v1, v2, v3, v4, v5] l
  · rw [hV] at HC
    clear HF
    go_enter Try.func22, Try.ntmps22
    go_wp2_with fail
    rw [← HW.out]
    clear HW
    ((with_reducible refine (HC.out).mono ?_); rintro e w1 ⟨rfl, hb1⟩)
    go_wp2
    refine bodyPost_ret (results_tmp4 rfl _ _ _) rfl ⟨rfl, below_step HB.out hb1⟩
  · rw [hV] at HC
    obtain ⟨A, H, rfl, rfl, ⟨hA1, hA2⟩, ⟨hH1, hH2⟩, _, _, _⟩ := HF.out hV
    have hM : Hid (mostX l A H true = ((allB l A H).2 : Nat) ∧ mostY l A H true = ((allB l A H).1 : Nat) ∧ mostG l A H true = ix l ((allB l A H).1 * 6 + (allB l A H).2)) := ⟨rfl, rfl, rfl⟩
    rw [hM.out.1, hM.out.2.1, hM.out.2.2]
    have HAB := Lib.hid (fun y => @allB_lt l A hA2 y)
    have HR := Lib.hid (fun y hp hy x => @rowB_lt l (allB l A y) y hp hy x)
    have HY := Lib.hid (fun y q x => @rowB_yes l (allB l A y) q y x)
    have HN := Lib.hid (fun y q x => @rowB_no l (allB l A y) q y x)
    have h0 : Hid (∀ y, rowB l (allB l A y) y 0 = allB l A y) := fun _ => rfl
    have h1' : Hid (∀ y, rowB l (allB l A y) y A = allB l A (y + 1)) := fun _ => rfl
    have h2' : Hid (allB l A 0 = (0, 0)) := rfl
    obtain ⟨P, hP⟩ : ∃ P : Nat → Nat × Nat, ∀ y, allB l A y = P y := ⟨_, fun _ => rfl⟩
    simp only [hP] at HAB HR HY HN h0 h1' h2'
    rw [hP]
    obtain ⟨Q, hQ⟩ : ∃ Q : Nat → Nat → Nat × Nat, ∀ y x, rowB l (P y) y x = Q y x := ⟨_, fun _ _ => rfl⟩
    simp only [hQ] at HR HY HN h0 h1'
    clear hP hQ hM HF hV
    go_enter Try.func22, Try.ntmps22
    go_wp2_with fail
    rw [← HW.out]
    clear HW
    ((with_reducible refine (HC.out).mono ?_); rintro e w1 ⟨rfl, hb1⟩)
    have C0 : Hid (w1.cell? ⟨w.heap.size, 0, none⟩ = some (.int .i8 A)) := cell_of_row _ _ _ _ _ _ (below_heap hb1 G0.out)
    have C1 : Hid (w1.cell? ⟨w.heap.size, 1, none⟩ = some (.int .i8 H)) := cell_of_row _ _ _ _ _ _ (below_heap hb1 G0.out)
    have CG : Hid (∀ j, j < 36 → w1.cell? ⟨w.heap.size + 1, j, none⟩ = some (.float .f32 (ix l j))) := fun j hj => (cell_of_row _ _ _ _ _ _ (below_heap hb1 G1.out)).trans (flCells_at (by rw [HL.out]; exact hj))
    have hB1 := Lib.hid (below_step HB.out hb1)
    clear hb1 G0 G1 HB HC
    go_wp2_with fail
    go_loopw [9, 10, 11] (fun px py i wr => ∃ y : Nat, y ≤ H ∧ i = .int .i8 y ∧ px = .int .i8 ((P y).2 : Nat) ∧ py = .int .i8 ((P y).1 : Nat) ∧ ∃ n, wr = w1.drewN n) (fun _ _ i _ => 6 - (intOf i).toNat)
    case atStart => exact ⟨0, by omega, rfl, by rw [h2'.out]; rfl, by rw [h2'.out]; rfl, 0, rfl⟩
    case round =>
      obtain ⟨y, hy, rfl, rfl, rfl, hwr⟩ := hrel
      have HWR := Lib.hid hwr; clear hwr
      have c0 : wr.cell? ⟨w.heap.size, 0, none⟩ = some (.int .i8 A) := by obtain ⟨n, hn⟩ := HWR.out; rw [hn]; exact C0.out
      have c1 : wr.cell? ⟨w.heap.size, 1, none⟩ = some (.int .i8 H) := by obtain ⟨n, hn⟩ := HWR.out; rw [hn]; exact C1.out
      have hPy := HAB.out y (by omega)
      have hb3 : Hid (Below w.heap.size w wr) := by obtain ⟨n, hn⟩ := HWR.out; rw [hn]; exact below_dn hB1.out n
      by_cases hlt : y < H
      · have HYy := Lib.hid (HY.out y)
        have HNy := Lib.hid (HN.out y)
        have HRy := Lib.hid (fun x hx => HR.out y hPy (by omega) x hx)
        have hQA := Lib.hid (h1'.out y)
        have hQ0 := Lib.hid (h0.out y)
        clear hb3
        go_wp2
        go_loopw [9, 10, 12] (fun px py i wr => ∃ x : Nat, x ≤ A ∧ i = .int .i8 x ∧ px = .int .i8 ((Q y x).2 : Nat) ∧ py = .int .i8 ((Q y x).1 : Nat) ∧ ∃ n, wr = w1.drewN n) (fun _ _ i _ => 6 - (intOf i).toNat)
        case atStart => exact ⟨0, by omega, rfl, by rw [hQ0.out], by rw [hQ0.out], HWR.out⟩
        case round =>
          obtain ⟨x, hx, rfl, rfl, rfl, hwr2⟩ := hrel
          clear HWR c0 c1
          have HWR := Lib.hid hwr2; clear hwr2
          have c0 : wr.cell? ⟨w.heap.size, 0, none⟩ = some (.int .i8 A) := by obtain ⟨n, hn⟩ := HWR.out; rw [hn]; exact C0.out
          by_cases hlt2 : x < A
          · have hq := HRy.out x (by omega)
            have hy2 := Lib.hid (HYy.out (Q y x) x rfl)
            have hn2 := Lib.hid (HNy.out (Q y x) x rfl)
            obtain ⟨q1, hq1⟩ : ∃ q1, (Q y x).1 = q1 := ⟨_, rfl⟩
            obtain ⟨q2, hq2⟩ : ∃ q2, (Q y x).2 = q2 := ⟨_, rfl⟩
            have hqq : Hid (Q y x = (q1, q2)) := by rw [← hq1, ← hq2]; rfl
            rw [hqq.out] at hy2 hn2
            rw [hq1, hq2] at hq
            rw [hq1, hq2]
            clear hq1 hq2 hqq
            have ca : wr.cell? ⟨w.heap.size + 1, y * 6 + x, none⟩ = some (.float .f32 (ix l (y * 6 + x))) := by obtain ⟨n, hn⟩ := HWR.out; rw [hn]; exact CG.out _ (by omega)
            have cb : wr.cell? ⟨w.heap.size + 1, q1 * 6 + q2, none⟩ = some (.float .f32 (ix l (q1 * 6 + q2))) := by obtain ⟨n, hn⟩ := HWR.out; rw [hn]; exact CG.out _ (by omega)
            have i1 : (q1 : Int) < 6 := by omega
            have i2 : (q2 : Int) < 6 := by omega
            have i3 : (x : Int) < 6 := by omega
            have i4 : (y : Int) < 6 := by omega
            clear hq
            cases hg : fgt (ix l (y * 6 + x)) (ix l (q1 * 6 + q2))
            · have e := Lib.hid (hn2.out hg)
              unfold fgt at hg
              clear hy2 hn2
              go_wp2
              go_quiet (fail)
              go_wp2
              refine ⟨?_, ?_⟩
              · first | exact ⟨x + 1, by omega, by go_num, by rw [e.out], by rw [e.out], by obtain ⟨n, hn⟩ := HWR.out; rw [hn]; exact ⟨_, by rw [World.drewN_drewN]⟩⟩ | ((repeat apply Exists.intro); refine ⟨?_, rfl⟩; exact ⟨x + 1, by omega, by go_num, by rw [e.out], by rw [e.out], by obtain ⟨n, hn⟩ := HWR.out; rw [hn]; exact ⟨_, by rw [World.drewN_drewN]⟩⟩)
              · simp [intOf]; omega
            · have e := Lib.hid (hy2.out hg)
              unfold fgt at hg
              clear hy2 hn2
              go_wp2
              go_quiet (fail)
              go_wp2
              refine ⟨?_, ?_⟩
              · first | exact ⟨x + 1, by omega, by go_num, by rw [e.out], by rw [e.out], by obtain ⟨n, hn⟩ := HWR.out; rw [hn]; exact ⟨_, by rw [World.drewN_drewN]⟩⟩ | ((repeat apply Exists.intro); refine ⟨?_, rfl⟩; exact ⟨x + 1, by omega, by go_num, by rw [e.out], by rw [e.out], by obtain ⟨n, hn⟩ := HWR.out; rw [hn]; exact ⟨_, by rw [World.drewN_drewN]⟩⟩)
              · simp [intOf]; omega
          · have : x = A := by omega
            subst this
            go_wp2
            refine ⟨?_, ?_⟩
            · first | exact ⟨y + 1, by omega, by go_num, by rw [hQA.out], by rw [hQA.out], HWR.out⟩ | ((repeat apply Exists.intro); refine ⟨?_, rfl⟩; exact ⟨y + 1, by omega, by go_num, by rw [hQA.out], by rw [hQA.out], HWR.out⟩)
            · simp [intOf]; omega
      · have : y = H := by omega
        subst this
        obtain ⟨q1, hq1⟩ : ∃ q1, (P y).1 = q1 := ⟨_, rfl⟩
        obtain ⟨q2, hq2⟩ : ∃ q2, (P y).2 = q2 := ⟨_, rfl⟩
        rw [hq1, hq2] at hPy
        rw [hq1, hq2]
        have cb : wr.cell? ⟨w.heap.size + 1, q1 * 6 + q2, none⟩ = some (.float .f32 (ix l (q1 * 6 + q2))) := by obtain ⟨n, hn⟩ := HWR.out; rw [hn]; exact CG.out _ (by omega)
        have i1 : (q1 : Int) < 6 := by omega
        have i2 : (q2 : Int) < 6 := by omega
        have hq1' := Lib.hid hq1
        have hq2' := Lib.hid hq2
        clear hPy hq1 hq2
        go_wp2
        go_quiet (fail)
        go_wp2
        refine bodyPost_ret (results_tmp4 rfl _ _ _) rfl ⟨by rw [hq1'.out, hq2'.out]; rfl, below_dn hb3.out _⟩
set_option maxRecDepth 100000 in
set_option maxHeartbeats 2000000 in
theorem impl_MostGas (a b : Int) (f : Nat) (v0 v1 v2 v3 v4 v5 : Int) (l : List Nat) (hl : l.length = 36) (hb : ∀ i, ix l i < 4294967296) (w : World) (h1 : -128 ≤ a) (h2 : a ≤ 127) (h3 : -128 ≤ b) (h4 : b ≤ 127) :
    Calls Try.prog 23 #[.agg #[.int .i8 a, .int .i8 b, .float .f32 f, .int .u8 v0, .int .u8 v1, .int .u8 v2, .int .u8 v3, .int .u8 v4, .int .u8 v5], .agg (flCells l)] w (Ret (.tuple #[.int .i64 (mostX l a b (validGas a b f [v0, v1, v2, v3, v4, v5] l)), .int .i64 (mostY l a b (validGas a b f [v0, v1, v2, v3, v4, v5] l)), .float .f32 (mostG l a b (validGas a b f [v0, v1, v2, v3, v4, v5] l)), .int .i64 (told (validGas a b f [v0, v1, v2, v3, v4, v5] l) true)]) w) := by
  have HL := Lib.hid hl
  have HV := Lib.hid (fun w => impl_ValidGas a b f v0 v1 v2 v3 v4 v5 l hl w h1 h2 h3 h4)
  have HF := Lib.hid (fun h => gas_facts (a := a) (b := b) (f := f) (vs := [v0, v1, v2, v3, v4, v5]) (l := l) h hb)
  clear hl hb h1 h2 h3 h4
  cases hV : validGas a b f [v0, v1, v2, v3, v4, v5] l
  · rw [hV] at HV
    go_enter Try.func23, Try.ntmps23
    go_wp2_with ((with_reducible show wpList _ _ _ (⟨some 13, _, _, _, _, _⟩ :: _) _ _); refine wpList_load_row rfl 26 (.tmp 3) rfl (w.heap.size + 1) rfl 26 (flCells l) (0, 0) _ (ha2_1 _ _ _) Try.underlying26 rfl (by rw [flCells_size, HL.out]; kernel_rfl) ?_)
    ((with_reducible refine (HV.out _).mono ?_); rintro e w1 ⟨rfl, hb1⟩)
    go_wp2
    refine bodyPost_ret (results_tmp4 rfl _ _ _) rfl ⟨rfl, below_step (by (repeat (first | exact Below.refl _ _ | assumption | refine below_new ?_ _ | refine below_step ?_ (by assumption) | refine Below.drew ?_ | refine below_dn ?_ _ | refine Below.setCell ?_ (by simp <;> omega) _))) hb1⟩
  · rw [hV] at HV
    obtain ⟨A, H, rfl, rfl, ⟨hA1, hA2⟩, ⟨hH1, hH2⟩, _, _, _⟩ := HF.out hV
    have hM : Hid (mostX l A H true = ((allB l A H).2 : Nat) ∧ mostY l A H true = ((allB l A H).1 : Nat) ∧ mostG l A H true = ix l ((allB l A H).1 * 6 + (allB l A H).2)) := ⟨rfl, rfl, rfl⟩
    rw [hM.out.1, hM.out.2.1, hM.out.2.2]
    have HAB := Lib.hid (fun y => @allB_lt l A hA2 y)
    have HR := Lib.hid (fun y hp hy x => @rowB_lt l (allB l A y) y hp hy x)
    have HY := Lib.hid (fun y q x => @rowB_yes l (allB l A y) q y x)
    have HN := Lib.hid (fun y q x => @rowB_no l (allB l A y) q y x)
    have h0 : Hid (∀ y, rowB l (allB l A y) y 0 = allB l A y) := fun _ => rfl
    have h1' : Hid (∀ y, rowB l (allB l A y) y A = allB l A (y + 1)) := fun _ => rfl
    have h2' : Hid (allB l A 0 = (0, 0)) := rfl
    obtain ⟨P, hP⟩ : ∃ P : Nat → Nat × Nat, ∀ y, allB l A y = P y := ⟨_, fun _ => rfl⟩
    simp only [hP] at HAB HR HY HN h0 h1' h2'
    rw [hP]
    obtain ⟨Q, hQ⟩ : ∃ Q : Nat → Nat → Nat × Nat, ∀ y x, rowB l (P y) y x = Q y x := ⟨_, fun _ _ => rfl⟩
    simp only [hQ] at HR HY HN h0 h1'
    clear hP hQ hM HF hV
    go_enter Try.func23, Try.ntmps23
    go_wp2_with ((with_reducible show wpList _ _ _ (⟨some 13, _, _, _, _, _⟩ :: _) _ _); refine wpList_load_row rfl 26 (.tmp 3) rfl (w.heap.size + 1) rfl 26 (flCells l) (0, 0) _ (ha2_1 _ _ _) Try.underlying26 rfl (by rw [flCells_size, HL.out]; kernel_rfl) ?_)
    ((with_reducible refine (HV.out _).mono ?_); rintro e w1 ⟨rfl, hb1⟩)
    have C0 : Hid (w1.cell? ⟨w.heap.size, 0, none⟩ = some (.int .i8 A)) := cell_of_row _ _ _ _ _ _ (below_heap hb1 (ha2_0 _ _ _))
    have C1 : Hid (w1.cell? ⟨w.heap.size, 1, none⟩ = some (.int .i8 H)) := cell_of_row _ _ _ _ _ _ (below_heap hb1 (ha2_0 _ _ _))
    have CG : Hid (∀ j, j < 36 → w1.cell? ⟨w.heap.size + 1, j, none⟩ = some (.float .f32 (ix l j))) := fun j hj => (cell_of_row _ _ _ _ _ _ (below_heap hb1 (ha2_1 _ _ _))).trans (flCells_at (by rw [HL.out]; exact hj))
    have hB1 : Hid (Below w.heap.size w w1) := below_step (by (repeat (first | exact Below.refl _ _ | assumption | refine below_new ?_ _ | refine below_step ?_ (by assumption) | refine Below.drew ?_ | refine below_dn ?_ _ | refine Below.setCell ?_ (by simp <;> omega) _))) hb1
    have c1 := C1.out
    clear hb1
    go_wp2_with fail
    clear c1
    go_loopw [8, 9, 19] (fun px py i wr => ∃ y : Nat, y ≤ H ∧ i = .int .i64 y ∧ px = .int .i64 ((P y).2 : Nat) ∧ py = .int .i64 ((P y).1 : Nat) ∧ ∃ n, wr = w1.drewN n) (fun _ _ i _ => 6 - (intOf i).toNat)
    case atStart => exact ⟨0, by omega, rfl, by rw [h2'.out]; rfl, by rw [h2'.out]; rfl, 0, rfl⟩
    case round =>
      obtain ⟨y, hy, rfl, rfl, rfl, hwr⟩ := hrel
      have HWR := Lib.hid hwr; clear hwr
      have c0 : wr.cell? ⟨w.heap.size, 0, none⟩ = some (.int .i8 A) := by obtain ⟨n, hn⟩ := HWR.out; rw [hn]; exact C0.out
      have c1 : wr.cell? ⟨w.heap.size, 1, none⟩ = some (.int .i8 H) := by obtain ⟨n, hn⟩ := HWR.out; rw [hn]; exact C1.out
      have hPy := HAB.out y (by omega)
      have hb3 : Hid (Below w.heap.size w wr) := by obtain ⟨n, hn⟩ := HWR.out; rw [hn]; exact below_dn hB1.out n
      by_cases hlt : y < H
      · have HYy := Lib.hid (HY.out y)
        have HNy := Lib.hid (HN.out y)
        have HRy := Lib.hid (fun x hx => HR.out y hPy (by omega) x hx)
        have hQA := Lib.hid (h1'.out y)
        have hQ0 := Lib.hid (h0.out y)
        clear hb3
        go_wp2
        go_loopw [8, 9, 25] (fun px py i wr => ∃ x : Nat, x ≤ A ∧ i = .int .i64 x ∧ px = .int .i64 ((Q y x).2 : Nat) ∧ py = .int .i64 ((Q y x).1 : Nat) ∧ ∃ n, wr = w1.drewN n) (fun _ _ i _ => 6 - (intOf i).toNat)
        case atStart => exact ⟨0, by omega, rfl, by rw [hQ0.out], by rw [hQ0.out], HWR.out⟩
        case round =>
          obtain ⟨x, hx, rfl, rfl, rfl, hwr2⟩ := hrel
          clear HWR c0 c1
          have HWR := Lib.hid hwr2; clear hwr2
          have c0 : wr.cell? ⟨w.heap.size, 0, none⟩ = some (.int .i8 A) := by obtain ⟨n, hn⟩ := HWR.out; rw [hn]; exact C0.out
          by_cases hlt2 : x < A
          · have hq := HRy.out x (by omega)
            have hy2 := Lib.hid (HYy.out (Q y x) x rfl)
            have hn2 := Lib.hid (HNy.out (Q y x) x rfl)
            obtain ⟨q1, hq1⟩ : ∃ q1, (Q y x).1 = q1 := ⟨_, rfl⟩
            obtain ⟨q2, hq2⟩ : ∃ q2, (Q y x).2 = q2 := ⟨_, rfl⟩
            have hqq : Hid (Q y x = (q1, q2)) := by rw [← hq1, ← hq2]; rfl
            rw [hqq.out] at hy2 hn2
            rw [hq1, hq2] at hq
            rw [hq1, hq2]
            clear hq1 hq2 hqq
            have ca : wr.cell? ⟨w.heap.size + 1, y * 6 + x, none⟩ = some (.float .f32 (ix l (y * 6 + x))) := by obtain ⟨n, hn⟩ := HWR.out; rw [hn]; exact CG.out _ (by omega)
            have cb : wr.cell? ⟨w.heap.size + 1, q1 * 6 + q2, none⟩ = some (.float .f32 (ix l (q1 * 6 + q2))) := by obtain ⟨n, hn⟩ := HWR.out; rw [hn]; exact CG.out _ (by omega)
            have i1 : (q1 : Int) < 6 := by omega
            have i2 : (q2 : Int) < 6 := by omega
            have i3 : (x : Int) < 6 := by omega
            have i4 : (y : Int) < 6 := by omega
            clear hq
            cases hg : fgt (ix l (y * 6 + x)) (ix l (q1 * 6 + q2))
            · have e := Lib.hid (hn2.out hg)
              unfold fgt at hg
              clear hy2 hn2
              go_wp2
              go_quiet (fail)
              go_wp2
              refine ⟨?_, ?_⟩
              · first | exact ⟨x + 1, by omega, by go_num, by rw [e.out], by rw [e.out], by obtain ⟨n, hn⟩ := HWR.out; rw [hn]; exact ⟨_, by rw [World.drewN_drewN]⟩⟩ | ((repeat apply Exists.intro); refine ⟨?_, rfl⟩; exact ⟨x + 1, by omega, by go_num, by rw [e.out], by rw [e.out], by obtain ⟨n, hn⟩ := HWR.out; rw [hn]; exact ⟨_, by rw [World.drewN_drewN]⟩⟩)
              · simp [intOf]; omega
            · have e := Lib.hid (hy2.out hg)
              unfold fgt at hg
              clear hy2 hn2
              go_wp2
              go_quiet (fail)
              go_wp2
              refine ⟨?_, ?_⟩
              · first | exact ⟨x + 1, by omega, by go_num, by rw [e.out], by rw [e.out], by obtain ⟨n, hn⟩ := HWR.out; rw [hn]; exact ⟨_, by rw [World.drewN_drewN]⟩⟩ | ((repeat apply Exists.intro); refine ⟨?_, rfl⟩; exact ⟨x + 1, by omega, by go_num, by rw [e.out], by rw [e.out], by obtain ⟨n, hn⟩ := HWR.out; rw [hn]; exact ⟨_, by rw [World.drewN_drewN]⟩⟩)
              · simp [intOf]; omega
          · have : x = A := by omega
            subst this
            go_wp2
            refine ⟨?_, ?_⟩
            · first | exact ⟨y + 1, by omega, by go_num, by rw [hQA.out], by rw [hQA.out], HWR.out⟩ | ((repeat apply Exists.intro); refine ⟨?_, rfl⟩; exact ⟨y + 1, by omega, by go_num, by rw [hQA.out], by rw [hQA.out], HWR.out⟩)
            · simp [intOf]; omega
      · have : y = H := by omega
        subst this
        obtain ⟨q1, hq1⟩ : ∃ q1, (P y).1 = q1 := ⟨_, rfl⟩
        obtain ⟨q2, hq2⟩ : ∃ q2, (P y).2 = q2 := ⟨_, rfl⟩
        rw [hq1, hq2] at hPy
        rw [hq1, hq2]
        have cb : wr.cell? ⟨w.heap.size + 1, q1 * 6 + q2, none⟩ = some (.float .f32 (ix l (q1 * 6 + q2))) := by obtain ⟨n, hn⟩ := HWR.out; rw [hn]; exact CG.out _ (by omega)
        have i1 : (q1 : Int) < 6 := by omega
        have i2 : (q2 : Int) < 6 := by omega
        have hq1' := Lib.hid hq1
        have hq2' := Lib.hid hq2
        clear hPy hq1 hq2
        go_wp2
        go_quiet (fail)
        go_wp2
        refine bodyPost_ret (results_tmp4 rfl _ _ _) rfl ⟨by rw [hq1'.out, hq2'.out]; rfl, below_dn hb3.out _⟩
end Go.Proofs.Ytejipgofbefbjaa
