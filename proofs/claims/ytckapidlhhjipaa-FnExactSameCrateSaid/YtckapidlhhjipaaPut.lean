/-
  CONTRACTS: a fruit put into a crate; results that are rows; numbers of valid crates are finite.
-/
import Derived.Test.YtckapidlhhjipaaCount
import Derived.Test.YtckapidlhhjipaaCrate
set_option linter.unusedVariables false
set_option linter.unusedSimpArgs false
namespace Go.Proofs.Ytckapidlhhjipaa
open Go.RowKit Go.FV

theorem ord_eq (a b : Nat) : ord a b = Ieee.single.order a b := rfl
theorem fin_part {b : Nat} (h : isPart b = true) (hb : b < 4294967296) : FL.fin b := by
  rcases Nat.lt_trichotomy (FL.rg b) 2139095040 with h1 | h1 | h1
  · exact ⟨h1, hb⟩
  · exfalso
    have e1 := FL.read_inf h1
    obtain ⟨m, p, j, e2, _⟩ := FL.read_fin (x := 0) (by decide)
    obtain ⟨m', p', j', e3, _⟩ := FL.read_fin (x := 1065353216) (by decide)
    unfold isPart at h
    simp only [ord_eq, Ieee.Format.order, e1, e2, e3, Ieee.Datum.order] at h
    revert h
    cases FL.sg b <;> simp
  · exfalso
    have e1 := FL.read_nan h1
    unfold isPart at h
    simp only [ord_eq, Ieee.Format.order, e1, Ieee.Datum.order] at h
    revert h
    simp
theorem nan0 : isNan 0 = false := by
  unfold isNan
  rw [ord_eq, FL.order_fin (by decide) (by decide)]
  simp
theorem same0 {x : Nat} (h : sameN x 0 = true) : x = 0 := by
  unfold sameN at h
  rw [nan0] at h
  cases hx : isNan x
  · rw [hx] at h; simp at h; omega
  · rw [hx] at h; simp at h
theorem fin_slot {n : Int} {k x : Nat} (h : slotOk n k x = true) (hx : x < 4294967296) : FL.fin x := by
  unfold slotOk at h
  split at h
  · exact fin_part h hx
  · rw [same0 h]; exact ⟨by decide, by decide⟩
theorem fin_crate {n : Int} {l : List Nat} (h : validCrate n l = true) (hl : ∀ i, ix l i < 4294967296) (i : Nat) (hi : i < 16) : FL.fin (ix l i) := by
  unfold validCrate at h
  rw [Bool.and_eq_true] at h
  exact fin_slot (slotsOk_iff.1 h.2 i hi) (hl i)
theorem fin_zero16 (i : Nat) (hi : i < 16) : FL.fin (ix zero16 i) := by
  have : ix zero16 i = 0 := by
    unfold ix zero16
    rcases (show i = 0 ∨ i = 1 ∨ i = 2 ∨ i = 3 ∨ i = 4 ∨ i = 5 ∨ i = 6 ∨ i = 7 ∨ i = 8 ∨ i = 9 ∨ i = 10 ∨ i = 11 ∨ i = 12 ∨ i = 13 ∨ i = 14 ∨ i = 15 by omega) with rfl | rfl | rfl | rfl | rfl | rfl | rfl | rfl | rfl | rfl | rfl | rfl | rfl | rfl | rfl | rfl <;> rfl
  rw [this]; exact ⟨by decide, by decide⟩

section
variable {P : Program}
theorem results_row_tmp {fn : Func} {p u : Tmp} {ty : TypeId} (h : fn.results = #[.cell p ty, .tmp u]) (tmps : Array Value) (w : World) (g : Nat) (t : TypeId) (cs : Array Value) (fr : Nat × Nat) (d : TypeDesc)
    (hp : tmps.getD p undef = .pointer (some ⟨g, 0, none⟩)) (hg : w.heap[g]? = some (.cells cs t fr))
    (hu : P.underlying ty = some d) (hd : (match d with | .struct _ | .array _ _ => true | _ => false) = true) (hi : (P.info? ty).map (·.size) = some cs.size) :
    (results fn tmps).run P w = .ok (.tuple #[.agg cs, tmps.getD u undef]) w := by
  have hp' : tmps[p]?.getD undef = .pointer (some ⟨g, 0, none⟩) := by simpa using hp
  simp [results, h, hp', asAddr, run_loadVar_row w g t ty cs fr d hg hu hd hi]
theorem results_row_tmp2 {fn : Func} {p u v : Tmp} {ty : TypeId} (h : fn.results = #[.cell p ty, .tmp u, .tmp v]) (tmps : Array Value) (w : World) (g : Nat) (t : TypeId) (cs : Array Value) (fr : Nat × Nat) (d : TypeDesc)
    (hp : tmps.getD p undef = .pointer (some ⟨g, 0, none⟩)) (hg : w.heap[g]? = some (.cells cs t fr))
    (hu : P.underlying ty = some d) (hd : (match d with | .struct _ | .array _ _ => true | _ => false) = true) (hi : (P.info? ty).map (·.size) = some cs.size) :
    (results fn tmps).run P w = .ok (.tuple #[.agg cs, tmps.getD u undef, tmps.getD v undef]) w := by
  have hp' : tmps[p]?.getD undef = .pointer (some ⟨g, 0, none⟩) := by simpa using hp
  simp [results, h, hp', asAddr, run_loadVar_row w g t ty cs fr d hg hu hd hi]
theorem results_row2_tmp {fn : Func} {p q u : Tmp} {ty : TypeId} (h : fn.results = #[.cell p ty, .cell q ty, .tmp u]) (tmps : Array Value) (w : World) (g g' : Nat) (t t' : TypeId) (cs cs' : Array Value) (fr fr' : Nat × Nat) (d : TypeDesc)
    (hp : tmps.getD p undef = .pointer (some ⟨g, 0, none⟩)) (hg : w.heap[g]? = some (.cells cs t fr))
    (hq : tmps.getD q undef = .pointer (some ⟨g', 0, none⟩)) (hg' : w.heap[g']? = some (.cells cs' t' fr'))
    (hu : P.underlying ty = some d) (hd : (match d with | .struct _ | .array _ _ => true | _ => false) = true) (hi : (P.info? ty).map (·.size) = some cs.size) (hi' : (P.info? ty).map (·.size) = some cs'.size) :
    (results fn tmps).run P w = .ok (.tuple #[.agg cs, .agg cs', tmps.getD u undef]) w := by
  have hp' : tmps[p]?.getD undef = .pointer (some ⟨g, 0, none⟩) := by simpa using hp
  have hq' : tmps[q]?.getD undef = .pointer (some ⟨g', 0, none⟩) := by simpa using hq
  simp [results, h, hp', hq', asAddr, run_loadVar_row w g t ty cs fr d hg hu hd hi, run_loadVar_row w g' t' ty cs' fr' d hg' hu hd hi']
end
/-- A block made and filled at once. -/
theorem new_row (w : World) (z cs : Array Value) (t : TypeId) : ((w.alloc (.cells z t)).setRow w.heap.size cs).heap[w.heap.size]? = some (.cells cs t (0, 0)) ∧
    (∀ (g : Nat) (o : Obj), w.heap[g]? = some o → ((w.alloc (.cells z t)).setRow w.heap.size cs).heap[g]? = some o) ∧ Below w.heap.size w ((w.alloc (.cells z t)).setRow w.heap.size cs) :=
  ⟨setRow_heap _ _ _ _ _ _ (ha1 _ _), fun g o h => by
    have hlt : g < w.heap.size := by
      refine Nat.lt_of_not_le fun hle => ?_
      rw [Array.getElem?_eq_none hle] at h; cases h
    rw [setRow_other _ _ _ _ (by omega), heap_alloc_old (h := hlt)]; exact h, below_setRow (Below.alloc (Below.refl _ _) (Nat.le_refl _) _) (Nat.le_refl _) _⟩

/-! ### a fruit put in -/
theorem zeroC : (#[.int .i8 0, .float .f32 0, .float .f32 0, .float .f32 0, .float .f32 0, .float .f32 0, .float .f32 0, .float .f32 0, .float .f32 0, .float .f32 0, .float .f32 0, .float .f32 0, .float .f32 0, .float .f32 0, .float .f32 0, .float .f32 0, .float .f32 0] : Array Value) = crateCells 0 zero16 := rfl
/-- What putting a fruit in gives: how many, which, the code. -/
def putN (n : Int) (V B : Bool) : Int := if told V B = 0 ∧ n ≠ 16 then n + 1 else 0
def putL (n : Int) (l : List Nat) (b : Nat) (V B : Bool) : List Nat := if told V B = 0 ∧ n ≠ 16 then l.set n.toNat b else zero16
def putE (n : Int) (V B : Bool) : Int := if told V B = 0 ∧ n = 16 then 3 else told V B
set_option maxRecDepth 100000 in
set_option maxHeartbeats 1000000 in
theorem spec_PutFruit (n : Int) (l : List Nat) (hl : l.length = 16) (b : Nat) (w : World) (h1 : -128 ≤ n) (h2 : n ≤ 127) : Calls Try.prog 30 #[.agg (crateCells n l), .float .f32 b] w (Ret (.tuple #[.agg (crateCells (putN n (validCrate n l) (isPart b)) (putL n l b (validCrate n l) (isPart b))), .int .i64 (putE n (validCrate n l) (isPart b))]) w) := by
  have HL := Lib.hid hl; clear hl
  have HC := Lib.hid (spec_l01Told w.heap.size n l (isPart b) ((w.alloc (.cells (crateCells n l) 37)).alloc (.cells #[.int .i8 0, .float .f32 0, .float .f32 0, .float .f32 0, .float .f32 0, .float .f32 0, .float .f32 0, .float .f32 0, .float .f32 0, .float .f32 0, .float .f32 0, .float .f32 0, .float .f32 0, .float .f32 0, .float .f32 0, .float .f32 0, .float .f32 0] 37)) h1 h2 (cell_of_row _ _ _ _ _ _ (ha2_0 _ _ _)) (fun k hk => (cell_of_row _ _ _ _ _ _ (ha2_0 _ _ _)).trans (crateCells_at (by rw [HL.out]; exact hk))))
  have HV := Lib.hid (valid_count (n := n) (l := l))
  obtain ⟨V, hV⟩ : ∃ V, validCrate n l = V := ⟨_, rfl⟩
  obtain ⟨B, hB⟩ : ∃ B, isPart b = B := ⟨_, rfl⟩
  rw [hV, hB] at HC
  rw [hV] at HV
  rw [hV, hB]
  obtain ⟨W, hW⟩ : ∃ W, W = (w.alloc (.cells (crateCells n l) 37)).alloc (.cells #[.int .i8 0, .float .f32 0, .float .f32 0, .float .f32 0, .float .f32 0, .float .f32 0, .float .f32 0, .float .f32 0, .float .f32 0, .float .f32 0, .float .f32 0, .float .f32 0, .float .f32 0, .float .f32 0, .float .f32 0, .float .f32 0, .float .f32 0] 37) := ⟨_, rfl⟩
  have G0 : Hid (W.heap[w.heap.size]? = some (.cells (crateCells n l) 37 (0, 0))) := by rw [hW]; exact ha2_0 _ _ _
  have G1 : Hid (W.heap[w.heap.size + 1]? = some (.cells (crateCells 0 zero16) 37 (0, 0))) := by rw [hW]; exact ha2_1 _ _ _
  have HB : Hid (Below w.heap.size w W) := by rw [hW]; (repeat (first | exact Below.refl _ _ | assumption | refine below_new ?_ _ | refine below_step ?_ (by assumption) | refine Below.drew ?_ | refine below_dn ?_ _ | refine Below.setCell ?_ (by simp <;> omega) _))
  have hsz : W.heap.size = w.heap.size + 2 := by rw [hW, size_al, size_al]
  rw [← hW] at HC
  go_enter Try.func30, Try.ntmps30
  go_wp2_with (go_at_call 58; ((with_reducible refine (spec_l01Part _ _).mono ?_); rintro e w' ⟨rfl, rfl⟩; rw [hB]))
  rw [← hW]
  clear hW
  ((with_reducible refine (HC.out).mono ?_); rintro e w' ⟨rfl, rfl⟩)
  clear HC hB hV
  by_cases hVB : V = true ∧ B = true
  · obtain ⟨rfl, rfl⟩ := hVB
    obtain ⟨k, rfl, hk⟩ := HV.out rfl
    clear HV
    rw [show told true true = 0 from rfl]
    by_cases hk16 : (k : Int) = 16
    · have c0 : W.cell? ⟨w.heap.size, 0, none⟩ = some (.int .i8 k) := cell_of_row _ _ _ _ _ _ G0.out
      have hN : Hid (putN k true true = 0 ∧ putL k l b true true = zero16 ∧ putE k true true = 3) := ⟨by simp [putN, told, hk16], by simp [putL, told, hk16], by simp [putE, told, hk16]⟩
      go_wp2_with (first
        | ((with_reducible show wpList _ _ _ (⟨none, .store _ (.tmp 4) _, _, _, _, _⟩ :: _) _ _); refine wpList_store_row rfl 37 (.tmp 4) _ rfl (w.heap.size + 1) (crateCells 0 zero16) rfl rfl 37 (crateCells 0 zero16) G1.out (by kernel_rfl) rfl (crate_oneCell _ _) ?_))
      exact bodyPost_ret (results_row_tmp rfl _ _ (w.heap.size + 1) 37 (crateCells 0 zero16) (0, 0) _ rfl (setRow_heap _ _ _ _ _ _ G1.out) Try.underlying37 rfl (by kernel_rfl)) rfl ⟨by rw [hN.out.1, hN.out.2.1, hN.out.2.2]; rfl, below_setRow HB.out (by omega) _⟩
    · have hlt : k < 16 := by omega
      have c0 : W.cell? ⟨w.heap.size, 0, none⟩ = some (.int .i8 k) := cell_of_row _ _ _ _ _ _ G0.out
      have f0 : W.frozen? ⟨w.heap.size, 0, none⟩ = false := frozen_of_row _ _ _ _ _ G0.out
      have ck : W.cell? ⟨w.heap.size, 1 + k, none⟩ = some (.float .f32 (ix l k)) := (cell_of_row _ _ _ _ _ _ G0.out).trans (crateCells_at (by rw [HL.out]; exact hlt))
      have fk : W.frozen? ⟨w.heap.size, 1 + k, none⟩ = false := frozen_of_row _ _ _ _ _ G0.out
      have hN : Hid (putN k true true = k + 1 ∧ putL k l b true true = l.set k b ∧ putE k true true = 0) := ⟨by simp [putN, told, hk16], by simp [putL, told, hk16], by simp [putE, told, hk16]⟩
      have hne : ¬ (w.heap.size + 1 = w.heap.size) := by omega
      have GA : Hid (((W.setCell ⟨w.heap.size, 1 + k, none⟩ (.float .f32 b)).setCell ⟨w.heap.size, 0, none⟩ (.int .i8 (k + 1))).heap[w.heap.size]? = some (.cells (crateCells (k + 1) (l.set k b)) 37 (0, 0))) := by
        show _ = _
        rw [heap_setCell_same _ _ _ _ _ _ (by rw [heap_setCell_same _ _ _ _ _ _ G0.out, crateCells_set]), crateCells_set0]
      have GB : Hid (((W.setCell ⟨w.heap.size, 1 + k, none⟩ (.float .f32 b)).setCell ⟨w.heap.size, 0, none⟩ (.int .i8 (k + 1))).heap[w.heap.size + 1]? = some (.cells (crateCells 0 zero16) 37 (0, 0))) := by
        rw [heap_setCell_other _ _ _ _ (by simp), heap_setCell_other _ _ _ _ (by simp)]; exact G1.out
      go_wp2_with (first
        | ((with_reducible show wpList _ _ _ (⟨some 27, _, _, _, _, _⟩ :: _) _ _); refine wpList_load_row rfl 37 (.tmp 2) rfl w.heap.size rfl 37 (crateCells (k + 1) (l.set k b)) (0, 0) _ GA.out Try.underlying37 rfl (by rw [crateCells_size, List.length_set, HL.out]; kernel_rfl) ?_)
        | ((with_reducible show wpList _ _ _ (⟨none, .store _ (.tmp 4) _, _, _, _, _⟩ :: _) _ _); refine wpList_store_row rfl 37 (.tmp 4) _ rfl (w.heap.size + 1) (crateCells (k + 1) (l.set k b)) rfl rfl 37 (crateCells 0 zero16) GB.out (by rw [crateCells_size, List.length_set, HL.out]; kernel_rfl) (by rw [crateCells_size, crateCells_size, List.length_set, HL.out]; rfl) (crate_oneCell _ _) ?_))
      exact bodyPost_ret (results_row_tmp rfl _ _ (w.heap.size + 1) 37 (crateCells (k + 1) (l.set k b)) (0, 0) _ rfl (setRow_heap _ _ _ _ _ _ GB.out) Try.underlying37 rfl (by rw [crateCells_size, List.length_set, HL.out]; kernel_rfl)) rfl ⟨by rw [hN.out.1, hN.out.2.1, hN.out.2.2]; rfl, below_setRow (Below.setCell (Below.setCell HB.out (by simp <;> omega) _) (by simp <;> omega) _) (by omega) _⟩
  · have hN : Hid (putN n V B = 0 ∧ putL n l b V B = zero16 ∧ putE n V B = told V B ∧ told V B ≠ 0) := by
      cases V <;> cases B <;> simp [Hid, putN, putL, putE, told] at hVB ⊢
    have hne : (told V B != 0) = true := by simpa using hN.out.2.2.2
    clear hVB HV
    obtain ⟨T, hT⟩ : ∃ T, told V B = T := ⟨_, rfl⟩
    rw [hT] at hne hN ⊢
    clear hT
    go_wp2_with (first
      | ((with_reducible show wpList _ _ _ (⟨none, .store _ (.tmp 4) _, _, _, _, _⟩ :: _) _ _); refine wpList_store_row rfl 37 (.tmp 4) _ rfl (w.heap.size + 1) (crateCells 0 zero16) rfl rfl 37 (crateCells 0 zero16) G1.out (by kernel_rfl) rfl (crate_oneCell _ _) ?_))
    exact bodyPost_ret (results_row_tmp rfl _ _ (w.heap.size + 1) 37 (crateCells 0 zero16) (0, 0) _ rfl (setRow_heap _ _ _ _ _ _ G1.out) Try.underlying37 rfl (by kernel_rfl)) rfl ⟨by rw [hN.out.1, hN.out.2.1, hN.out.2.2.1]; rfl, below_setRow HB.out (by omega) _⟩
set_option maxRecDepth 100000 in
set_option maxHeartbeats 1000000 in
theorem impl_PutFruit (n : Int) (l : List Nat) (hl : l.length = 16) (b : Nat) (w : World) (h1 : -128 ≤ n) (h2 : n ≤ 127) : Calls Try.prog 31 #[.agg (crateCells n l), .float .f32 b] w (Ret (.tuple #[.agg (crateCells (putN n (validCrate n l) (isPart b)) (putL n l b (validCrate n l) (isPart b))), .int .i64 (putE n (validCrate n l) (isPart b))]) w) := by
  have HL := Lib.hid hl; clear hl
  have HC := Lib.hid (impl_ValidCrate n l HL.out ((w.alloc (.cells (crateCells n l) 37)).alloc (.cells #[.int .i8 0, .float .f32 0, .float .f32 0, .float .f32 0, .float .f32 0, .float .f32 0, .float .f32 0, .float .f32 0, .float .f32 0, .float .f32 0, .float .f32 0, .float .f32 0, .float .f32 0, .float .f32 0, .float .f32 0, .float .f32 0, .float .f32 0] 37)) h1 h2)
  have HV := Lib.hid (valid_count (n := n) (l := l))
  obtain ⟨V, hV⟩ : ∃ V, validCrate n l = V := ⟨_, rfl⟩
  obtain ⟨B, hB⟩ : ∃ B, isPart b = B := ⟨_, rfl⟩
  rw [hV] at HV HC
  rw [hV, hB]
  have HI := Lib.hid hB
  go_enter Try.func31, Try.ntmps31
  go_wp2_with ((with_reducible show wpList _ _ _ (⟨some 7, _, _, _, _, _⟩ :: _) _ _); refine wpList_load_row rfl 37 (.tmp 2) rfl w.heap.size rfl 37 (crateCells n l) (0, 0) _ (ha2_0 _ _ _) Try.underlying37 rfl (by rw [crateCells_size, HL.out]; kernel_rfl) ?_)
  ((with_reducible refine (HC.out).mono ?_); rintro e W ⟨rfl, hb1⟩)
  have G0 : Hid (W.heap[w.heap.size]? = some (.cells (crateCells n l) 37 (0, 0))) := below_heap hb1 (ha2_0 _ _ _)
  have G1 : Hid (W.heap[w.heap.size + 1]? = some (.cells (crateCells 0 zero16) 37 (0, 0))) := below_heap hb1 (ha2_1 _ _ _)
  have HB : Hid (Below w.heap.size w W) := below_step (by (repeat (first | exact Below.refl _ _ | assumption | refine below_new ?_ _ | refine below_step ?_ (by assumption) | refine Below.drew ?_ | refine below_dn ?_ _ | refine Below.setCell ?_ (by simp <;> omega) _))) hb1
  have hsz : w.heap.size + 2 ≤ W.heap.size := by have := hb1.size; rw [size_al, size_al] at this; exact this
  clear HC hB hV hb1
  by_cases hVB : V = true ∧ B = true
  · obtain ⟨rfl, rfl⟩ := hVB
    obtain ⟨k, rfl, hk⟩ := HV.out rfl
    clear HV
    by_cases hk16 : (k : Int) = 16
    · have c0 : W.cell? ⟨w.heap.size, 0, none⟩ = some (.int .i8 k) := cell_of_row _ _ _ _ _ _ G0.out
      have hN : Hid (putN k true true = 0 ∧ putL k l b true true = zero16 ∧ putE k true true = 3) := ⟨by simp [putN, told, hk16], by simp [putL, told, hk16], by simp [putE, told, hk16]⟩
      go_wp2_with (first
        | (go_at_call 59; ((with_reducible refine (impl_IsPart _ _).mono ?_); rintro e w' ⟨rfl, rfl⟩; rw [HI.out]))
        | ((with_reducible show wpList _ _ _ (⟨none, .store _ (.tmp 4) _, _, _, _, _⟩ :: _) _ _); refine wpList_store_row rfl 37 (.tmp 4) _ rfl (w.heap.size + 1) (crateCells 0 zero16) rfl rfl 37 (crateCells 0 zero16) G1.out (by kernel_rfl) rfl (crate_oneCell _ _) ?_))
      exact bodyPost_ret (results_row_tmp rfl _ _ (w.heap.size + 1) 37 (crateCells 0 zero16) (0, 0) _ rfl (setRow_heap _ _ _ _ _ _ G1.out) Try.underlying37 rfl (by kernel_rfl)) rfl ⟨by rw [hN.out.1, hN.out.2.1, hN.out.2.2]; rfl, below_setRow HB.out (by omega) _⟩
    · have hlt : k < 16 := by omega
      have c0 : W.cell? ⟨w.heap.size, 0, none⟩ = some (.int .i8 k) := cell_of_row _ _ _ _ _ _ G0.out
      have f0 : W.frozen? ⟨w.heap.size, 0, none⟩ = false := frozen_of_row _ _ _ _ _ G0.out
      have ck : W.cell? ⟨w.heap.size, 1 + k, none⟩ = some (.float .f32 (ix l k)) := (cell_of_row _ _ _ _ _ _ G0.out).trans (crateCells_at (by rw [HL.out]; exact hlt))
      have fk : W.frozen? ⟨w.heap.size, 1 + k, none⟩ = false := frozen_of_row _ _ _ _ _ G0.out
      have hN : Hid (putN k true true = k + 1 ∧ putL k l b true true = l.set k b ∧ putE k true true = 0) := ⟨by simp [putN, told, hk16], by simp [putL, told, hk16], by simp [putE, told, hk16]⟩
      have hne : ¬ (w.heap.size + 1 = w.heap.size) := by omega
      have GA : Hid (((W.setCell ⟨w.heap.size, 1 + k, none⟩ (.float .f32 b)).setCell ⟨w.heap.size, 0, none⟩ (.int .i8 (k + 1))).heap[w.heap.size]? = some (.cells (crateCells (k + 1) (l.set k b)) 37 (0, 0))) := by
        show _ = _
        rw [heap_setCell_same _ _ _ _ _ _ (by rw [heap_setCell_same _ _ _ _ _ _ G0.out, crateCells_set]), crateCells_set0]
      have GB : Hid (((W.setCell ⟨w.heap.size, 1 + k, none⟩ (.float .f32 b)).setCell ⟨w.heap.size, 0, none⟩ (.int .i8 (k + 1))).heap[w.heap.size + 1]? = some (.cells (crateCells 0 zero16) 37 (0, 0))) := by
        rw [heap_setCell_other _ _ _ _ (by simp), heap_setCell_other _ _ _ _ (by simp)]; exact G1.out
      go_wp2_with (first
        | (go_at_call 59; ((with_reducible refine (impl_IsPart _ _).mono ?_); rintro e w' ⟨rfl, rfl⟩; rw [HI.out]))
        | ((with_reducible show wpList _ _ _ (⟨some 30, _, _, _, _, _⟩ :: _) _ _); refine wpList_load_row rfl 37 (.tmp 2) rfl w.heap.size rfl 37 (crateCells (k + 1) (l.set k b)) (0, 0) _ GA.out Try.underlying37 rfl (by rw [crateCells_size, List.length_set, HL.out]; kernel_rfl) ?_)
        | ((with_reducible show wpList _ _ _ (⟨none, .store _ (.tmp 4) _, _, _, _, _⟩ :: _) _ _); refine wpList_store_row rfl 37 (.tmp 4) _ rfl (w.heap.size + 1) (crateCells (k + 1) (l.set k b)) rfl rfl 37 (crateCells 0 zero16) GB.out (by rw [crateCells_size, List.length_set, HL.out]; kernel_rfl) (by rw [crateCells_size, crateCells_size, List.length_set, HL.out]; rfl) (crate_oneCell _ _) ?_))
      exact bodyPost_ret (results_row_tmp rfl _ _ (w.heap.size + 1) 37 (crateCells (k + 1) (l.set k b)) (0, 0) _ rfl (setRow_heap _ _ _ _ _ _ GB.out) Try.underlying37 rfl (by rw [crateCells_size, List.length_set, HL.out]; kernel_rfl)) rfl ⟨by rw [hN.out.1, hN.out.2.1, hN.out.2.2]; rfl, below_setRow (Below.setCell (Below.setCell HB.out (by simp <;> omega) _) (by simp <;> omega) _) (by omega) _⟩
  · have hN : Hid (putN n V B = 0 ∧ putL n l b V B = zero16 ∧ putE n V B = told V B ∧ told V B ≠ 0) := by
      clear HI; cases V <;> cases B <;> simp [Hid, putN, putL, putE, told] at hVB ⊢
    clear HV
    have hTT : told V B = if V then 2 else 1 := by cases V <;> cases B <;> simp [told] at hVB ⊢
    rw [hTT] at hN
    have hBf : V = true → B = false := fun h => by cases B <;> simp_all
    clear hTT
    cases V
    all_goals
      (try (have hBf' := hBf rfl; subst hBf'))
      clear hBf hVB
      go_wp2_with (first
        | (go_at_call 59; ((with_reducible refine (impl_IsPart _ _).mono ?_); rintro e w' ⟨rfl, rfl⟩; rw [HI.out]))
        | ((with_reducible show wpList _ _ _ (⟨none, .store _ (.tmp 4) _, _, _, _, _⟩ :: _) _ _); refine wpList_store_row rfl 37 (.tmp 4) _ rfl (w.heap.size + 1) (crateCells 0 zero16) rfl rfl 37 (crateCells 0 zero16) G1.out (by kernel_rfl) rfl (crate_oneCell _ _) ?_))
      exact bodyPost_ret (results_row_tmp rfl _ _ (w.heap.size + 1) 37 (crateCells 0 zero16) (0, 0) _ rfl (setRow_heap _ _ _ _ _ _ G1.out) Try.underlying37 rfl (by kernel_rfl)) rfl ⟨by rw [hN.out.1, hN.out.2.1, hN.out.2.2.1]; rfl, below_setRow HB.out (by omega) _⟩
end Go.Proofs.Ytckapidlhhjipaa
