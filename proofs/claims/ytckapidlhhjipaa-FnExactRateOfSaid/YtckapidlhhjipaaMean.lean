/-
  CONTRACTS: the mean of a crate; lists of fruits.
-/
import Derived.Test.YtckapidlhhjipaaRipe
import Derived.Test.YtckapidlhhjipaaQuot
set_option linter.unusedVariables false
set_option linter.unusedSimpArgs false
namespace Go.Proofs.Ytckapidlhhjipaa
open Go.RowKit Go.FV

theorem info_f32 : (Try.prog.info? 22).map (fun i => (i.zero, i.size, i.bytes)) = some (some (.float .f32 0), 1, 4) := by kernel_rfl
/-- The first floats of a list, as values. -/
def vals (l : List Nat) (k : Nat) : List Value := (l.take k).map (Value.float .f32)
theorem vals_succ {l : List Nat} {k : Nat} (h : k < l.length) : vals l (k + 1) = vals l k ++ [.float .f32 (ix l k)] := by
  unfold vals
  rw [List.take_add_one, ix_get h]; simp
theorem vals_len {l : List Nat} {k : Nat} (h : k ≤ l.length) : (vals l k).length = k := by simp [vals]; omega

set_option maxHeartbeats 1000000 in
theorem l01List_any (b k : Nat) (hk : k ≤ 16) (l : List Nat) (hl : l.length = 16) (w : World) (hb : b < w.heap.size) (c0 : w.cell? ⟨b, 0, none⟩ = some (.int .i8 k)) (cv : ∀ j, j < 16 → w.cell? ⟨b, 1 + j, none⟩ = some (.float .f32 (ix l j))) :
    Calls Try.prog 63 #[.pointer (some ⟨b, 0, none⟩)] w fun e w' => ∃ v, e = .returned v ∧ w'.ownsRow w.heap.size 22 1 v k (vals l k) ∧ v ≠ .slice none 0 0 ∧ Below w.heap.size w w' := by
  have HL := Lib.hid hl; clear hl
  have CV := Lib.hid cv; clear cv
  obtain ⟨i0, hi, hz0, hz1, hz2⟩ := info_parts info_f32
  go_enter Try.func63, Try.ntmps63
  go_wp2
  go_loopw [3, 4] (fun v i wr => ∃ j : Nat, j ≤ k ∧ i = .int .i64 j ∧ wr.ownsRow w.heap.size 22 1 v j (vals l j) ∧ v ≠ .slice none 0 0 ∧ Below w.heap.size w wr) (fun _ i _ => 16 - (intOf i).toNat)
  case atStart => exact ⟨0, by omega, rfl, ⟨by simp [vals], .inr ⟨w.heap.size, 0, #[], rfl, Nat.le_refl _, ha1 _ _, by omega, by unfold maxLen; omega, rfl, by simp [vals]⟩⟩, by simp, by show Below _ _ _; (repeat (first | exact Below.refl _ _ | assumption | refine below_new ?_ _ | refine below_step ?_ (by assumption) | refine Below.drew ?_ | refine below_dn ?_ _ | refine Below.setCell ?_ (by simp <;> omega) _))⟩
  case round =>
    obtain ⟨j, hj, rfl, hown, hne, hB⟩ := hrel
    have c0 : wr.cell? ⟨b, 0, none⟩ = some (.int .i8 k) := (hB.cell (p := ⟨b, 0, none⟩) hb).trans c0
    by_cases hlt : j < k
    · have cj : wr.cell? ⟨b, 1 + j, none⟩ = some (.float .f32 (ix l j)) := (hB.cell (p := ⟨b, 1 + j, none⟩) hb).trans (CV.out j (by omega))
      have hj16 : j < 16 := by omega
      go_wp2_with (at_builtin; refine wpList_append_own _ rfl _ _ 71 rfl w.heap.size 22 i0 (.float .f32 0) 1 4 Try.underlying71 hi hz0 hz1 hz2 rfl (by decide) _ _ _ rfl (hown.alloc _) ⟨wr.heap.size, 0, none⟩ 1 1 [.float .f32 (ix l j)] rfl rfl ?c1 ?c2 ?c3 ?c4 ?c5 ?_)
      case c1 =>
        intro j u hj
        match j, hj with
        | 0, hj => simp at hj; subst hj; simp [Addr.add]
      case c2 => intro u hu; simp at hu; subst hu; rfl
      case c3 => unfold maxLen; omega
      case c4 => omega
      case c5 => have := hB.size; simp; omega
      · intro v' w1 hown' hgrow hnil
        have hne' : v' ≠ .slice none 0 0 := fun h => by first | exact hnil h | exact hne (hnil.1 h).1
        have hB1 : Below w.heap.size w w1 := Below.grown (hB.alloc hB.size _) hgrow (by have := hB.size; simp; omega) (fun g hg => by
          rcases hown.2 with ⟨h, _⟩ | ⟨g', cap, cur, h, hg', _⟩
          · exact absurd h hne
          · subst h; simp [Value.ownBlock] at hg; omega)
        rw [← vals_succ (by rw [HL.out]; omega)] at hown'
        clear hgrow hnil hown hB hne
        go_wp2
        go_roundw
        case rel => exact ⟨j + 1, by omega, by go_num, hown', hne', hB1⟩
        case measure => simp [intOf]; omega
    · have : j = k := by omega
      subst this
      go_wp2
      go_ret
      exact ⟨_, rfl, hown, hne, hB⟩

theorem owns_cells {w : World} {B : Nat} {e : TypeId} {v : Value} {k : Nat} {l : List Nat} (h : w.ownsRow B e 1 v k (vals l k)) (hne : v ≠ .slice none 0 0) (hl : k ≤ l.length) :
    ∃ g cap, v = .slice (some ⟨g, 0, none⟩) k cap ∧ B ≤ g ∧ g < w.heap.size ∧ k ≤ cap ∧ ∀ j, j < k → w.cell? ⟨g, j, none⟩ = some (.float .f32 (ix l j)) := by
  rcases h.2 with ⟨h, _⟩ | ⟨g, cap, cur, h, hg, hh, hc, _, hs, ht⟩
  · exact absurd h hne
  · refine ⟨g, cap, h, hg, (Array.getElem?_eq_some_iff.1 hh).1, hc, fun j hj => ?_⟩
    rw [cell_of_row _ _ _ _ _ _ hh]
    have : (cur.toList.take (k * 1))[j]? = some (.float .f32 (ix l j)) := by
      rw [ht]; unfold vals
      rw [List.getElem?_map, List.getElem?_take, if_pos hj, ix_get (by omega)]; rfl
    rw [List.getElem?_take, if_pos (by omega)] at this
    simpa using this

/-! ### sums and means as words -/
def addW (x y : Nat) : Nat := (Ieee.single.add x y).getD 0
def divW (x y : Nat) : Nat := (Ieee.single.div x y).getD 0
/-- The sum of the first places, one more than said. -/
def sumW (l : List Nat) : Nat → Nat
  | 0 => ix l 0
  | k + 1 => addW (sumW l k) (ix l (k + 1))
theorem addW_spec {i j x y : Nat} (hx : FL.upto i x) (hy : FL.upto j y) (h : i + j ≤ 16777216) : Ieee.single.add x y = some (addW x y) ∧ FL.upto (i + j) (addW x y) := by
  obtain ⟨z, hz, hu⟩ := FL.upto_add hx hy h
  unfold addW; rw [hz]; exact ⟨rfl, hu⟩
theorem sumW_upto {l : List Nat} {m : Nat} (h : ∀ j, j ≤ m → FL.upto 1 (ix l j)) (hm : m ≤ 1000) : ∀ k, k ≤ m → FL.upto (k + 1) (sumW l k)
  | 0, _ => h 0 (by omega)
  | k + 1, hk => (addW_spec (sumW_upto h hm k (by omega)) (h (k + 1) hk) (by omega)).2
theorem run_addW {i j x y : Nat} (hx : FL.upto i x) (hy : FL.upto j y) (h : i + j ≤ 16777216) (t : TypeId) (w : World) : (binOp .add t (.float .f32 x) (.float .f32 y)).run Try.prog w = .ok (.float .f32 (addW x y)) w :=
  run_fadd t (addW_spec hx hy h).1 w
theorem of_int (k : Nat) (h1 : 1 ≤ k) (h2 : k ≤ 16) : FL.fin (floatOfInt .f32 k) ∧ FL.sv (floatOfInt .f32 k) ≠ 0 := by
  rcases (show k = 1 ∨ k = 2 ∨ k = 3 ∨ k = 4 ∨ k = 5 ∨ k = 6 ∨ k = 7 ∨ k = 8 ∨ k = 9 ∨ k = 10 ∨ k = 11 ∨ k = 12 ∨ k = 13 ∨ k = 14 ∨ k = 15 ∨ k = 16 by omega) with rfl | rfl | rfl | rfl | rfl | rfl | rfl | rfl | rfl | rfl | rfl | rfl | rfl | rfl | rfl | rfl <;> exact ⟨⟨by decide +kernel, by decide +kernel⟩, by decide +kernel⟩
def meanW (l : List Nat) (k : Nat) : Nat := divW (sumW l (k - 1)) (floatOfInt .f32 k)
theorem meanW_spec {l : List Nat} {k : Nat} (h : ∀ j, j < k → FL.upto 1 (ix l j)) (h1 : 1 ≤ k) (h2 : k ≤ 16) : Ieee.single.div (sumW l (k - 1)) (floatOfInt .f32 k) = some (meanW l k) ∧ FL.num (meanW l k) := by
  obtain ⟨z, hz, hn⟩ := FL.div_num (sumW_upto (m := k - 1) (fun j hj => h j (by omega)) (by omega) (k - 1) (Nat.le_refl _)).1 (of_int k h1 h2).1 (of_int k h1 h2).2
  unfold meanW divW; rw [hz]; exact ⟨rfl, hn⟩
set_option maxHeartbeats 1000000 in
theorem l01Mean_any (b off c k : Nat) (h1 : 1 ≤ k) (h2 : k ≤ 16) (l : List Nat) (hu : ∀ j, j < k → FL.upto 1 (ix l j)) (w : World) (cv : ∀ j, j < k → w.cell? ⟨b, off + j, none⟩ = some (.float .f32 (ix l j))) :
    Calls Try.prog 62 #[.slice (some ⟨b, off, none⟩) k c] w fun e w' => e = .returned (.float .f32 (meanW l k)) ∧ w = w' := by
  have CV := Lib.hid cv; clear cv
  have HU := Lib.hid hu; clear hu
  have c0 : w.cell? ⟨b, off, none⟩ = some (.float .f32 (ix l 0)) := CV.out 0 (by omega)
  have c0' : w.cell? ⟨b, off + 0, none⟩ = some (.float .f32 (ix l 0)) := CV.out 0 (by omega)
  go_enter Try.func62, Try.ntmps62
  go_wp2
  go_loop [3, 4] (fun s i => ∃ j : Nat, j + 1 ≤ k ∧ i = .int .i64 (j + 1 : Nat) ∧ s = .float .f32 (sumW l j)) (fun _ i => 16 - (intOf i).toNat)
  case atStart => exact ⟨0, by omega, rfl, rfl⟩
  case round =>
    obtain ⟨j, hj, rfl, rfl⟩ := hrel
    by_cases hlt : j + 1 < k
    · have cj := CV.out (j + 1) hlt
      have ha := run_addW (sumW_upto (m := j) (fun i hi => HU.out i (by omega)) (by omega) j (Nat.le_refl _)) (HU.out (j + 1) hlt) (by omega) 22 w
      have hs : Hid (addW (sumW l j) (ix l (j + 1)) = sumW l (j + 1)) := rfl
      rw [hs.out] at ha
      go_wp2
      go_round
      case rel => exact ⟨j + 1, by omega, by go_num, rfl⟩
      case measure => simp [intOf]; omega
    · have : j + 1 = k := by omega
      subst this
      have hd : ∀ w, (binOp .quo 22 (.float .f32 (sumW l j)) (.float .f32 (floatOfInt .f32 ((j : Int) + 1)))).run Try.prog w = .ok (.float .f32 (meanW l (j + 1))) w := fun w => run_fdiv _ (meanW_spec HU.out h1 h2).1 w
      go_wp2
      go_ret
      exact ⟨rfl, rfl⟩

set_option maxHeartbeats 1000000 in
theorem sumOf_any (b off k : Nat) (h1 : 1 ≤ k) (h2 : k ≤ 16) (l : List Nat) (hu : ∀ j, j < k → FL.upto 1 (ix l j)) (w : World) (cv : ∀ j, j < k → w.cell? ⟨b, off + j, none⟩ = some (.float .f32 (ix l j))) :
    Calls Try.prog 64 #[.slice (some ⟨b, off, none⟩) k 16] w fun e w' => e = .returned (.float .f32 (sumW l (k - 1))) ∧ w = w' := by
  have CV := Lib.hid cv; clear cv
  have HU := Lib.hid hu; clear hu
  have c0 : w.cell? ⟨b, off, none⟩ = some (.float .f32 (ix l 0)) := CV.out 0 (by omega)
  have c0' : w.cell? ⟨b, off + 0, none⟩ = some (.float .f32 (ix l 0)) := CV.out 0 (by omega)
  have hk0 : ¬ k = 0 := by omega
  obtain ⟨S, hS⟩ : ∃ S, sumW l (k - 1) = S := ⟨_, rfl⟩
  rw [hS]
  have HS := Lib.hid hS; clear hS
  obtain ⟨k, rfl⟩ : ∃ d, k = d + 1 := ⟨k - 1, by omega⟩
  go_enter Try.func64, Try.ntmps64
  go_wp2
  go_loop [3, 15] (fun s i => ∃ j : Nat, j ≤ k ∧ i = .int .i64 j ∧ s = .float .f32 (sumW l j)) (fun _ i => 16 - (intOf i).toNat)
  case atStart => exact ⟨0, by omega, rfl, rfl⟩
  case round =>
    obtain ⟨j, hj, rfl, rfl⟩ := hrel
    by_cases hlt : j < k
    · have cj : w.cell? ⟨b, off + 1 + j, none⟩ = some (.float .f32 (ix l (j + 1))) := by
        have := CV.out (j + 1) (by omega); rwa [show off + (j + 1) = off + 1 + j by omega] at this
      have ha := run_addW (sumW_upto (m := j) (fun i hi => HU.out i (by omega)) (by omega) j (Nat.le_refl _)) (HU.out (j + 1) (by omega)) (by omega) 22 w
      have hs : Hid (addW (sumW l j) (ix l (j + 1)) = sumW l (j + 1)) := rfl
      rw [hs.out] at ha
      go_wp2
      go_round
      case rel => exact ⟨j + 1, by omega, by go_num, rfl⟩
      case measure => simp [intOf]; omega
    · have : j = k := by omega
      subst this
      go_wp2
      go_ret
      exact ⟨by rw [← HS.out]; rfl, rfl⟩

def meanX (n : Int) (l : List Nat) (V : Bool) : Nat := if V && decide (n ≠ 0) then meanW l n.toNat else 0
theorem crate_upto {n : Int} {l : List Nat} (h : validCrate n l = true) (hl : ∀ i, ix l i < 4294967296) (j : Nat) (hj : (j : Int) < n) : FL.upto 1 (ix l j) := by
  obtain ⟨k, rfl, hk⟩ := valid_count h
  unfold validCrate at h
  rw [Bool.and_eq_true] at h
  have hs := slotsOk_iff.1 h.2 j (by omega)
  rw [slotOk_lt hj] at hs
  exact part_upto hs (fin_part hs (hl j))

set_option maxHeartbeats 1000000 in
theorem spec_MeanRipe (n : Int) (l : List Nat) (hl : l.length = 16) (hb : ∀ i, ix l i < 4294967296) (w : World) (h1 : -128 ≤ n) (h2 : n ≤ 127) : Calls Try.prog 28 #[.agg (crateCells n l)] w (Ret (.tuple #[.float .f32 (meanX n l (validCrate n l)), .int .i64 (found n (validCrate n l))]) w) := by
  have HL := Lib.hid hl; clear hl
  have HC := Lib.hid (spec_l01Crate w.heap.size n l (w.alloc (.cells (crateCells n l) 37)) h1 h2 (cell_of_row _ _ _ _ _ _ (ha1 _ _)) (fun k hk => (cell_of_row _ _ _ _ _ _ (ha1 _ _)).trans (crateCells_at (by rw [HL.out]; exact hk))))
  have HV := Lib.hid (valid_count (n := n) (l := l))
  have HU := Lib.hid (fun h => crate_upto (n := n) (l := l) h hb)
  obtain ⟨V, hV⟩ : ∃ V, validCrate n l = V := ⟨_, rfl⟩
  rw [hV] at HV HC HU ⊢
  clear hV hb
  obtain ⟨W, hW⟩ : ∃ W, W = w.alloc (.cells (crateCells n l) 37) := ⟨_, rfl⟩
  have C0 : Hid (W.cell? ⟨w.heap.size, 0, none⟩ = some (.int .i8 n)) := by rw [hW]; exact cell_of_row _ _ _ _ _ _ (ha1 _ _)
  have CV : Hid (∀ j, j < 16 → W.cell? ⟨w.heap.size, 1 + j, none⟩ = some (.float .f32 (ix l j))) := by rw [hW]; exact fun k hk => (cell_of_row _ _ _ _ _ _ (ha1 _ _)).trans (crateCells_at (by rw [HL.out]; exact hk))
  have HB : Hid (Below w.heap.size w W) := by rw [hW]; show Below _ _ _; (repeat (first | exact Below.refl _ _ | assumption | refine below_new ?_ _ | refine below_step ?_ (by assumption) | refine Below.drew ?_ | refine below_dn ?_ _ | refine Below.setCell ?_ (by simp <;> omega) _))
  have hz : w.heap.size < W.heap.size := by rw [hW, size_al]; omega
  rw [← hW] at HC
  go_enter Try.func28, Try.ntmps28
  go_wp2_with fail
  rw [← hW]
  clear hW
  ((with_reducible refine (HC.out).mono ?_); rintro e w' ⟨rfl, rfl⟩)
  have c0 := C0.out
  cases V
  case false =>
    go_wp2_with fail
    go_ret2; exact ⟨rfl, HB.out⟩
  case true =>
    obtain ⟨k, rfl, hk⟩ := HV.out rfl
    have HU2 := Lib.hid (HU.out rfl)
    clear HU HV
    by_cases h0 : (k : Int) = 0
    · have hk0 : k = 0 := by omega
      subst hk0
      go_wp2_with fail
      go_ret2; exact ⟨rfl, HB.out⟩
    · have hk1 : 1 ≤ k := by omega
      have hR : Hid (meanX k l true = meanW l k ∧ found k true = 0) := by
        have h0' : k ≠ 0 := by omega
        exact ⟨by simp [meanX, h0'], by simp [found, h0']⟩
      go_wp2_with fail
      ((with_reducible refine (l01List_any w.heap.size k hk l HL.out W hz c0 CV.out).mono ?_); rintro e w1 ⟨v, rfl, hown, hne, hb1⟩)
      obtain ⟨g, cap, rfl, _, _, _, hc⟩ := owns_cells hown hne (by rw [HL.out]; exact hk)
      have HB1 : Hid (Below w.heap.size w w1) := below_step HB.out hb1
      clear hown hne hb1
      go_wp2_with fail
      ((with_reducible refine (l01Mean_any g 0 cap k hk1 hk l (fun j hj => HU2.out j (by omega)) w1 (fun j hj => by rw [Nat.zero_add]; exact hc j hj)).mono ?_); rintro e w' ⟨rfl, rfl⟩)
      go_wp2
      go_ret2; exact ⟨by rw [hR.out.1, hR.out.2]; rfl, HB1.out⟩
set_option maxRecDepth 100000 in
set_option maxHeartbeats 1000000 in
theorem impl_MeanRipe (n : Int) (l : List Nat) (hl : l.length = 16) (hb : ∀ i, ix l i < 4294967296) (w : World) (h1 : -128 ≤ n) (h2 : n ≤ 127) : Calls Try.prog 29 #[.agg (crateCells n l)] w (Ret (.tuple #[.float .f32 (meanX n l (validCrate n l)), .int .i64 (found n (validCrate n l))]) w) := by
  have HL := Lib.hid hl; clear hl
  have HC := Lib.hid (impl_ValidCrate n l HL.out (w.alloc (.cells (crateCells n l) 37)) h1 h2)
  have HV := Lib.hid (valid_count (n := n) (l := l))
  have HU := Lib.hid (fun h => crate_upto (n := n) (l := l) h hb)
  obtain ⟨V, hV⟩ : ∃ V, validCrate n l = V := ⟨_, rfl⟩
  rw [hV] at HV HC HU ⊢
  clear hV hb
  go_enter Try.func29, Try.ntmps29
  go_wp2_with ((with_reducible show wpList _ _ _ (⟨some 5, _, _, _, _, _⟩ :: _) _ _); refine wpList_load_row rfl 37 (.tmp 1) rfl (w.heap.size) rfl 37 (crateCells n l) (0, 0) _ (ha1 _ _) Try.underlying37 rfl (by rw [crateCells_size, HL.out]; kernel_rfl) ?_)
  ((with_reducible refine (HC.out).mono ?_); rintro e W ⟨rfl, hb1⟩)
  have G0 : Hid (W.heap[w.heap.size]? = some (.cells (crateCells n l) 37 (0, 0))) := below_heap hb1 (ha1 _ _)
  have HB : Hid (Below w.heap.size w W) := by show Below _ _ _; (repeat (first | exact Below.refl _ _ | assumption | refine below_new ?_ _ | refine below_step ?_ (by assumption) | refine Below.drew ?_ | refine below_dn ?_ _ | refine Below.setCell ?_ (by simp <;> omega) _))
  have hz : w.heap.size < W.heap.size := by have := hb1.size; rw [size_al] at this; omega
  clear hb1 HC
  have c0 : W.cell? ⟨w.heap.size, 0, none⟩ = some (.int .i8 n) := cell_of_row _ _ _ _ _ _ G0.out
  cases V
  case false =>
    go_wp2_with fail
    go_ret2; exact ⟨rfl, HB.out⟩
  case true =>
    obtain ⟨k, rfl, hk⟩ := HV.out rfl
    have HU2 := Lib.hid (HU.out rfl)
    clear HU HV
    by_cases h0 : (k : Int) = 0
    · have hk0 : k = 0 := by omega
      subst hk0
      go_wp2_with fail
      go_ret2; exact ⟨rfl, HB.out⟩
    · have hk1 : 1 ≤ k := by omega
      have hR : Hid (meanX k l true = meanW l k ∧ found k true = 0) := by
        have h0' : k ≠ 0 := by omega
        exact ⟨by simp [meanX, h0'], by simp [found, h0']⟩
      have hd : ∀ w, (binOp .quo 22 (.float .f32 (sumW l (k - 1))) (.float .f32 (floatOfInt .f32 k))).run Try.prog w = .ok (.float .f32 (meanW l k)) w := fun w => run_fdiv _ (meanW_spec (fun j hj => HU2.out j (by omega)) hk1 hk).1 w
      have CV : Hid (∀ j, j < k → W.cell? ⟨w.heap.size, 1 + j, none⟩ = some (.float .f32 (ix l j))) := fun j hj => (cell_of_row _ _ _ _ _ _ G0.out).trans (crateCells_at (by rw [HL.out]; omega))
      have HF : Hid (∀ n, Calls Try.prog 60 #[.pointer (some ⟨w.heap.size, 0, none⟩)] (W.drewN n) fun e w' => e = .returned (.slice (some ⟨w.heap.size, 1, none⟩) k 16) ∧ ∃ m, w' = (W.drewN n).drewN m) := fun n => (fruits_any w.heap.size k hk (W.drewN n) c0).mono fun _ _ ⟨a, m, b⟩ => ⟨a, m, b.symm⟩
      have HQ : Hid (∀ n, Calls Try.prog 64 #[.slice (some ⟨w.heap.size, 1, none⟩) k 16] (W.drewN n) fun e w' => e = .returned (.float .f32 (sumW l (k - 1))) ∧ w' = W.drewN n) := fun n => (sumOf_any w.heap.size 1 k hk1 hk l (fun j hj => HU2.out j (by omega)) (W.drewN n) CV.out).mono fun _ _ ⟨a, b⟩ => ⟨a, b.symm⟩
      go_wp2_with fail
      go_quiet ((first | (go_at_call 60; with_reducible exact Calls.quiet_of (HF.out _)) | (go_at_call 64; with_reducible exact Calls.quiet_of_same (HQ.out _))))
      go_wp2
      go_ret2; exact ⟨by rw [hR.out.1, hR.out.2]; rfl, below_dn HB.out _⟩

theorem run_cvn (b : Nat) (h : FL.num b) (w : World) : (convert 22 30 (.float .f32 b)).run Try.prog w = .ok (.float .f64 (cv b)) w := by
  obtain ⟨r, hr, _⟩ := FL.conv_num h
  unfold cv
  rw [hr]
  exact run_convert_float_float w _ _ .f32 .f64 b r (by rw [Try.underlying22]; rfl) Try.underlying30 hr
theorem cvn_self (b : Nat) (h : FL.num b) : FloatKind.f64.format.order (cv b) (cv b) = some .eq := by
  obtain ⟨r, hr, h2⟩ := FL.conv_num h
  unfold cv; rw [hr]; exact h2
theorem meanX_num {n : Int} {l : List Nat} (hb : ∀ i, ix l i < 4294967296) : FL.num (meanX n l (validCrate n l)) := by
  unfold meanX
  split
  case isTrue hc =>
    rw [Bool.and_eq_true, decide_eq_true_eq] at hc
    obtain ⟨k, rfl, hk⟩ := valid_count hc.1
    rw [Int.toNat_natCast]
    exact (meanW_spec (fun j hj => crate_upto hc.1 hb j (by omega)) (by have := hc.2; omega) hk).2
  case isFalse => exact ⟨by decide, by decide⟩
end Go.Proofs.Ytckapidlhhjipaa
