/-
  CONTRACTS: valid gas.
-/
import Derived.Test.YtejipgofbefbjaaGas
set_option linter.unusedVariables false
set_option linter.unusedSimpArgs false
namespace Go.Proofs.Ytejipgofbefbjaa
open Go.RowKit Go.FV

theorem flCells_row {l : List Nat} (hl : l.length = 36) {y : Nat} (hy : y < 6) : (flCells l).extract (y * 6) (y * 6 + 6) = flCells (rowG l y) := by
  apply Array.ext_getElem?; intro i
  rw [Array.getElem?_extract]
  by_cases h : i < 6
  · rw [if_pos (by simp [hl]; omega), flCells_at (by rw [hl]; omega), flCells_at (by rw [rowG_len]; exact h), rowG_ix h]
  · rw [if_neg (by simp [hl]; omega), Array.getElem?_eq_none (by simp [rowG_len]; omega)]
theorem index_G {l : List Nat} (hl : l.length = 36) {y : Nat} (hy : y < 6) (w : World) : (Instr.index 26 (.agg (flCells l)) (.int .i64 y)).run Try.prog w = .ok (.agg (flCells (rowG l y))) w := by
  have hn : (0 : Int) ≤ y ∧ (y : Int) < (6 : Nat) := by omega
  have a := Try.isAgg23
  have z := Try.sizeOf23
  have e := flCells_row hl hy
  simp [Instr.index, run_underlying Try.underlying26, asIntOf, hn, go_sem, a, z, e]
  intro h; omega
theorem index_R {m : List Nat} (hm : m.length = 6) {x : Nat} (hx : x < 6) (w : World) : (Instr.index 23 (.agg (flCells m)) (.int .i64 x)).run Try.prog w = .ok (.float .f32 (ix m x)) w := by
  have hn : (0 : Int) ≤ x ∧ (x : Int) < (6 : Nat) := by omega
  have a := Try.isAgg22
  have z := Try.sizeOf22
  have e : (flCells m)[x]? = some (.float .f32 (ix m x)) := flCells_at (by omega)
  simp [Instr.index, run_underlying Try.underlying23, asIntOf, hn, go_sem, a, z, e]
  intro h; omega
/-- A place lies in a room. -/
def inG (a b x y : Int) : Bool := (decide (0 ≤ x) && decide (x ≤ a - 1)) && (decide (0 ≤ y) && decide (y ≤ b - 1))
def spot (a b : Int) (x y v : Nat) : Bool := if inG a b x y then isPart v else sameN v 0
def rowOkG (a b : Int) (y : Nat) (m : List Nat) : Bool := (List.range 6).all fun x => spot a b x y (ix m x)
def gasOk (a b : Int) (l : List Nat) : Bool := (List.range 6).all fun y => rowOkG a b y (rowG l y)
def validGas (a b : Int) (f : Nat) (vs : List Int) (l : List Nat) : Bool := validRoom a b f vs && gasOk a b l
theorem all6_no {p : Nat → Bool} {k : Nat} (hk : k < 6) (h : p k = false) : (List.range 6).all p = false := by
  rw [List.all_eq_false]
  exact ⟨k, by simpa using hk, by simpa using h⟩
theorem all6_yes {p : Nat → Bool} (h : ∀ k, k < 6 → p k = true) : (List.range 6).all p = true := by
  rw [List.all_eq_true]
  exact fun k hk => h k (by simpa using hk)
theorem spec_l02Is (B : Nat) (a b x y : Int) (h1 : -128 ≤ a) (h2 : a ≤ 127) (h3 : -128 ≤ b) (h4 : b ≤ 127) (w : World) (c0 : w.cell? ⟨B, 0, none⟩ = some (.int .i8 a)) (c1 : w.cell? ⟨B, 1, none⟩ = some (.int .i8 b)) :
    Calls Try.prog 71 #[.pointer (some ⟨B, 0, none⟩), .int .i64 x, .int .i64 y] w fun e w' => e = .returned (.bool (inG a b x y)) ∧ w = w' := by
  cases hd : (decide (0 ≤ x) && decide (x ≤ a - 1))
  · have hR : inG a b x y = false := by unfold inG; rw [hd]; rfl
    rw [hR]
    go_enter Try.func71, Try.ntmps71
    go_wp2_with (go_at_call 82; ((with_reducible refine (spec_l00In _ _ _ _).mono ?_); rintro e w' ⟨rfl, rfl⟩; (try rw [hd])))
    go_ret; exact ⟨rfl, rfl⟩
  · have hR : inG a b x y = (decide (0 ≤ y) && decide (y ≤ b - 1)) := by unfold inG; rw [hd, Bool.true_and]
    rw [hR]
    go_enter Try.func71, Try.ntmps71
    go_wp2_with (go_at_call 82; ((with_reducible refine (spec_l00In _ _ _ _).mono ?_); rintro e w' ⟨rfl, rfl⟩; (try rw [hd])))
    go_ret; exact ⟨rfl, rfl⟩
theorem has_any (a b : Int) (f : Nat) (v0 v1 v2 v3 v4 v5 : Int) (x y : Int) (h1 : -128 ≤ a) (h2 : a ≤ 127) (h3 : -128 ≤ b) (h4 : b ≤ 127) (w : World) :
    Calls Try.prog 46 #[.agg #[.int .i8 a, .int .i8 b, .float .f32 f, .int .u8 v0, .int .u8 v1, .int .u8 v2, .int .u8 v3, .int .u8 v4, .int .u8 v5], .int .i64 x, .int .i64 y] w (Ret (.bool (inG a b x y)) w) := by
  cases hd : (decide (0 ≤ x) && decide (x ≤ a - 1))
  · have hR : inG a b x y = false := by unfold inG; rw [hd]; rfl
    rw [hR]
    go_enter Try.func46, Try.ntmps46
    go_wp2_with (go_at_call 73; ((with_reducible refine (impl_within _ _ _ _).mono ?_); rintro e w' ⟨rfl, rfl⟩; (try rw [hd])))
    go_ret; refine ⟨rfl, ?_⟩; (repeat (first | exact Below.refl _ _ | assumption | refine below_new ?_ _ | refine below_step ?_ (by assumption) | refine Below.drew ?_ | refine below_dn ?_ _ | refine Below.setCell ?_ (by simp <;> omega) _))
  · have hR : inG a b x y = (decide (0 ≤ y) && decide (y ≤ b - 1)) := by unfold inG; rw [hd, Bool.true_and]
    rw [hR]
    go_enter Try.func46, Try.ntmps46
    go_wp2_with (go_at_call 73; ((with_reducible refine (impl_within _ _ _ _).mono ?_); rintro e w' ⟨rfl, rfl⟩; (try rw [hd])))
    go_ret; refine ⟨rfl, ?_⟩; (repeat (first | exact Below.refl _ _ | assumption | refine below_new ?_ _ | refine below_step ?_ (by assumption) | refine Below.drew ?_ | refine below_dn ?_ _ | refine Below.setCell ?_ (by simp <;> omega) _))
set_option maxRecDepth 100000 in
set_option maxHeartbeats 2000000 in
theorem spec_l02Gas (B G : Nat) (a b : Int) (f : Nat) (vs : List Int) (l : List Nat) (hl : l.length = 36) (w : World) (hB : B < w.heap.size) (hG : G < w.heap.size) (h1 : -128 ≤ a) (h2 : a ≤ 127) (h3 : -128 ≤ b) (h4 : b ≤ 127)
    (c0 : w.cell? ⟨B, 0, none⟩ = some (.int .i8 a)) (c1 : w.cell? ⟨B, 1, none⟩ = some (.int .i8 b)) (c2 : w.cell? ⟨B, 2, none⟩ = some (.float .f32 f)) (cv : ∀ k : Nat, k < 6 → w.cell? ⟨B, 3 + k, none⟩ = some (.int .u8 (ixI vs k))) (hv : ∀ k : Nat, 0 ≤ ixI vs k ∧ ixI vs k ≤ 255)
    (cg : ∀ j, j < 36 → w.cell? ⟨G, j, none⟩ = some (.float .f32 (ix l j))) :
    Calls Try.prog 43 #[.pointer (some ⟨B, 0, none⟩), .pointer (some ⟨G, 0, none⟩)] w (Ret (.bool (validGas a b f vs l)) w) := by
  have HR := Lib.hid (spec_l02Room B a b f vs w h1 h2 h3 h4 c0 c1 c2 cv hv)
  have C0 := Lib.hid c0
  have C1 := Lib.hid c1
  have CG := Lib.hid cg
  clear c0 c1 c2 cv hv cg hl
  cases hV : validRoom a b f vs
  · rw [hV] at HR
    have hR : validGas a b f vs l = false := by unfold validGas; rw [hV]; rfl
    rw [hR]
    go_enter Try.func43, Try.ntmps43
    go_wp2_with (go_at_call 70; ((with_reducible refine (HR.out).mono ?_); rintro e w1 ⟨rfl, hb1⟩); obtain ⟨hc1, hf1⟩ := bcell hb1)
    go_ret; exact ⟨rfl, hb1⟩
  · rw [hV] at HR
    have hR : validGas a b f vs l = gasOk a b l := by unfold validGas; rw [hV]; rfl
    rw [hR]
    have HN := Lib.hid (fun k => @all6_no (fun y => rowOkG a b y (rowG l y)) k)
    have HY := Lib.hid (@all6_yes (fun y => rowOkG a b y (rowG l y)))
    have hO : Hid ((List.range 6).all (fun y => rowOkG a b y (rowG l y)) = gasOk a b l) := rfl
    rw [hO.out] at HN HY
    obtain ⟨R, hRR⟩ : ∃ R, gasOk a b l = R := ⟨_, rfl⟩
    rw [hRR] at HN HY
    rw [hRR]
    clear hR hRR hO hV
    go_enter Try.func43, Try.ntmps43
    go_wp2_with fail
    ((with_reducible refine (HR.out).mono ?_); rintro e w1 ⟨rfl, hb1⟩)
    have c0 : w1.cell? ⟨B, 0, none⟩ = some (.int .i8 a) := (hb1.cell (p := ⟨B, 0, none⟩) hB).trans C0.out
    have c1 : w1.cell? ⟨B, 1, none⟩ = some (.int .i8 b) := (hb1.cell (p := ⟨B, 1, none⟩) hB).trans C1.out
    have cg : Hid (∀ j, j < 36 → w1.cell? ⟨G, j, none⟩ = some (.float .f32 (ix l j))) := fun j hj => (hb1.cell (p := ⟨G, j, none⟩) hG).trans (CG.out j hj)
    have HIs := Lib.hid (fun x y => spec_l02Is B a b x y h1 h2 h3 h4 w1 c0 c1)
    have hB1 := Lib.hid hb1
    clear hb1 C0 C1 CG c0 c1
    go_wp2_with fail
    go_loop [5] (fun i => ∃ y : Nat, y ≤ 6 ∧ i = .int .i64 y ∧ ∀ k, k < y → rowOkG a b k (rowG l k) = true) (fun i => 6 - (intOf i).toNat)
    case atStart => exact ⟨0, by omega, rfl, fun k hk => absurd hk (by omega)⟩
    case round =>
      obtain ⟨y, hy, rfl, hsm⟩ := hrel
      have HSM := Lib.hid hsm; clear hsm
      by_cases hlt : y < 6
      · have HNy := Lib.hid (HN.out y hlt)
        have HrN := Lib.hid (fun k => @all6_no (fun x => spot a b x y (ix (rowG l y) x)) k)
        have HrY := Lib.hid (@all6_yes (fun x => spot a b x y (ix (rowG l y) x)))
        have hO : Hid ((List.range 6).all (fun x => spot a b x y (ix (rowG l y) x)) = rowOkG a b y (rowG l y)) := rfl
        rw [hO.out] at HrN HrY
        clear hO
        go_wp2
        go_loop [6] (fun i => ∃ x : Nat, x ≤ 6 ∧ i = .int .i64 x ∧ ∀ k, k < x → spot a b k y (ix (rowG l y) k) = true) (fun i => 6 - (intOf i).toNat)
        case atStart => exact ⟨0, by omega, rfl, fun k hk => absurd hk (by omega)⟩
        case round =>
          obtain ⟨x, hx, rfl, hsm2⟩ := hrel
          have HSM2 := Lib.hid hsm2; clear hsm2
          by_cases hlt2 : x < 6
          · have ca : w1.cell? ⟨G, y * 6 + x, none⟩ = some (.float .f32 (ix (rowG l y) x)) := by
              rw [rowG_ix hlt2]; exact cg.out _ (by omega)
            have HIx := Lib.hid (HIs.out x y)
            have hsp : ∀ v, spot a b x y v = if inG a b x y then isPart v else sameN v 0 := fun _ => rfl
            have hno := Lib.hid (fun h => HNy.out (HrN.out x hlt2 h))
            obtain ⟨v, hv⟩ : ∃ v, ix (rowG l y) x = v := ⟨_, rfl⟩
            have hyes : Hid (spot a b x y v = true → ∀ k, k < x + 1 → spot a b k y (ix (rowG l y) k) = true) := fun h k hk => by
              by_cases e : k = x
              · subst e; rw [hv]; exact h
              · exact HSM2.out k (by omega)
            simp only [hv] at hno
            rw [hv] at ca
            have HP := Lib.hid (fun w => spec_l01Part v w)
            have HS := Lib.hid (fun w => spec_l01Same v 0 w)
            rw [hsp v] at hyes hno
            clear hv hsp
            cases hi : inG a b x y
            · rw [hi] at HIx hyes hno
              cases hs : sameN v 0
              · rw [hs] at HS hno
                have e := Lib.hid (hno.out (by simp))
                clear hno hyes hi hs
                go_wp2_with (first | (go_at_call 71; ((with_reducible refine (HIx.out).mono ?_); rintro e w' ⟨rfl, rfl⟩)) | (go_at_call 40; ((with_reducible refine (HS.out _).mono ?_); rintro e w' ⟨rfl, rfl⟩)) | (go_at_call 52; ((with_reducible refine (HP.out _).mono ?_); rintro e w' ⟨rfl, rfl⟩)))
                go_ret; exact ⟨by rw [e.out]; rfl, hB1.out⟩
              · rw [hs] at HS hyes
                have e := Lib.hid (hyes.out (by simp))
                clear hno hyes hi hs
                go_wp2_with (first | (go_at_call 71; ((with_reducible refine (HIx.out).mono ?_); rintro e w' ⟨rfl, rfl⟩)) | (go_at_call 40; ((with_reducible refine (HS.out _).mono ?_); rintro e w' ⟨rfl, rfl⟩)) | (go_at_call 52; ((with_reducible refine (HP.out _).mono ?_); rintro e w' ⟨rfl, rfl⟩)))
                go_round
                case rel => exact ⟨x + 1, by omega, by go_num, e.out⟩
                case measure => simp [intOf]; omega
            · rw [hi] at HIx hyes hno
              cases hs : isPart v
              · rw [hs] at HP hno
                have e := Lib.hid (hno.out (by simp))
                clear hno hyes hi hs
                go_wp2_with (first | (go_at_call 71; ((with_reducible refine (HIx.out).mono ?_); rintro e w' ⟨rfl, rfl⟩)) | (go_at_call 40; ((with_reducible refine (HS.out _).mono ?_); rintro e w' ⟨rfl, rfl⟩)) | (go_at_call 52; ((with_reducible refine (HP.out _).mono ?_); rintro e w' ⟨rfl, rfl⟩)))
                go_ret; exact ⟨by rw [e.out]; rfl, hB1.out⟩
              · rw [hs] at HP hyes
                have e := Lib.hid (hyes.out (by simp))
                clear hno hyes hi hs
                go_wp2_with (first | (go_at_call 71; ((with_reducible refine (HIx.out).mono ?_); rintro e w' ⟨rfl, rfl⟩)) | (go_at_call 40; ((with_reducible refine (HS.out _).mono ?_); rintro e w' ⟨rfl, rfl⟩)) | (go_at_call 52; ((with_reducible refine (HP.out _).mono ?_); rintro e w' ⟨rfl, rfl⟩)))
                go_round
                case rel => exact ⟨x + 1, by omega, by go_num, e.out⟩
                case measure => simp [intOf]; omega
          · have : x = 6 := by omega
            subst this
            have e := Lib.hid (HrY.out HSM2.out)
            go_wp2
            go_round
            case rel => exact ⟨y + 1, by omega, by go_num, fun k hk => by
              by_cases e' : k = y
              · subst e'; exact e.out
              · exact HSM.out k (by omega)⟩
            case measure => simp [intOf]; omega
      · have : y = 6 := by omega
        subst this
        have e := Lib.hid (HY.out HSM.out)
        go_wp2
        go_ret
        exact ⟨by rw [e.out]; rfl, hB1.out⟩
set_option maxRecDepth 100000 in
theorem spec_ValidGas (a b : Int) (f : Nat) (v0 v1 v2 v3 v4 v5 : Int) (l : List Nat) (hl : l.length = 36) (w : World) (h1 : -128 ≤ a) (h2 : a ≤ 127) (h3 : -128 ≤ b) (h4 : b ≤ 127) (hv : ∀ k : Nat, 0 ≤ ixI [v0, v1, v2, v3, v4, v5] k ∧ ixI [v0, v1, v2, v3, v4, v5] k ≤ 255) :
    Calls Try.prog 16 #[.agg #[.int .i8 a, .int .i8 b, .float .f32 f, .int .u8 v0, .int .u8 v1, .int .u8 v2, .int .u8 v3, .int .u8 v4, .int .u8 v5], .agg (flCells l)] w (Ret (.bool (validGas a b f [v0, v1, v2, v3, v4, v5] l)) w) := by
  have HG := Lib.hid (fun w hB hG c0 c1 c2 cv cg => spec_l02Gas w.heap.size (w.heap.size + 1) a b f [v0, v1, v2, v3, v4, v5] l hl w hB hG h1 h2 h3 h4 c0 c1 c2 cv hv cg)
  obtain ⟨W, hW⟩ : ∃ W, W = (w.alloc (.cells #[.int .i8 a, .int .i8 b, .float .f32 f, .int .u8 v0, .int .u8 v1, .int .u8 v2, .int .u8 v3, .int .u8 v4, .int .u8 v5] 34)).alloc (.cells (flCells l) 26) := ⟨_, rfl⟩
  have G0 : W.heap[w.heap.size]? = some (.cells #[.int .i8 a, .int .i8 b, .float .f32 f, .int .u8 v0, .int .u8 v1, .int .u8 v2, .int .u8 v3, .int .u8 v4, .int .u8 v5] 34 (0, 0)) := by rw [hW]; exact ha2_0 _ _ _
  have G1 : W.heap[w.heap.size + 1]? = some (.cells (flCells l) 26 (0, 0)) := by rw [hW]; exact ha2_1 _ _ _
  have HB : Hid (Below w.heap.size w W) := by rw [hW]; show Below _ _ _; (repeat (first | exact Below.refl _ _ | assumption | refine below_new ?_ _ | refine below_step ?_ (by assumption) | refine Below.drew ?_ | refine below_dn ?_ _ | refine Below.setCell ?_ (by simp <;> omega) _))
  have hsz : W.heap.size = w.heap.size + 2 := by rw [hW, size_al, size_al]
  have HC := Lib.hid (spec_l02Gas w.heap.size (w.heap.size + 1) a b f [v0, v1, v2, v3, v4, v5] l hl W (by omega) (by omega) h1 h2 h3 h4 (cell_of_row _ _ _ _ _ _ G0) (cell_of_row _ _ _ _ _ _ G0) (cell_of_row _ _ _ _ _ _ G0)
    (by intro k hk; rw [cell_of_row _ _ _ _ _ _ G0]; rcases (show k = 0 ∨ k = 1 ∨ k = 2 ∨ k = 3 ∨ k = 4 ∨ k = 5 from by omega) with rfl | rfl | rfl | rfl | rfl | rfl <;> rfl) hv (fun j hj => (cell_of_row _ _ _ _ _ _ G1).trans (flCells_at (by rw [hl]; exact hj))))
  have HW := Lib.hid hW
  clear hW HG G0 G1 hv hsz
  go_enter Try.func16, Try.ntmps16
  go_wp2_with fail
  rw [← HW.out]
  clear HW
  ((with_reducible refine (HC.out).mono ?_); rintro e w1 ⟨rfl, hb1⟩)
  go_wp2
  go_ret; exact ⟨rfl, below_step HB.out hb1⟩
set_option maxRecDepth 100000 in
set_option maxHeartbeats 2000000 in
theorem impl_ValidGas (a b : Int) (f : Nat) (v0 v1 v2 v3 v4 v5 : Int) (l : List Nat) (hl : l.length = 36) (w : World) (h1 : -128 ≤ a) (h2 : a ≤ 127) (h3 : -128 ≤ b) (h4 : b ≤ 127) :
    Calls Try.prog 18 #[.agg #[.int .i8 a, .int .i8 b, .float .f32 f, .int .u8 v0, .int .u8 v1, .int .u8 v2, .int .u8 v3, .int .u8 v4, .int .u8 v5], .agg (flCells l)] w (Ret (.bool (validGas a b f [v0, v1, v2, v3, v4, v5] l)) w) := by
  have HL := Lib.hid hl
  have HV := Lib.hid (fun w => impl_ValidRoom a b f v0 v1 v2 v3 v4 v5 w h1 h2 h3 h4)
  have HH := Lib.hid (fun x y w => has_any a b f v0 v1 v2 v3 v4 v5 x y h1 h2 h3 h4 w)
  have HGi := Lib.hid (fun (y : Nat) (hy : y < 6) w => index_G hl hy w)
  have HRi := Lib.hid (fun (m : List Nat) (hm : m.length = 6) (x : Nat) (hx : x < 6) w => index_R hm hx w)
  clear hl
  cases hV : validRoom a b f [v0, v1, v2, v3, v4, v5]
  · rw [hV] at HV
    have hR : validGas a b f [v0, v1, v2, v3, v4, v5] l = false := by unfold validGas; rw [hV]; rfl
    rw [hR]
    go_enter Try.func18, Try.ntmps18
    go_wp2_with fail
    ((with_reducible refine (HV.out _).mono ?_); rintro e w1 ⟨rfl, hb1⟩)
    go_wp2
    go_ret; exact ⟨rfl, below_step (by (repeat (first | exact Below.refl _ _ | assumption | refine below_new ?_ _ | refine below_step ?_ (by assumption) | refine Below.drew ?_ | refine below_dn ?_ _ | refine Below.setCell ?_ (by simp <;> omega) _))) hb1⟩
  · rw [hV] at HV
    have hR : validGas a b f [v0, v1, v2, v3, v4, v5] l = gasOk a b l := by unfold validGas; rw [hV]; rfl
    rw [hR]
    have HN := Lib.hid (fun k => @all6_no (fun y => rowOkG a b y (rowG l y)) k)
    have HY := Lib.hid (@all6_yes (fun y => rowOkG a b y (rowG l y)))
    have hO : Hid ((List.range 6).all (fun y => rowOkG a b y (rowG l y)) = gasOk a b l) := rfl
    rw [hO.out] at HN HY
    obtain ⟨R, hRR⟩ : ∃ R, gasOk a b l = R := ⟨_, rfl⟩
    rw [hRR] at HN HY
    rw [hRR]
    clear hR hRR hO hV
    go_enter Try.func18, Try.ntmps18
    go_wp2_with fail
    ((with_reducible refine (HV.out _).mono ?_); rintro e w1 ⟨rfl, hb1⟩)
    have G0 : Hid (w1.heap[w.heap.size]? = some (.cells #[.int .i8 a, .int .i8 b, .float .f32 f, .int .u8 v0, .int .u8 v1, .int .u8 v2, .int .u8 v3, .int .u8 v4, .int .u8 v5] 34 (0, 0))) := below_heap hb1 (ha2_0 _ _ _)
    have G1 : Hid (w1.heap[w.heap.size + 1]? = some (.cells (flCells l) 26 (0, 0))) := below_heap hb1 (ha2_1 _ _ _)
    have HB : Hid (Below w.heap.size w w1) := below_step (by (repeat (first | exact Below.refl _ _ | assumption | refine below_new ?_ _ | refine below_step ?_ (by assumption) | refine Below.drew ?_ | refine below_dn ?_ _ | refine Below.setCell ?_ (by simp <;> omega) _))) hb1
    have hsz : w.heap.size < w1.heap.size := Nat.lt_of_lt_of_le (by rw [size_al, size_al]; omega) hb1.size
    clear hb1
    go_wp2_with (refine wpList_load_row rfl 26 (.tmp 3) rfl (w.heap.size + 1) rfl 26 (flCells l) (0, 0) _ G1.out Try.underlying26 rfl (by rw [flCells_size, HL.out]; kernel_rfl) ?_)
    go_loopw [14] (fun i wr => ∃ y : Nat, y ≤ 6 ∧ i = .int .i64 y ∧ (∀ k, k < y → rowOkG a b k (rowG l k) = true) ∧ Below w.heap.size w wr ∧ w.heap.size < wr.heap.size ∧ wr.heap[w.heap.size]? = some (.cells #[.int .i8 a, .int .i8 b, .float .f32 f, .int .u8 v0, .int .u8 v1, .int .u8 v2, .int .u8 v3, .int .u8 v4, .int .u8 v5] 34 (0, 0))) (fun i _ => 6 - (intOf i).toNat)
    case atStart => exact ⟨0, by omega, rfl, fun k hk => absurd hk (by omega), HB.out, hsz, G0.out⟩
    case round =>
      obtain ⟨y, hy, rfl, hsm, hB, hsz, g0⟩ := hrel
      clear G0 G1 HB
      have HSM := Lib.hid hsm; clear hsm
      have G0 := Lib.hid g0; clear g0
      by_cases hlt : y < 6
      · have HNy := Lib.hid (HN.out y hlt)
        have HrN := Lib.hid (fun k => @all6_no (fun x => spot a b x y (ix (rowG l y) x)) k)
        have HrY := Lib.hid (@all6_yes (fun x => spot a b x y (ix (rowG l y) x)))
        have hO : Hid ((List.range 6).all (fun x => spot a b x y (ix (rowG l y) x)) = rowOkG a b y (rowG l y)) := rfl
        rw [hO.out] at HrN HrY
        clear hO
        have hGy := HGi.out y hlt
        have HRx := Lib.hid (HRi.out (rowG l y) (rowG_len l y))
        have hrl := Lib.hid (rowG_len l y)
        obtain ⟨m, hm⟩ : ∃ m, rowG l y = m := ⟨_, rfl⟩
        rw [hm] at HNy HrN HrY hGy HRx hrl
        have hm := Lib.hid hm
        have N1 := new_row wr (flCells zero6) (flCells m) 23
        have n1 := Lib.hid N1.1
        have n2 := Lib.hid (N1.2.1 _ _ G0.out)
        have n3 := Lib.hid (hB.trans (N1.2.2.mono (by omega)))
        have n4 : w.heap.size < ((wr.alloc (.cells (flCells zero6) 23)).setRow wr.heap.size (flCells m)).heap.size := Nat.lt_of_lt_of_le hsz N1.2.2.size
        clear N1
        go_wp2_with (first
          | ((with_reducible show wpList _ _ _ (⟨none, .store _ (.tmp 6) _, _, _, _, _⟩ :: _) _ _); refine wpList_store_row rfl 23 (.tmp 6) _ rfl wr.heap.size (flCells m) rfl rfl 23 (flCells zero6) (ha1 _ _) (by rw [flCells_size, hrl.out]; kernel_rfl) (by rw [flCells_size, flCells_size, hrl.out]; rfl) (fl_oneCell m) ?_)
          | ((with_reducible show wpList _ _ _ (⟨some 18, _, _, _, _, _⟩ :: _) _ _); refine wpList_load_row rfl 23 (.tmp 6) rfl wr.heap.size rfl 23 (flCells m) (0, 0) _ n1.out Try.underlying23 rfl (by rw [flCells_size, hrl.out]; kernel_rfl) ?_))
        go_loopw [19] (fun i wr => ∃ x : Nat, x ≤ 6 ∧ i = .int .i64 x ∧ (∀ k, k < x → spot a b k y (ix m k) = true) ∧ Below w.heap.size w wr ∧ w.heap.size < wr.heap.size ∧ wr.heap[w.heap.size]? = some (.cells #[.int .i8 a, .int .i8 b, .float .f32 f, .int .u8 v0, .int .u8 v1, .int .u8 v2, .int .u8 v3, .int .u8 v4, .int .u8 v5] 34 (0, 0))) (fun i _ => 6 - (intOf i).toNat)
        case atStart => exact ⟨0, by omega, rfl, fun k hk => absurd hk (by omega), n3.out, n4, n2.out⟩
        case round =>
          obtain ⟨x, hx, rfl, hsm2, hB2, hsz2, g2'⟩ := hrel
          have HSM2 := Lib.hid hsm2; clear hsm2
          have g2 := Lib.hid g2'
          by_cases hlt2 : x < 6
          · have hRx := HRx.out x hlt2
            have HHx := Lib.hid (HH.out x y)
            have c0 : wr.cell? ⟨w.heap.size, 0, none⟩ = some (.int .i8 a) := cell_of_row _ _ _ _ _ _ g2'
            have c1 : wr.cell? ⟨w.heap.size, 1, none⟩ = some (.int .i8 b) := cell_of_row _ _ _ _ _ _ g2'
            have c2 : wr.cell? ⟨w.heap.size, 2, none⟩ = some (.float .f32 f) := cell_of_row _ _ _ _ _ _ g2'
            have c3 : wr.cell? ⟨w.heap.size, 3, none⟩ = some (.int .u8 v0) := cell_of_row _ _ _ _ _ _ g2'
            have c4 : wr.cell? ⟨w.heap.size, 4, none⟩ = some (.int .u8 v1) := cell_of_row _ _ _ _ _ _ g2'
            have c5 : wr.cell? ⟨w.heap.size, 5, none⟩ = some (.int .u8 v2) := cell_of_row _ _ _ _ _ _ g2'
            have c6 : wr.cell? ⟨w.heap.size, 6, none⟩ = some (.int .u8 v3) := cell_of_row _ _ _ _ _ _ g2'
            have c7 : wr.cell? ⟨w.heap.size, 7, none⟩ = some (.int .u8 v4) := cell_of_row _ _ _ _ _ _ g2'
            have c8 : wr.cell? ⟨w.heap.size, 8, none⟩ = some (.int .u8 v5) := cell_of_row _ _ _ _ _ _ g2'
            clear g2'
            have hsp : ∀ v, spot a b x y v = if inG a b x y then isPart v else sameN v 0 := fun _ => rfl
            have hno := Lib.hid (fun h => HNy.out (HrN.out x hlt2 h))
            obtain ⟨v, hv⟩ : ∃ v, ix m x = v := ⟨_, rfl⟩
            have hyes : Hid (spot a b x y v = true → ∀ k, k < x + 1 → spot a b k y (ix m k) = true) := fun h k hk => by
              by_cases e : k = x
              · subst e; rw [hv]; exact h
              · exact HSM2.out k (by omega)
            simp only [hv] at hno
            rw [hv] at hRx
            have HP := Lib.hid (fun w => impl_IsPart v w)
            have HS := Lib.hid (fun w => impl_SameNumber v 0 w)
            rw [hsp v] at hyes hno
            clear hv hsp
            cases hi : inG a b x y
            · rw [hi] at hyes hno HHx
              cases hs : sameN v 0
              · rw [hs] at HS hno
                have e := Lib.hid (hno.out (by simp))
                clear hno hyes hi hs
                go_wp2_with fail
                ((with_reducible refine (HHx.out _).mono ?_); rintro e' w3 ⟨rfl, hb3⟩)
                have hB3 := Lib.hid (below_step hB2 hb3)
                have hsz3 : w.heap.size < w3.heap.size := Nat.lt_of_lt_of_le hsz2 hb3.size
                have g3 := Lib.hid (below_heap hb3 g2.out)
                clear hb3 c0 c1 c2 c3 c4 c5 c6 c7 c8
                go_wp2_with (first | (go_at_call 47; ((with_reducible refine (HP.out _).mono ?_); rintro e w' ⟨rfl, rfl⟩)) | (go_at_call 48; ((with_reducible refine (HS.out _).mono ?_); rintro e w' ⟨rfl, rfl⟩)))
                go_ret; exact ⟨by rw [e.out]; rfl, hB3.out⟩
              · rw [hs] at HS hyes
                have e := Lib.hid (hyes.out (by simp))
                clear hno hyes hi hs
                go_wp2_with fail
                ((with_reducible refine (HHx.out _).mono ?_); rintro e' w3 ⟨rfl, hb3⟩)
                have hB3 := Lib.hid (below_step hB2 hb3)
                have hsz3 : w.heap.size < w3.heap.size := Nat.lt_of_lt_of_le hsz2 hb3.size
                have g3 := Lib.hid (below_heap hb3 g2.out)
                clear hb3 c0 c1 c2 c3 c4 c5 c6 c7 c8
                go_wp2_with (first | (go_at_call 47; ((with_reducible refine (HP.out _).mono ?_); rintro e w' ⟨rfl, rfl⟩)) | (go_at_call 48; ((with_reducible refine (HS.out _).mono ?_); rintro e w' ⟨rfl, rfl⟩)))
                refine ⟨?_, ?_⟩
                · first | exact ⟨x + 1, by omega, by go_num, e.out, hB3.out, hsz3, g3.out⟩ | ((repeat apply Exists.intro); refine ⟨?_, rfl⟩; exact ⟨x + 1, by omega, by go_num, e.out, hB3.out, hsz3, g3.out⟩)
                · simp [intOf]; omega
            · rw [hi] at hyes hno HHx
              cases hs : isPart v
              · rw [hs] at HP hno
                have e := Lib.hid (hno.out (by simp))
                clear hno hyes hi hs
                go_wp2_with fail
                ((with_reducible refine (HHx.out _).mono ?_); rintro e' w3 ⟨rfl, hb3⟩)
                have hB3 := Lib.hid (below_step hB2 hb3)
                have hsz3 : w.heap.size < w3.heap.size := Nat.lt_of_lt_of_le hsz2 hb3.size
                have g3 := Lib.hid (below_heap hb3 g2.out)
                clear hb3 c0 c1 c2 c3 c4 c5 c6 c7 c8
                go_wp2_with (first | (go_at_call 47; ((with_reducible refine (HP.out _).mono ?_); rintro e w' ⟨rfl, rfl⟩)) | (go_at_call 48; ((with_reducible refine (HS.out _).mono ?_); rintro e w' ⟨rfl, rfl⟩)))
                go_ret; exact ⟨by rw [e.out]; rfl, hB3.out⟩
              · rw [hs] at HP hyes
                have e := Lib.hid (hyes.out (by simp))
                clear hno hyes hi hs
                go_wp2_with fail
                ((with_reducible refine (HHx.out _).mono ?_); rintro e' w3 ⟨rfl, hb3⟩)
                have hB3 := Lib.hid (below_step hB2 hb3)
                have hsz3 : w.heap.size < w3.heap.size := Nat.lt_of_lt_of_le hsz2 hb3.size
                have g3 := Lib.hid (below_heap hb3 g2.out)
                clear hb3 c0 c1 c2 c3 c4 c5 c6 c7 c8
                go_wp2_with (first | (go_at_call 47; ((with_reducible refine (HP.out _).mono ?_); rintro e w' ⟨rfl, rfl⟩)) | (go_at_call 48; ((with_reducible refine (HS.out _).mono ?_); rintro e w' ⟨rfl, rfl⟩)))
                refine ⟨?_, ?_⟩
                · first | exact ⟨x + 1, by omega, by go_num, e.out, hB3.out, hsz3, g3.out⟩ | ((repeat apply Exists.intro); refine ⟨?_, rfl⟩; exact ⟨x + 1, by omega, by go_num, e.out, hB3.out, hsz3, g3.out⟩)
                · simp [intOf]; omega
          · have : x = 6 := by omega
            subst this
            have e := Lib.hid (HrY.out HSM2.out)
            go_wp2
            refine ⟨?_, ?_⟩
            · first | exact ⟨y + 1, by omega, by go_num, fun k hk => by
                by_cases e' : k = y
                · subst e'; rw [hm.out]; exact e.out
                · exact HSM.out k (by omega), hB2, hsz2, g2.out⟩ | ((repeat apply Exists.intro); refine ⟨?_, rfl⟩; exact ⟨y + 1, by omega, by go_num, fun k hk => by
                by_cases e' : k = y
                · subst e'; rw [hm.out]; exact e.out
                · exact HSM.out k (by omega), hB2, hsz2, g2.out⟩)
            · simp [intOf]; omega
      · have : y = 6 := by omega
        subst this
        have e := Lib.hid (HY.out HSM.out)
        go_wp2
        go_ret
        exact ⟨by rw [e.out]; rfl, hB⟩
end Go.Proofs.Ytejipgofbefbjaa
