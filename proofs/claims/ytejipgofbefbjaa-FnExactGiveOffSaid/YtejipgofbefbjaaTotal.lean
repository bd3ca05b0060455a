/-
  CONTRACTS: the sum of gas.
-/
import Derived.Test.YtejipgofbefbjaaValidGas
import Derived.Test.YtejipgofbefbjaaFruits
set_option linter.unusedVariables false
set_option linter.unusedSimpArgs false
namespace Go.FL
open Ieee
/-- A sum of such numbers, and its sign. -/
theorem upto_add_pos {i j x y : Nat} (hx : upto i x) (hy : upto j y) (h : i + j ≤ 16777216) (hs : sg x = false) : ∃ z, single.add x y = some z ∧ upto (i + j) z ∧ sg z = false ∧ (y = 0 → z = x) := by
  obtain ⟨s, h1, h2⟩ := two149_rep (i + j) h
  have hb : sv x + sv y ≤ rv s := by
    have := hx.2.2; have := hy.2.2
    rw [h1, Nat.add_mul]; omega
  have h0 : 0 ≤ sv x + sv y := by have := hx.2.1; have := hy.2.1; omega
  obtain ⟨z, hz, hn, hsg⟩ := add_spec hx.1 hy.1 h2 hb (by omega)
  obtain ⟨z', hz', hu⟩ := upto_add hx hy h
  rw [hz] at hz'; cases hz'
  have hz0 : sg z = false := by
    cases hq : sg z
    · rfl
    · rcases hsg hq with h3 | h3
      · omega
      · rw [hs] at h3; exact absurd h3.1 (by decide)
  refine ⟨z, hz, hu, hz0, fun e => ?_⟩
  subst e
  have e0 : sv 0 = 0 := by decide
  rw [e0, Int.add_zero] at hn
  exact eq_of_sv hn.fin hx.1 hn.self (by rw [hz0, hs])
end Go.FL
namespace Go.Proofs.Ytejipgofbefbjaa
open Go.RowKit Go.FV

/-- The sum of the first cells. -/
def totW (l : List Nat) : Nat → Nat
  | 0 => 0
  | k + 1 => addW (totW l k) (ix l k)
theorem totW_ok {l : List Nat} (h : ∀ j, j < 36 → FL.upto 1 (ix l j)) : ∀ k, k ≤ 36 → FL.upto k (totW l k) ∧ FL.sg (totW l k) = false
  | 0, _ => (⟨⟨⟨by decide, by decide⟩, by decide, by rw [show FL.sv 0 = 0 by decide]; omega⟩, by decide⟩ : FL.upto 0 0 ∧ FL.sg 0 = false)
  | k + 1, hk => by
    obtain ⟨z, h1, h2, h3, _⟩ := FL.upto_add_pos (totW_ok h k (by omega)).1 (h k (by omega)) (by omega) (totW_ok h k (by omega)).2
    have e : totW l (k + 1) = z := by rw [totW]; unfold addW; rw [h1]; rfl
    rw [e]; exact ⟨h2, h3⟩
theorem totW_run {l : List Nat} (h : ∀ j, j < 36 → FL.upto 1 (ix l j)) {k : Nat} (hk : k < 36) (t : TypeId) (w : World) : (binOp .add t (.float .f32 (totW l k)) (.float .f32 (ix l k))).run Try.prog w = .ok (.float .f32 (totW l (k + 1))) w :=
  run_addW (totW_ok h k (by omega)).1 (h k hk) (by omega) t w
theorem totW_zero {l : List Nat} (h : ∀ j, j < 36 → FL.upto 1 (ix l j)) {k : Nat} (hk : k < 36) (h0 : ix l k = 0) : totW l (k + 1) = totW l k := by
  obtain ⟨z, h1, h2, h3, h4⟩ := FL.upto_add_pos (totW_ok h k (by omega)).1 (h k hk) (by omega) (totW_ok h k (by omega)).2
  have e : totW l (k + 1) = z := by rw [totW]; unfold addW; rw [h1]; rfl
  rw [e, h4 h0]
theorem totW_zeros {l : List Nat} (h : ∀ j, j < 36 → FL.upto 1 (ix l j)) {k : Nat} : ∀ m, k + m ≤ 36 → (∀ j, k ≤ j → j < k + m → ix l j = 0) → totW l (k + m) = totW l k
  | 0, _, _ => rfl
  | m + 1, hm, h0 => by
    rw [show k + (m + 1) = k + m + 1 by omega, totW_zero h (by omega) (h0 (k + m) (by omega) (by omega)), totW_zeros h m (by omega) (fun j h1 h2 => h0 j h1 (by omega))]
/-- What valid gas is. -/
theorem gas_facts {a b : Int} {f : Nat} {vs : List Int} {l : List Nat} (h : validGas a b f vs l = true) (hb : ∀ i, ix l i < 4294967296) :
    ∃ A H : Nat, a = A ∧ b = H ∧ (1 ≤ A ∧ A ≤ 6) ∧ (1 ≤ H ∧ H ≤ 6) ∧ (∀ j, j < 36 → FL.upto 1 (ix l j)) ∧ (∀ x y, x < 6 → y < 6 → ¬ (x < A ∧ y < H) → ix l (y * 6 + x) = 0) ∧ (∀ x y, x < A → y < H → isPart (ix l (y * 6 + x)) = true) := by
  unfold validGas at h
  rw [Bool.and_eq_true] at h
  obtain ⟨hr, hg⟩ := h
  unfold validRoom at hr
  rw [Bool.and_eq_true] at hr
  have hh := hr.1
  unfold hdrOk at hh
  simp only [Bool.and_eq_true, decide_eq_true_eq] at hh
  obtain ⟨⟨⟨a1, a2⟩, b1, b2⟩, _⟩ := hh
  have hs : ∀ x y, x < 6 → y < 6 → spot a b x y (ix l (y * 6 + x)) = true := by
    intro x y hx hy
    unfold gasOk at hg
    rw [List.all_eq_true] at hg
    have h1 := hg y (by simpa using hy)
    unfold rowOkG at h1
    rw [List.all_eq_true] at h1
    have h2 := h1 x (by simpa using hx)
    rwa [rowG_ix hx] at h2
  have hin : ∀ x y : Nat, inG a b x y = true ↔ ((x : Int) < a ∧ (y : Int) < b) := by
    intro x y
    unfold inG
    simp only [Bool.and_eq_true, decide_eq_true_eq]
    omega
  refine ⟨a.toNat, b.toNat, by omega, by omega, by omega, by omega, fun j hj => ?_, fun x y hx hy hn => ?_, fun x y hx hy => ?_⟩
  · have h1 := hs (j % 6) (j / 6) (by omega) (by omega)
    rw [show j / 6 * 6 + j % 6 = j by omega] at h1
    unfold spot at h1
    split at h1
    · exact part_upto h1 (fin_part h1 (hb j))
    · rw [same0 h1]; exact ⟨⟨by decide, by decide⟩, by decide, by rw [show FL.sv 0 = 0 by decide]; omega⟩
  · have h1 := hs x y hx hy
    unfold spot at h1
    rw [if_neg (by rw [hin]; omega)] at h1
    exact same0 h1
  · have h1 := hs x y (by omega) (by omega)
    unfold spot at h1
    rw [if_pos (by rw [hin]; omega)] at h1
    exact h1
set_option maxRecDepth 100000 in
theorem l02Asked_any (B G : Nat) (a b : Int) (f : Nat) (vs : List Int) (l : List Nat) (hl : l.length = 36) (fine : Bool) (w : World) (hB : B < w.heap.size) (hG : G < w.heap.size) (h1 : -128 ≤ a) (h2 : a ≤ 127) (h3 : -128 ≤ b) (h4 : b ≤ 127)
    (c0 : w.cell? ⟨B, 0, none⟩ = some (.int .i8 a)) (c1 : w.cell? ⟨B, 1, none⟩ = some (.int .i8 b)) (c2 : w.cell? ⟨B, 2, none⟩ = some (.float .f32 f)) (cv : ∀ k : Nat, k < 6 → w.cell? ⟨B, 3 + k, none⟩ = some (.int .u8 (ixI vs k))) (hv : ∀ k : Nat, 0 ≤ ixI vs k ∧ ixI vs k ≤ 255)
    (cg : ∀ j, j < 36 → w.cell? ⟨G, j, none⟩ = some (.float .f32 (ix l j))) :
    Calls Try.prog 49 #[.pointer (some ⟨B, 0, none⟩), .pointer (some ⟨G, 0, none⟩), .bool fine] w (Ret (.int .i64 (told (validGas a b f vs l) fine)) w) := by
  have HC := Lib.hid (spec_l02Gas B G a b f vs l hl w hB hG h1 h2 h3 h4 c0 c1 c2 cv hv cg)
  clear c0 c1 c2 cv hv cg
  cases hV : validGas a b f vs l <;> cases fine
  all_goals
    rw [hV] at HC
    go_enter Try.func49, Try.ntmps49
    go_wp2_with (go_at_call 43; ((with_reducible refine (HC.out).mono ?_); rintro e w1 ⟨rfl, hb1⟩); obtain ⟨hc1, hf1⟩ := bcell hb1)
    go_ret; exact ⟨rfl, hb1⟩
theorem room_cv {w W : World} {b0 : Nat} {a b : Int} {f : Nat} {v0 v1 v2 v3 v4 v5 : Int} {t : TypeId} (G0 : W.heap[b0]? = some (.cells #[.int .i8 a, .int .i8 b, .float .f32 f, .int .u8 v0, .int .u8 v1, .int .u8 v2, .int .u8 v3, .int .u8 v4, .int .u8 v5] t (0, 0))) (k : Nat) (hk : k < 6) : W.cell? ⟨b0, 3 + k, none⟩ = some (.int .u8 (ixI [v0, v1, v2, v3, v4, v5] k)) := by
  rw [cell_of_row _ _ _ _ _ _ G0]
  rcases (show k = 0 ∨ k = 1 ∨ k = 2 ∨ k = 3 ∨ k = 4 ∨ k = 5 from by omega) with rfl | rfl | rfl | rfl | rfl | rfl <;> rfl
def totX (l : List Nat) (V : Bool) : Nat := if V then totW l 36 else 0
set_option maxRecDepth 100000 in
set_option maxHeartbeats 2000000 in
theorem spec_TotalGas (a b : Int) (f : Nat) (v0 v1 v2 v3 v4 v5 : Int) (l : List Nat) (hl : l.length = 36) (hb : ∀ i, ix l i < 4294967296) (w : World) (h1 : -128 ≤ a) (h2 : a ≤ 127) (h3 : -128 ≤ b) (h4 : b ≤ 127) (hv : ∀ k : Nat, 0 ≤ ixI [v0, v1, v2, v3, v4, v5] k ∧ ixI [v0, v1, v2, v3, v4, v5] k ≤ 255) :
    Calls Try.prog 19 #[.agg #[.int .i8 a, .int .i8 b, .float .f32 f, .int .u8 v0, .int .u8 v1, .int .u8 v2, .int .u8 v3, .int .u8 v4, .int .u8 v5], .agg (flCells l)] w (Ret (.tuple #[.float .f32 (totX l (validGas a b f [v0, v1, v2, v3, v4, v5] l)), .int .i64 (told (validGas a b f [v0, v1, v2, v3, v4, v5] l) true)]) w) := by
  obtain ⟨W, hW⟩ : ∃ W, W = (w.alloc (.cells #[.int .i8 a, .int .i8 b, .float .f32 f, .int .u8 v0, .int .u8 v1, .int .u8 v2, .int .u8 v3, .int .u8 v4, .int .u8 v5] 34)).alloc (.cells (flCells l) 26) := ⟨_, rfl⟩
  have G0 : W.heap[w.heap.size]? = some (.cells #[.int .i8 a, .int .i8 b, .float .f32 f, .int .u8 v0, .int .u8 v1, .int .u8 v2, .int .u8 v3, .int .u8 v4, .int .u8 v5] 34 (0, 0)) := by rw [hW]; exact ha2_0 _ _ _
  have G1 : W.heap[w.heap.size + 1]? = some (.cells (flCells l) 26 (0, 0)) := by rw [hW]; exact ha2_1 _ _ _
  have HB : Hid (Below w.heap.size w W) := by rw [hW]; show Below _ _ _; (repeat (first | exact Below.refl _ _ | assumption | refine below_new ?_ _ | refine below_step ?_ (by assumption) | refine Below.drew ?_ | refine below_dn ?_ _ | refine Below.setCell ?_ (by simp <;> omega) _))
  have hsz : W.heap.size = w.heap.size + 2 := by rw [hW, size_al, size_al]
  have HC := Lib.hid (l02Asked_any w.heap.size (w.heap.size + 1) a b f [v0, v1, v2, v3, v4, v5] l hl true W (by omega) (by omega) h1 h2 h3 h4 (cell_of_row _ _ _ _ _ _ G0) (cell_of_row _ _ _ _ _ _ G0) (cell_of_row _ _ _ _ _ _ G0) (room_cv (w := w) G0) hv (fun j hj => (cell_of_row _ _ _ _ _ _ G1).trans (flCells_at (by rw [hl]; exact hj))))
  have HF := Lib.hid (fun h => gas_facts (a := a) (b := b) (f := f) (vs := [v0, v1, v2, v3, v4, v5]) (l := l) h hb)
  have HL := Lib.hid hl
  have HW := Lib.hid hW
  have G0 := Lib.hid G0
  have G1 := Lib.hid G1
  clear hW hv hb hl
  cases hV : validGas a b f [v0, v1, v2, v3, v4, v5] l
  · rw [hV] at HC
    clear HF
    go_enter Try.func19, Try.ntmps19
    go_wp2_with fail
    rw [← HW.out]
    clear HW
    ((with_reducible refine (HC.out).mono ?_); rintro e w1 ⟨rfl, hb1⟩)
    go_wp2
    go_ret2; exact ⟨rfl, below_step HB.out hb1⟩
  · rw [hV] at HC
    obtain ⟨A, H, rfl, rfl, ⟨hA1, hA2⟩, ⟨hH1, hH2⟩, hu, hz, _⟩ := HF.out hV
    have HU := Lib.hid (fun k (hk : k < 36) => totW_run hu hk 22)
    have HZ := Lib.hid (fun k m => @totW_zeros l hu k m)
    have hz := Lib.hid hz
    have hT : Hid (totX l true = totW l 36) := rfl
    rw [hT.out]
    obtain ⟨T, hTT⟩ : ∃ T : Nat → Nat, ∀ k, totW l k = T k := ⟨_, fun _ => rfl⟩
    have hT0 : Hid (T 0 = 0) := (hTT 0).symm
    simp only [hTT] at HU HZ
    rw [hTT]
    clear HF hV hu hT hTT
    go_enter Try.func19, Try.ntmps19
    go_wp2_with fail
    rw [← HW.out]
    clear HW
    ((with_reducible refine (HC.out).mono ?_); rintro e w1 ⟨rfl, hb1⟩)
    have c0 : w1.cell? ⟨w.heap.size, 0, none⟩ = some (.int .i8 A) := cell_of_row _ _ _ _ _ _ (below_heap hb1 G0.out)
    have c1 : w1.cell? ⟨w.heap.size, 1, none⟩ = some (.int .i8 H) := cell_of_row _ _ _ _ _ _ (below_heap hb1 G0.out)
    have cg : Hid (∀ j, j < 36 → w1.cell? ⟨w.heap.size + 1, j, none⟩ = some (.float .f32 (ix l j))) := fun j hj => (cell_of_row _ _ _ _ _ _ (below_heap hb1 G1.out)).trans (flCells_at (by rw [HL.out]; exact hj))
    have hB1 := Lib.hid (below_step HB.out hb1)
    clear hb1 G0 G1 HB HC
    go_wp2_with fail
    go_loop [7, 8] (fun s i => ∃ y : Nat, y ≤ H ∧ i = .int .i8 y ∧ s = .float .f32 (T (y * 6))) (fun _ i => 6 - (intOf i).toNat)
    case atStart => exact ⟨0, by omega, rfl, by rw [Nat.zero_mul, hT0.out]⟩
    case round =>
      obtain ⟨y, hy, rfl, rfl⟩ := hrel
      by_cases hlt : y < H
      · go_wp2
        go_loop [7, 9] (fun s i => ∃ x : Nat, x ≤ A ∧ i = .int .i8 x ∧ s = .float .f32 (T (y * 6 + x))) (fun _ i => 6 - (intOf i).toNat)
        case atStart => exact ⟨0, by omega, rfl, rfl⟩
        case round =>
          obtain ⟨x, hx, rfl, rfl⟩ := hrel
          by_cases hlt2 : x < A
          · have ca := cg.out (y * 6 + x) (by omega)
            have ha := HU.out (y * 6 + x) (by omega)
            go_wp2
            go_round
            case rel => exact ⟨x + 1, by omega, by go_num, rfl⟩
            case measure => simp [intOf]; omega
          · have : x = A := by omega
            subst this
            have e := Lib.hid (HZ.out (y * 6 + x) (6 - x) (by omega) (fun j h1 h2 => by
              have := hz.out (j - y * 6) y (by omega) (by omega) (by omega)
              rwa [show y * 6 + (j - y * 6) = j by omega] at this))
            go_wp2
            go_round
            case rel => exact ⟨y + 1, by omega, by go_num, by rw [← e.out, show y * 6 + x + (6 - x) = (y + 1) * 6 by omega]⟩
            case measure => simp [intOf]; omega
      · have : y = H := by omega
        subst this
        have e := Lib.hid (HZ.out (y * 6) (36 - y * 6) (by omega) (fun j h1 h2 => by
          have := hz.out (j % 6) (j / 6) (by omega) (by omega) (by omega)
          rwa [show j / 6 * 6 + j % 6 = j by omega] at this))
        have e2 : Hid (T (y * 6) = T 36) := Lib.hid (by rw [← e.out, show y * 6 + (36 - y * 6) = 36 by omega])
        go_wp2
        go_ret2; exact ⟨by rw [← e2.out]; rfl, hB1.out⟩
set_option maxRecDepth 100000 in
set_option maxHeartbeats 2000000 in
theorem total_any (l : List Nat) (hl : l.length = 36) (hu : ∀ j, j < 36 → FL.upto 1 (ix l j)) (w : World) : Calls Try.prog 50 #[.agg (flCells l)] w (Ret (.float .f32 (totW l 36)) w) := by
  have HL := Lib.hid hl
  have HGi := Lib.hid (fun (y : Nat) (hy : y < 6) w => index_G hl hy w)
  have HRi := Lib.hid (fun (m : List Nat) (hm : m.length = 6) (x : Nat) (hx : x < 6) w => index_R hm hx w)
  have HU := Lib.hid (fun k (hk : k < 36) => totW_run hu hk 22)
  obtain ⟨T, hTT⟩ : ∃ T : Nat → Nat, ∀ k, totW l k = T k := ⟨_, fun _ => rfl⟩
  have hT0 : Hid (T 0 = 0) := (hTT 0).symm
  simp only [hTT] at HU
  rw [hTT]
  clear hl hu hTT
  go_enter Try.func50, Try.ntmps50
  go_wp2_with ((with_reducible show wpList _ _ _ (⟨some 8, _, _, _, _, _⟩ :: _) _ _); refine wpList_load_row rfl 26 (.tmp 1) rfl w.heap.size rfl 26 (flCells l) (0, 0) _ (ha1 _ _) Try.underlying26 rfl (by rw [flCells_size, HL.out]; kernel_rfl) ?_)
  go_loopw [3, 9] (fun s i wr => ∃ y : Nat, y ≤ 6 ∧ i = .int .i64 y ∧ s = .float .f32 (T (y * 6)) ∧ Below w.heap.size w wr) (fun _ i _ => 6 - (intOf i).toNat)
  case atStart => exact ⟨0, by omega, rfl, by rw [Nat.zero_mul, hT0.out], by (repeat (first | exact Below.refl _ _ | assumption | refine below_new ?_ _ | refine below_step ?_ (by assumption) | refine Below.drew ?_ | refine below_dn ?_ _ | refine Below.setCell ?_ (by simp <;> omega) _))⟩
  case round =>
    obtain ⟨y, hy, rfl, rfl, hB⟩ := hrel
    by_cases hlt : y < 6
    · have hGy := HGi.out y hlt
      have HRx := Lib.hid (HRi.out (rowG l y) (rowG_len l y))
      have hrl := Lib.hid (rowG_len l y)
      have hri : Hid (∀ x, x < 6 → ix (rowG l y) x = ix l (y * 6 + x)) := fun x hx => rowG_ix hx
      obtain ⟨m, hm⟩ : ∃ m, rowG l y = m := ⟨_, rfl⟩
      rw [hm] at hGy HRx hrl
      simp only [hm] at hri
      clear hm
      have N1 := new_row wr (flCells zero6) (flCells m) 23
      have n1 := Lib.hid N1.1
      have n3 := Lib.hid (hB.trans (N1.2.2.mono hB.size))
      clear N1
      go_wp2_with (first
        | ((with_reducible show wpList _ _ _ (⟨none, .store _ (.tmp 5) _, _, _, _, _⟩ :: _) _ _); refine wpList_store_row rfl 23 (.tmp 5) _ rfl wr.heap.size (flCells m) rfl rfl 23 (flCells zero6) (ha1 _ _) (by rw [flCells_size, hrl.out]; kernel_rfl) (by rw [flCells_size, flCells_size, hrl.out]; rfl) (fl_oneCell m) ?_)
        | ((with_reducible show wpList _ _ _ (⟨some 12, _, _, _, _, _⟩ :: _) _ _); refine wpList_load_row rfl 23 (.tmp 5) rfl wr.heap.size rfl 23 (flCells m) (0, 0) _ n1.out Try.underlying23 rfl (by rw [flCells_size, hrl.out]; kernel_rfl) ?_))
      go_loop [3, 13] (fun s i => ∃ x : Nat, x ≤ 6 ∧ i = .int .i64 x ∧ s = .float .f32 (T (y * 6 + x))) (fun _ i => 6 - (intOf i).toNat)
      case atStart => exact ⟨0, by omega, rfl, rfl⟩
      case round =>
        obtain ⟨x, hx, rfl, rfl⟩ := hrel
        by_cases hlt2 : x < 6
        · have hRx := HRx.out x hlt2
          rw [hri.out x hlt2] at hRx
          have ha := HU.out (y * 6 + x) (by omega)
          go_wp2
          go_round
          case rel => exact ⟨x + 1, by omega, by go_num, rfl⟩
          case measure => simp [intOf]; omega
        · have : x = 6 := by omega
          subst this
          go_wp2
          refine ⟨?_, ?_⟩
          · first | exact ⟨y + 1, by omega, by go_num, by rw [show y * 6 + 6 = (y + 1) * 6 by omega], n3.out⟩ | ((repeat apply Exists.intro); refine ⟨?_, rfl⟩; exact ⟨y + 1, by omega, by go_num, by rw [show y * 6 + 6 = (y + 1) * 6 by omega], n3.out⟩)
          · simp [intOf]; omega
    · have : y = 6 := by omega
      subst this
      go_wp2
      go_ret; exact ⟨rfl, hB⟩
set_option maxRecDepth 100000 in
set_option maxHeartbeats 2000000 in
theorem impl_TotalGas (a b : Int) (f : Nat) (v0 v1 v2 v3 v4 v5 : Int) (l : List Nat) (hl : l.length = 36) (hb : ∀ i, ix l i < 4294967296) (w : World) (h1 : -128 ≤ a) (h2 : a ≤ 127) (h3 : -128 ≤ b) (h4 : b ≤ 127) :
    Calls Try.prog 20 #[.agg #[.int .i8 a, .int .i8 b, .float .f32 f, .int .u8 v0, .int .u8 v1, .int .u8 v2, .int .u8 v3, .int .u8 v4, .int .u8 v5], .agg (flCells l)] w (Ret (.tuple #[.float .f32 (totX l (validGas a b f [v0, v1, v2, v3, v4, v5] l)), .int .i64 (told (validGas a b f [v0, v1, v2, v3, v4, v5] l) true)]) w) := by
  have HL := Lib.hid hl
  have HV := Lib.hid (fun w => impl_ValidGas a b f v0 v1 v2 v3 v4 v5 l hl w h1 h2 h3 h4)
  have HF := Lib.hid (fun h => gas_facts (a := a) (b := b) (f := f) (vs := [v0, v1, v2, v3, v4, v5]) (l := l) h hb)
  have HT := Lib.hid (fun w hu => total_any l hl hu w)
  clear hl hb h1 h2 h3 h4
  cases hV : validGas a b f [v0, v1, v2, v3, v4, v5] l
  · rw [hV] at HV
    go_enter Try.func20, Try.ntmps20
    go_wp2_with ((with_reducible show wpList _ _ _ (⟨some 7, _, _, _, _, _⟩ :: _) _ _); refine wpList_load_row rfl 26 (.tmp 3) rfl (w.heap.size + 1) rfl 26 (flCells l) (0, 0) _ (ha2_1 _ _ _) Try.underlying26 rfl (by rw [flCells_size, HL.out]; kernel_rfl) ?_)
    ((with_reducible refine (HV.out _).mono ?_); rintro e w1 ⟨rfl, hb1⟩)
    go_wp2
    go_ret2; exact ⟨rfl, below_step (by (repeat (first | exact Below.refl _ _ | assumption | refine below_new ?_ _ | refine below_step ?_ (by assumption) | refine Below.drew ?_ | refine below_dn ?_ _ | refine Below.setCell ?_ (by simp <;> omega) _))) hb1⟩
  · rw [hV] at HV
    obtain ⟨A, H, rfl, rfl, _, _, hu, _, _⟩ := HF.out hV
    have HT := Lib.hid (fun w => HT.out w hu)
    clear HF hu
    go_enter Try.func20, Try.ntmps20
    go_wp2_with ((with_reducible show wpList _ _ _ (⟨some 7, _, _, _, _, _⟩ :: _) _ _); refine wpList_load_row rfl 26 (.tmp 3) rfl (w.heap.size + 1) rfl 26 (flCells l) (0, 0) _ (ha2_1 _ _ _) Try.underlying26 rfl (by rw [flCells_size, HL.out]; kernel_rfl) ?_)
    ((with_reducible refine (HV.out _).mono ?_); rintro e w1 ⟨rfl, hb1⟩)
    have G1 : Hid (w1.heap[w.heap.size + 1]? = some (.cells (flCells l) 26 (0, 0))) := below_heap hb1 (ha2_1 _ _ _)
    have HB : Hid (Below w.heap.size w w1) := below_step (by (repeat (first | exact Below.refl _ _ | assumption | refine below_new ?_ _ | refine below_step ?_ (by assumption) | refine Below.drew ?_ | refine below_dn ?_ _ | refine Below.setCell ?_ (by simp <;> omega) _))) hb1
    clear hb1
    go_wp2_with ((with_reducible show wpList _ _ _ (⟨some 10, _, _, _, _, _⟩ :: _) _ _); refine wpList_load_row rfl 26 (.tmp 3) rfl (w.heap.size + 1) rfl 26 (flCells l) (0, 0) _ G1.out Try.underlying26 rfl (by rw [flCells_size, HL.out]; kernel_rfl) ?_)
    ((with_reducible refine (HT.out _).mono ?_); rintro e w2 ⟨rfl, hb2⟩)
    go_wp2
    go_ret2; exact ⟨rfl, below_step HB.out hb2⟩
end Go.Proofs.Ytejipgofbefbjaa
