/-
  CONTRACTS: crates that ripen.
-/
import Derived.Test.YtldbpmpjfiglaaaFruits
import Derived.Test.YtldbpmpjfiglaaaWarmth
set_option linter.unusedVariables false
set_option linter.unusedSimpArgs false
namespace Go.Proofs.Ytldbpmpjfiglaaa
open Go.RowKit Go.FV

/-- The fruits of which the first ones have ripened for a day. -/
def growTo (l : List Nat) (r j : Nat) : List Nat := (List.range 16).map fun i => if i < j then grownW (ix l i) r else ix l i
theorem growTo_len (l : List Nat) (r j : Nat) : (growTo l r j).length = 16 := by simp [growTo]
theorem growTo_ix {l : List Nat} {r j i : Nat} (hi : i < 16) : ix (growTo l r j) i = if i < j then grownW (ix l i) r else ix l i := by
  unfold growTo ix
  rw [List.getD_eq_getElem?_getD, List.getElem?_map, List.getElem?_range hi]; rfl
theorem growTo_zero {l : List Nat} (h : l.length = 16) (r : Nat) : growTo l r 0 = l :=
  ix_ext (by rw [growTo_len, h]) fun k hk => by
    rw [growTo_len] at hk
    rw [growTo_ix hk, if_neg (by omega)]
theorem growTo_succ (l : List Nat) (r : Nat) {j : Nat} (hj : j < 16) : (growTo l r j).set j (grownW (ix l j) r) = growTo l r (j + 1) :=
  ix_ext (by rw [List.length_set, growTo_len, growTo_len]) fun k hk => by
    rw [List.length_set, growTo_len] at hk
    rw [ix_set (by rw [growTo_len]; exact hj), growTo_ix hk, growTo_ix hk]
    by_cases e : k = j
    · subst e; rw [if_pos rfl, if_pos (by omega)]
    · rw [if_neg e]
      by_cases h : k < j
      · rw [if_pos h, if_pos (by omega)]
      · rw [if_neg h, if_neg (by omega)]
/-- The fruits behind so many days. -/
def growDays (l : List Nat) (r k : Nat) : Nat → List Nat
  | 0 => l
  | d + 1 => growTo (growDays l r k d) r k
theorem growDays_len {l : List Nat} (h : l.length = 16) (r k : Nat) : ∀ d, (growDays l r k d).length = 16
  | 0 => h
  | d + 1 => growTo_len _ _ _
theorem growDays_upto {l : List Nat} {r k : Nat} (hr : rateOk r) (hk : k ≤ 16) (h : ∀ j, j < k → FL.upto 1 (ix l j)) : ∀ d j, j < k → FL.upto 1 (ix (growDays l r k d) j)
  | 0 => h
  | d + 1 => fun j hj => by
    rw [growDays, growTo_ix (by omega), if_pos hj]
    exact (run_grown hr (growDays_upto hr hk h d j hj) 0).2.2.2.1
theorem growDays_rest {l : List Nat} {r k : Nat} : ∀ d j, j < 16 → ¬ j < k → ix (growDays l r k d) j = ix l j
  | 0 => fun _ _ _ => rfl
  | d + 1 => fun j hj hk => by
    rw [growDays, growTo_ix hj, if_neg hk]
    exact growDays_rest d j hj hk
set_option maxRecDepth 100000 in
set_option maxHeartbeats 2000000 in
theorem l01Grow_any (k : Nat) (hk : k ≤ 16) (l : List Nat) (hl : l.length = 16) (r : Nat) (hr : rateOk r) (hu : ∀ j, j < k → FL.upto 1 (ix l j)) (d : Nat) (hd : d ≤ 200) (w : World) :
    Calls Try.prog 59 #[.agg (crateCells k l), .float .f32 r, .int .i64 d] w (Ret (.agg (crateCells k (growDays l r k d))) w) := by
  have HL := Lib.hid (growDays_len hl r k)
  have HG := Lib.hid (fun q j w (hj : j < k) => spec_l01Grown (ix (growDays l r k q) j) r hr (growDays_upto hr hk hu q j hj) w)
  have hz : Hid (growDays l r k 0 = l) := rfl
  have hs : Hid (∀ q, growTo (growDays l r k q) r k = growDays l r k (q + 1)) := fun q => rfl
  obtain ⟨D, hD⟩ : ∃ D : Nat → List Nat, ∀ q, growDays l r k q = D q := ⟨_, fun _ => rfl⟩
  simp only [hD] at HL HG hz hs
  rw [hD]
  clear hD hr hu
  go_enter Try.func59, Try.ntmps59
  go_wp2
  go_loopw [7] (fun i wr => ∃ q : Nat, q ≤ d ∧ i = .int .i64 q ∧ Below w.heap.size w wr ∧ w.heap.size + 1 < wr.heap.size ∧ wr.heap[w.heap.size]? = some (.cells (crateCells k (D q)) 29 (0, 0)) ∧ wr.heap[w.heap.size + 1]? = some (.cells (crateCells 0 zero16) 29 (0, 0))) (fun i _ => 200 - (intOf i).toNat)
  case atStart => exact ⟨0, by omega, rfl, by (repeat (first | exact Below.refl _ _ | assumption | refine below_new ?_ _ | refine below_step ?_ (by assumption) | refine Below.drew ?_ | refine below_dn ?_ _ | refine Below.setCell ?_ (by simp <;> omega) _)), by simp [size_al], by rw [hz.out]; exact ha2_0 _ _ _, ha2_1 _ _ _⟩
  case round =>
    obtain ⟨q, hq, rfl, hB, hsz, g0, g1⟩ := hrel
    have G0 := Lib.hid g0
    have G1 := Lib.hid g1
    clear g0 g1
    have HLq := HL.out q
    have HGq := Lib.hid (HG.out q)
    have hsq := Lib.hid (hs.out q)
    have HDn := Lib.hid (fun e : q = d => (by rw [e] : D q = D d))
    obtain ⟨L, hL⟩ : ∃ L, D q = L := ⟨_, rfl⟩
    rw [hL] at HLq HGq hsq G0 HDn
    have HL2 := Lib.hid HLq
    clear hL HLq
    by_cases hlt : q < d
    · go_wp2
      go_loopw [8] (fun i wr => ∃ j : Nat, j ≤ k ∧ i = .int .i64 j ∧ Below w.heap.size w wr ∧ w.heap.size + 1 < wr.heap.size ∧ wr.heap[w.heap.size]? = some (.cells (crateCells k (growTo L r j)) 29 (0, 0)) ∧ wr.heap[w.heap.size + 1]? = some (.cells (crateCells 0 zero16) 29 (0, 0))) (fun i _ => 16 - (intOf i).toNat)
      case atStart => exact ⟨0, by omega, rfl, hB, hsz, by rw [growTo_zero HL2.out]; exact G0.out, G1.out⟩
      case round =>
        obtain ⟨j, hj, rfl, hB2, hsz2, g0, g1⟩ := hrel
        have c0 : wr.cell? ⟨w.heap.size, 0, none⟩ = some (.int .i8 k) := cell_of_row _ _ _ _ _ _ g0
        have G0 := Lib.hid g0
        have G1 := Lib.hid g1
        clear g0 g1
        by_cases hjk : j < k
        · have hj16 : j < 16 := by omega
          have cj : wr.cell? ⟨w.heap.size, 1 + j, none⟩ = some (.float .f32 (ix L j)) := by
            rw [cell_of_row _ _ _ _ _ _ G0.out, crateCells_at (by rw [growTo_len]; exact hj16), growTo_ix hj16, if_neg (by omega)]
          have fj : wr.frozen? ⟨w.heap.size, 1 + j, none⟩ = false := frozen_of_row _ _ _ _ _ G0.out
          have GN : Hid ((wr.setCell ⟨w.heap.size, 1 + j, none⟩ (.float .f32 (grownW (ix L j) r))).heap[w.heap.size]? = some (.cells (crateCells k (growTo L r (j + 1))) 29 (0, 0))) := by
            show _ = _
            rw [heap_setCell_same _ _ _ _ _ _ G0.out, crateCells_set, growTo_succ _ _ hj16]
          have HGj := Lib.hid (fun w => HGq.out j w hjk)
          go_wp2_with ((go_at_call 100; ((with_reducible refine (HGj.out _).mono ?_); rintro e w' ⟨rfl, rfl⟩)))
          go_roundw
          case rel => exact ⟨j + 1, by omega, by go_num, Below.setCell hB2 (by simp <;> omega) _, by simpa [go_sem] using hsz2, GN.out, by rw [heap_setCell_other _ _ _ _ (by simp <;> omega)]; exact G1.out⟩
          case measure => simp [intOf]; omega
        · have : j = k := by omega
          subst this
          rw [hsq.out] at G0
          go_wp2
          go_roundw
          case rel => exact ⟨q + 1, by omega, by go_num, hB2, hsz2, G0.out, G1.out⟩
          case measure => simp [intOf]; omega
    · have : q = d := by omega
      have hfin := Lib.hid (HDn.out this)
      go_wp2_with (first | ((with_reducible show wpList _ _ _ (⟨some 30, _, _, _, _, _⟩ :: _) _ _); refine wpList_load_row rfl 29 (.tmp 3) rfl (w.heap.size) rfl 29 (crateCells k L) (0, 0) _ (G0.out) Try.underlying29 rfl (by rw [crateCells_size, HL2.out]; kernel_rfl) ?_) | ((with_reducible show wpList _ _ _ (⟨none, .store _ (.tmp 6) _, _, _, _, _⟩ :: _) _ _); refine wpList_store_row rfl 29 (.tmp 6) _ rfl (w.heap.size + 1) (crateCells k L) rfl rfl 29 (crateCells 0 zero16) (G1.out) (by rw [crateCells_size, HL2.out]; kernel_rfl) (by rw [crateCells_size, crateCells_size, HL2.out]; rfl) (crate_oneCell _ _) ?_))
      exact bodyPost_ret (results_cell_row rfl _ _ (w.heap.size + 1) 29 (crateCells k L) (0, 0) _ rfl (setRow_heap _ _ _ _ _ _ G1.out) Try.underlying29 rfl (by rw [crateCells_size, HL2.out]; kernel_rfl)) rfl ⟨by rw [← hfin.out], below_setRow hB (by omega) _⟩
theorem l01Both_any (b : Nat) (n : Int) (l : List Nat) (a x y : Nat) (fine : Bool) (w : World) (h1 : -128 ≤ n) (h2 : n ≤ 127) (c0 : w.cell? ⟨b, 0, none⟩ = some (.int .i8 n)) (cv : ∀ k, k < 16 → w.cell? ⟨b, 1 + k, none⟩ = some (.float .f32 (ix l k)))
    (a0 : w.cell? ⟨a, 0, none⟩ = some (.float .f32 x)) (a1 : w.cell? ⟨a, 1, none⟩ = some (.float .f32 y)) :
    Calls Try.prog 58 #[.pointer (some ⟨b, 0, none⟩), .pointer (some ⟨a, 0, none⟩), .bool fine] w fun e w' => e = .returned (.int .i64 (told (validCrate n l && airOk x y) fine)) ∧ w = w' := by
  have HC := Lib.hid (spec_l01Crate b n l w h1 h2 c0 cv)
  have HA := Lib.hid (spec_l01Air a x y w a0 a1)
  have HO : Hid (airOk x y = (isPart x && isPart y)) := rfl
  rw [← HO.out] at HA
  clear cv c0 HO a0 a1
  cases hv : validCrate n l <;> cases ha : airOk x y <;> cases fine
  all_goals
    rw [hv] at HC
    rw [ha] at HA
    go_enter Try.func58, Try.ntmps58
    go_wp2_with (first | (go_at_call 99; ((with_reducible refine (HC.out).mono ?_); rintro e w' ⟨rfl, rfl⟩)) | (go_at_call 81; ((with_reducible refine (HA.out).mono ?_); rintro e w' ⟨rfl, rfl⟩)))
    go_ret; exact ⟨by simp [told], rfl⟩
set_option maxRecDepth 100000 in
set_option maxHeartbeats 2000000 in
theorem grow_any (k : Nat) (hk : k ≤ 16) (l : List Nat) (hl : l.length = 16) (x y : Nat) (hx : FL.upto 1 x) (hy : FL.upto 1 y) (hu : ∀ j, j < k → FL.upto 1 (ix l j)) (w : World) :
    Calls Try.prog 62 #[.agg (crateCells k l), .agg #[.float .f32 x, .float .f32 y]] w (Ret (.agg (crateCells k (growTo l (rateW x y) k))) w) := by
  have HL := Lib.hid hl; clear hl
  have HR := Lib.hid (fun w => rate_any x y hx hy w)
  have HG := Lib.hid (fun j w (hj : j < k) => impl_grown (ix l j) (rateW x y) (rateW_ok hx hy) (hu j hj) w)
  obtain ⟨r, hr⟩ : ∃ r, rateW x y = r := ⟨_, rfl⟩
  rw [hr] at HR HG
  rw [hr]
  clear hr hx hy hu
  have F0 := Lib.hid (fun b w c0 => fruits_any b k hk w c0)
  obtain ⟨W, hW⟩ : ∃ W, W = ((w.alloc (.cells (crateCells k l) 29)).alloc (.cells #[.float .f32 x, .float .f32 y] 33)).alloc (.cells #[.int .i8 0, .float .f32 0, .float .f32 0, .float .f32 0, .float .f32 0, .float .f32 0, .float .f32 0, .float .f32 0, .float .f32 0, .float .f32 0, .float .f32 0, .float .f32 0, .float .f32 0, .float .f32 0, .float .f32 0, .float .f32 0, .float .f32 0] 29) := ⟨_, rfl⟩
  have G0 : Hid (W.heap[w.heap.size]? = some (.cells (crateCells k l) 29 (0, 0))) := by rw [hW]; exact ha3_0 _ _ _ _
  have G1 : Hid (W.heap[w.heap.size + 1]? = some (.cells #[.float .f32 x, .float .f32 y] 33 (0, 0))) := by rw [hW]; exact ha3_1 _ _ _ _
  have G2 : Hid (W.heap[w.heap.size + 1 + 1]? = some (.cells (crateCells 0 zero16) 29 (0, 0))) := by rw [hW]; exact ha3_2 _ _ _ _
  have HB : Hid (Below w.heap.size w W) := by rw [hW]; (repeat (first | exact Below.refl _ _ | assumption | refine below_new ?_ _ | refine below_step ?_ (by assumption) | refine Below.drew ?_ | refine below_dn ?_ _ | refine Below.setCell ?_ (by simp <;> omega) _))
  have hsz : w.heap.size + 1 + 1 < W.heap.size := by rw [hW, size_al, size_al, size_al]; omega
  have c0 : W.cell? ⟨w.heap.size, 0, none⟩ = some (.int .i8 k) := cell_of_row _ _ _ _ _ _ G0.out
  have HW := Lib.hid hW
  clear hW
  go_enter Try.func62, Try.ntmps62
  go_wp2_with fail
  rw [← HW.out]
  clear HW
  ((with_reducible refine (F0.out _ _ c0).mono ?_); rintro e w1 ⟨rfl, m, rfl⟩)
  go_wp2_with fail
  go_loopw [9] (fun i wr => ∃ j : Nat, j ≤ k ∧ i = .int .i64 j ∧ Below w.heap.size w wr ∧ w.heap.size + 1 + 1 < wr.heap.size ∧ wr.heap[w.heap.size]? = some (.cells (crateCells k (growTo l r j)) 29 (0, 0)) ∧ wr.heap[w.heap.size + 1]? = some (.cells #[.float .f32 x, .float .f32 y] 33 (0, 0)) ∧ wr.heap[w.heap.size + 1 + 1]? = some (.cells (crateCells 0 zero16) 29 (0, 0))) (fun i _ => 16 - (intOf i).toNat)
  case atStart => exact ⟨0, by omega, rfl, below_dn HB.out _, hsz, by rw [growTo_zero HL.out]; exact G0.out, G1.out, G2.out⟩
  case round =>
    obtain ⟨j, hj, rfl, hB, hsz, g0, g1, g2⟩ := hrel
    have hG0 := Lib.hid g0
    have hG1 := Lib.hid g1
    have hG2 := Lib.hid g2
    have a0 : wr.cell? ⟨w.heap.size + 1, 0, none⟩ = some (.float .f32 x) := cell_of_row _ _ _ _ _ _ g1
    have a1 : wr.cell? ⟨w.heap.size + 1, 1, none⟩ = some (.float .f32 y) := cell_of_row _ _ _ _ _ _ g1
    clear g0 g1 g2 G0 G1 G2 HB c0
    by_cases hjk : j < k
    · have hj16 : j < 16 := by omega
      have cj : wr.cell? ⟨w.heap.size, 1 + j, none⟩ = some (.float .f32 (ix l j)) := by
        rw [cell_of_row _ _ _ _ _ _ hG0.out, crateCells_at (by rw [growTo_len]; exact hj16), growTo_ix hj16, if_neg (by omega)]
      have hgs := Lib.hid (growTo_succ l r hj16)
      have HGj := Lib.hid (fun w => HG.out j w hjk)
      go_wp2_with fail
      ((with_reducible refine (HR.out _).mono ?_); rintro e w2 ⟨rfl, hb2⟩)
      have G0 := Lib.hid (below_heap hb2 hG0.out)
      have G1 := Lib.hid (below_heap hb2 hG1.out)
      have G2 := Lib.hid (below_heap hb2 hG2.out)
      have hsz2 : w.heap.size + 1 + 1 < w2.heap.size := Nat.lt_of_lt_of_le hsz hb2.size
      have hB2 := Lib.hid (below_step hB hb2)
      have cj2 : w2.cell? ⟨w.heap.size, 1 + j, none⟩ = some (.float .f32 (ix l j)) := by
        rw [cell_of_row _ _ _ _ _ _ G0.out, crateCells_at (by rw [growTo_len]; exact hj16), growTo_ix hj16, if_neg (by omega)]
      have fj2 : w2.frozen? ⟨w.heap.size, 1 + j, none⟩ = false := frozen_of_row _ _ _ _ _ G0.out
      clear hb2 cj a0 a1 hB
      go_wp2_with ((go_at_call 101; ((with_reducible refine (HGj.out _).mono ?_); rintro e w' ⟨rfl, rfl⟩)))
      go_roundw
      case rel => exact ⟨j + 1, by omega, by go_num, Below.setCell hB2.out (by simp <;> omega) _, by simpa [go_sem] using hsz2, by rw [heap_setCell_same _ _ _ _ _ _ G0.out, crateCells_set, hgs.out], by rw [heap_setCell_other _ _ _ _ (by simp <;> omega)]; exact G1.out, by rw [heap_setCell_other _ _ _ _ (by simp <;> omega)]; exact G2.out⟩
      case measure => simp [intOf]; omega
    · have : j = k := by omega
      subst this
      have HL2 := Lib.hid (growTo_len l r j)
      go_wp2_with (first | ((with_reducible show wpList _ _ _ (⟨some 22, _, _, _, _, _⟩ :: _) _ _); refine wpList_load_row rfl 29 (.tmp 2) rfl (w.heap.size) rfl 29 (crateCells j (growTo l r j)) (0, 0) _ (hG0.out) Try.underlying29 rfl (by rw [crateCells_size, HL2.out]; kernel_rfl) ?_) | ((with_reducible show wpList _ _ _ (⟨none, .store _ (.tmp 4) _, _, _, _, _⟩ :: _) _ _); refine wpList_store_row rfl 29 (.tmp 4) _ rfl (w.heap.size + 1 + 1) (crateCells j (growTo l r j)) rfl rfl 29 (crateCells 0 zero16) (hG2.out) (by rw [crateCells_size, HL2.out]; kernel_rfl) (by rw [crateCells_size, crateCells_size, HL2.out]; rfl) (crate_oneCell _ _) ?_))
      exact bodyPost_ret (results_cell_row rfl _ _ (w.heap.size + 1 + 1) 29 (crateCells j (growTo l r j)) (0, 0) _ rfl (setRow_heap _ _ _ _ _ _ hG2.out) Try.underlying29 rfl (by rw [crateCells_size, HL2.out]; kernel_rfl)) rfl ⟨rfl, below_setRow hB (by omega) _⟩
end Go.Proofs.Ytldbpmpjfiglaaa
