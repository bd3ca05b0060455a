/-
  CONTRACTS: behind how many days all fruits are ripe enough.
-/
import Derived.Test.YtldbpmpjfiglaaaGrows
import Derived.Deep.RegionHeld3
set_option linter.unusedVariables false
set_option linter.unusedSimpArgs false
namespace Go.Proofs.Ytldbpmpjfiglaaa
open Go.RowKit Go.FV

/-- Whether the first fruits are all at least so ripe. -/
def allRipe (l : List Nat) (k b : Nat) : Bool := (l.take k).all fun x => !flt x b
theorem allRipe_no {l : List Nat} {k b j : Nat} (hl : l.length = 16) (hk : k ≤ 16) (hj : j < k) (h : flt (ix l j) b = true) : allRipe l k b = false := by
  unfold allRipe
  rw [List.all_eq_false]
  refine ⟨ix l j, ?_, by simp [h]⟩
  have : (l.take k)[j]? = some (ix l j) := by rw [List.getElem?_take, if_pos hj, ix_get (by omega)]
  exact List.mem_of_getElem? this
theorem allRipe_yes {l : List Nat} {k b : Nat} (hl : l.length = 16) (hk : k ≤ 16) (h : ∀ j, j < k → flt (ix l j) b = false) : allRipe l k b = true := by
  unfold allRipe
  rw [List.all_eq_true]
  intro x hx
  obtain ⟨j, hj, rfl⟩ := List.getElem_of_mem hx
  simp only [List.length_take] at hj
  have := h j (by omega)
  have e : (l.take k)[j]'(by simp only [List.length_take]; omega) = ix l j := by simp [ix, List.getD_eq_getElem?_getD, show j < l.length by omega]
  rw [e, this]; rfl
/-- The first day on which it is so; how the search ends. -/
def untilX (ok : Nat → Bool) : Int := match (List.range 201).find? ok with | some q => q | none => 0
def untilE (ok : Nat → Bool) : Int := match (List.range 201).find? ok with | some q => 0 | none => 6
theorem find_hit {ok : Nat → Bool} {q : Nat} (hq : q ≤ 200) (h : ok q = true) (hb : ∀ j, j < q → ok j = false) : (List.range 201).find? ok = some q := by
  rw [List.find?_range_eq_some]
  refine ⟨h, by simp; omega, fun j hj => ?_⟩
  rw [hb j hj]; rfl
theorem find_none {ok : Nat → Bool} (hb : ∀ j, j ≤ 200 → ok j = false) : (List.range 201).find? ok = none := by
  rw [List.find?_range_eq_none]
  intro j hj
  rw [hb j (by omega)]; rfl
theorem until_hit {ok : Nat → Bool} {q : Nat} (hq : q ≤ 200) (h : ok q = true) (hb : ∀ j, j < q → ok j = false) : untilX ok = q ∧ untilE ok = 0 := by
  unfold untilX untilE; rw [find_hit hq h hb]; exact ⟨rfl, rfl⟩
theorem until_none {ok : Nat → Bool} (hb : ∀ j, j ≤ 200 → ok j = false) : untilX ok = 0 ∧ untilE ok = 6 := by
  unfold untilX untilE; rw [find_none hb]; exact ⟨rfl, rfl⟩
set_option maxHeartbeats 1000000 in
theorem l01All_any (b k : Nat) (hk : k ≤ 16) (l : List Nat) (hl : l.length = 16) (p : Nat) (w : World) (c0 : w.cell? ⟨b, 0, none⟩ = some (.int .i8 k)) (cv : ∀ j, j < 16 → w.cell? ⟨b, 1 + j, none⟩ = some (.float .f32 (ix l j))) :
    Calls Try.prog 67 #[.pointer (some ⟨b, 0, none⟩), .float .f32 p] w fun e w' => e = .returned (.bool (allRipe l k p)) ∧ w = w' := by
  have CV := Lib.hid cv; clear cv
  have HN := Lib.hid (fun j => @allRipe_no l k p j hl hk)
  have HY := Lib.hid (@allRipe_yes l k p hl hk)
  obtain ⟨R, hR⟩ : ∃ R, allRipe l k p = R := ⟨_, rfl⟩
  rw [hR] at HN HY
  rw [hR]
  clear hR
  go_enter Try.func67, Try.ntmps67
  go_wp2
  go_loop [5] (fun i => ∃ j : Nat, j ≤ k ∧ i = .int .i64 j ∧ ∀ q, q < j → flt (ix l q) p = false) (fun i => 16 - (intOf i).toNat)
  case atStart => exact ⟨0, by omega, rfl, fun q hq => absurd hq (by omega)⟩
  case round =>
    obtain ⟨j, hj, rfl, hbefore⟩ := hrel
    have HB := Lib.hid hbefore; clear hbefore
    by_cases hjk : j < k
    · have cj := CV.out j (by omega)
      cases q : flt (ix l j) p
      · have q2 := Lib.hid q
        unfold flt at q
        go_wp2
        go_round
        case rel => exact ⟨j + 1, by omega, by go_num, fun i hi => by
          by_cases e : i = j
          · subst e; exact q2.out
          · exact HB.out i (by omega)⟩
        case measure => simp [intOf]; omega
      · have e := Lib.hid (HN.out j hjk q)
        unfold flt at q
        go_wp2
        go_ret; exact ⟨by rw [e.out]; rfl, rfl⟩
    · have : j = k := by omega
      subst this
      have e := Lib.hid (HY.out HB.out)
      go_wp2
      go_ret; exact ⟨by rw [e.out]; rfl, rfl⟩
/-- What the search over days gives. -/
def daysOk (l : List Nat) (r k p : Nat) (q : Nat) : Bool := allRipe (growDays l r k q) k p
def daysX (n : Int) (l : List Nat) (r p : Nat) (Z F : Bool) : Int := if Z && F then untilX (daysOk l r n.toNat p) else 0
def daysE (n : Int) (l : List Nat) (r p : Nat) (Z F : Bool) : Int := if Z && F then untilE (daysOk l r n.toNat p) else told Z F
set_option maxRecDepth 100000 in
set_option maxHeartbeats 2000000 in
theorem spec_DaysUntil (n : Int) (l : List Nat) (hl : l.length = 16) (hb : ∀ i, ix l i < 4294967296) (h1 : -128 ≤ n) (h2 : n ≤ 127) (x y : Nat) (hx : x < 4294967296) (hy : y < 4294967296) (p : Nat) (w : World) :
    Calls Try.prog 22 #[.agg (crateCells n l), .agg #[.float .f32 x, .float .f32 y], .float .f32 p] w
      (Ret (.tuple #[.int .i64 (daysX n l (rateW x y) p (validCrate n l && airOk x y) (isPart p)), .int .i64 (daysE n l (rateW x y) p (validCrate n l && airOk x y) (isPart p))]) w) := by
  have HL := Lib.hid hl
  obtain ⟨W, hW⟩ : ∃ W, W = (w.alloc (.cells (crateCells n l) 29)).alloc (.cells #[.float .f32 x, .float .f32 y] 33) := ⟨_, rfl⟩
  have G0 : Hid (W.heap[w.heap.size]? = some (.cells (crateCells n l) 29 (0, 0))) := by rw [hW]; exact ha2_0 _ _ _
  have G1 : Hid (W.heap[w.heap.size + 1]? = some (.cells #[.float .f32 x, .float .f32 y] 33 (0, 0))) := by rw [hW]; exact ha2_1 _ _ _
  have HB : Hid (Below w.heap.size w W) := by rw [hW]; (repeat (first | exact Below.refl _ _ | assumption | refine below_new ?_ _ | refine below_step ?_ (by assumption) | refine Below.drew ?_ | refine below_dn ?_ _ | refine Below.setCell ?_ (by simp <;> omega) _))
  have hsz : w.heap.size + 1 < W.heap.size := by rw [hW, size_al, size_al]; omega
  have HC := Lib.hid (l01Both_any w.heap.size n l (w.heap.size + 1) x y (isPart p) W h1 h2 (cell_of_row _ _ _ _ _ _ G0.out) (fun k hk => (cell_of_row _ _ _ _ _ _ G0.out).trans (crateCells_at (by rw [hl]; exact hk))) (cell_of_row _ _ _ _ _ _ G1.out) (cell_of_row _ _ _ _ _ _ G1.out))
  have HP := Lib.hid (fun w => spec_l01Part p w)
  have HU := Lib.hid (fun h => both_upto (n := n) (l := l) (x := x) (y := y) h hb hx hy)
  have HW := Lib.hid hW
  clear hW hb hx hy
  by_cases hall : (validCrate n l && airOk x y) = true ∧ isPart p = true
  · obtain ⟨hZ, hF⟩ := hall
    rw [hZ, hF] at HC
    rw [hF] at HP
    rw [hZ, hF]
    obtain ⟨k, rfl, hk, ux, uy, hu⟩ := HU.out hZ
    clear HU hZ hF
    have HR := Lib.hid (fun b w c0 c1 => l01Rate_any b x y ux uy w c0 c1)
    have HM := Lib.hid (growDays_len HL.out (rateW x y) k)
    have HG : Hid (∀ q w, Calls Try.prog 59 #[.agg (crateCells k (growDays l (rateW x y) k q)), .float .f32 (rateW x y), .int .i64 1] w (Ret (.agg (crateCells k (growDays l (rateW x y) k (q + 1)))) w)) := fun q w => l01Grow_any k hk (growDays l (rateW x y) k q) (HM.out q) (rateW x y) (rateW_ok ux uy) (growDays_upto (rateW_ok ux uy) hk hu q) 1 (by omega) w
    have HA := Lib.hid (fun q b w c0 cv => l01All_any b k hk (growDays l (rateW x y) k q) (HM.out q) p w c0 cv)
    have hok : Hid (∀ q, allRipe (growDays l (rateW x y) k q) k p = daysOk l (rateW x y) k p q) := fun _ => rfl
    simp only [hok.out] at HA
    have hX : Hid (daysX k l (rateW x y) p true true = untilX (daysOk l (rateW x y) k p) ∧ daysE k l (rateW x y) p true true = untilE (daysOk l (rateW x y) k p)) := ⟨rfl, rfl⟩
    rw [hX.out.1, hX.out.2]
    have HH := Lib.hid (fun q => @until_hit (daysOk l (rateW x y) k p) q)
    have HN := Lib.hid (@until_none (daysOk l (rateW x y) k p))
    have hz : Hid (growDays l (rateW x y) k 0 = l) := rfl
    obtain ⟨X, hXX⟩ : ∃ X, untilX (daysOk l (rateW x y) k p) = X := ⟨_, rfl⟩
    obtain ⟨E, hEE⟩ : ∃ E, untilE (daysOk l (rateW x y) k p) = E := ⟨_, rfl⟩
    rw [hXX, hEE] at HN
    simp only [hXX, hEE] at HH
    rw [hXX, hEE]
    obtain ⟨ok, hokk⟩ : ∃ ok, daysOk l (rateW x y) k p = ok := ⟨_, rfl⟩
    rw [hokk] at HA HH HN
    obtain ⟨D, hD⟩ : ∃ D : Nat → List Nat, ∀ q, growDays l (rateW x y) k q = D q := ⟨_, fun _ => rfl⟩
    simp only [hD] at HG HM HA hz
    obtain ⟨r, hr⟩ : ∃ r, rateW x y = r := ⟨_, rfl⟩
    rw [hr] at HR HG
    clear hD hX hXX hEE hokk hok hr ux uy hu
    go_enter Try.func22, Try.ntmps22
    go_wp2_with (go_at_call 66; ((with_reducible refine (HP.out _).mono ?_); rintro e w' ⟨rfl, rfl⟩))
    rw [← HW.out]
    clear HW
    ((with_reducible refine (HC.out).mono ?_); rintro e w' ⟨rfl, rfl⟩)
    go_wp2_with fail
    go_loopw [9] (fun i wr => ∃ q : Nat, q ≤ 201 ∧ i = .int .i64 q ∧ (∀ j, j < q → ok j = false) ∧ Below w.heap.size w wr ∧ w.heap.size + 1 < wr.heap.size ∧ wr.heap[w.heap.size]? = some (.cells (crateCells k (D q)) 29 (0, 0)) ∧ wr.heap[w.heap.size + 1]? = some (.cells #[.float .f32 x, .float .f32 y] 33 (0, 0))) (fun i _ => 201 - (intOf i).toNat)
    case atStart => exact ⟨0, by omega, rfl, fun j hj => absurd hj (by omega), HB.out, hsz, by rw [hz.out]; exact G0.out, G1.out⟩
    case round =>
      obtain ⟨q, hq, rfl, hbefore, hB, hsz, g0, g1⟩ := hrel
      clear G0 G1 HB
      have G0 := Lib.hid g0
      have G1 := Lib.hid g1
      have hbf := Lib.hid hbefore
      clear g0 g1 hbefore
      have HMq := Lib.hid (HM.out q)
      have HMn := Lib.hid (HM.out (q + 1))
      have HGq := Lib.hid (HG.out q)
      have HAq := Lib.hid (HA.out q w.heap.size wr (cell_of_row _ _ _ _ _ _ G0.out) (fun j hj => (cell_of_row _ _ _ _ _ _ G0.out).trans (crateCells_at (by rw [HMq.out]; exact hj))))
      by_cases hlt : q ≤ 200
      · cases hq2 : ok q
        · rw [hq2] at HAq
          have hnx : Hid (∀ j, j < q + 1 → ok j = false) := fun j hj => by
            by_cases e : j = q
            · subst e; exact hq2
            · exact hbf.out j (by omega)
          go_wp2_with (go_at_call 67; ((with_reducible refine (HAq.out).mono ?_); rintro e w' ⟨rfl, rfl⟩))
          refine wp_region_held_drew (S := fun W => w.heap.size + 1 < W.heap.size ∧ Below w.heap.size w W ∧ W.heap[w.heap.size + 1]? = some (.cells #[.float .f32 x, .float .f32 y] 33 (0, 0))) (by kernel_rfl) ⟨hsz, Below.drew hB, G1.out⟩ (fun hHeld => ?_)
          refine wpAnyH_ready (rs := [0, 1]) (by kernel_rfl) (by simp) (AllReadyH.cons rfl (fun K' hK => ?_) (AllReadyH.cons rfl (fun K' hK => ?_) AllReadyH.nil))
          · rw [if_pos (by rfl)]
            (try simp only [Act.put, List.setIfInBounds_toArray, List.set_cons_zero, List.set_cons_succ])
            refine wp_load_row 29 _ rfl w.heap.size rfl 29 (crateCells k (D q)) (0, 0) _ G0.out Try.underlying29 rfl (by rw [crateCells_size, HMq.out]; kernel_rfl) ?_
            refine hK.out _ _ ⟨hsz, Below.drew hB, G1.out⟩ (fun hH => ?_)
            clear hK
            refine wpAnyH_ready (rs := [1]) (by kernel_rfl) (by simp) (AllReadyH.cons rfl (fun K' hK => ?_) AllReadyH.nil)
            rw [if_pos (by rfl)]
            (try simp only [Act.put, List.setIfInBounds_toArray, List.set_cons_zero, List.set_cons_succ])
            go_wp2_with fail
            ((with_reducible refine (HR.out _ _ (cell_of_row _ _ _ _ _ _ G1.out) (cell_of_row _ _ _ _ _ _ G1.out)).mono ?_); rintro e w' ⟨rfl, m, rfl⟩)
            refine hK.out _ _ ⟨hsz, below_dn (Below.drew hB) _, G1.out⟩ (fun hH => ?_)
            clear hK
            refine wpAnyH_ready (rs := [2]) (by kernel_rfl) (by simp) (AllReadyH.cons rfl (fun K' hK => ?_) AllReadyH.nil)
            rw [if_pos (by rfl)]
            (try simp only [Act.put, List.setIfInBounds_toArray, List.set_cons_zero, List.set_cons_succ])
            go_wp2_with fail
            ((with_reducible refine (HGq.out _).mono ?_); rintro e w3 ⟨rfl, hb3⟩)
            have g0 : Hid (w3.heap[w.heap.size]? = some (.cells (crateCells k (D q)) 29 (0, 0))) := below_heap hb3 G0.out
            have g1 : Hid (w3.heap[w.heap.size + 1]? = some (.cells #[.float .f32 x, .float .f32 y] 33 (0, 0))) := below_heap hb3 G1.out
            have hsz3 : w.heap.size + 1 < w3.heap.size := Nat.lt_of_lt_of_le hsz hb3.size
            have hB3 := Lib.hid (below_step (below_dn hB _) hb3)
            clear hb3
            refine hK.out _ _ ⟨hsz3, hB3.out, g1.out⟩ (fun hH2 => ?_)
            clear hK
            refine wpAnyH_ready (rs := [3]) (by kernel_rfl) (by simp) (AllReadyH.cons rfl (fun K' hK => ?_) AllReadyH.nil)
            rw [if_pos (by rfl)]
            (try simp only [Act.put, List.setIfInBounds_toArray, List.set_cons_zero, List.set_cons_succ])
            refine wp_store_row 29 _ _ rfl w.heap.size (crateCells k (D (q + 1))) rfl rfl 29 (crateCells k (D q)) g0.out (by rw [crateCells_size, HMn.out]; kernel_rfl) (by rw [crateCells_size, crateCells_size, HMn.out, HMq.out]) (crate_oneCell _ _) ?_
            refine hK.out _ _ ⟨by simpa [World.setRow] using hsz3, below_setRow hB3.out (Nat.le_refl _) _, by rw [setRow_other _ _ _ _ (by omega)]; exact g1.out⟩ (fun hH3 => ?_)
            clear hK
            refine wpAnyH_done (by kernel_rfl) ?_ _
            clear hH hH2 hHeld
            go_wp2_with fail
            refine ⟨?_, ?_⟩
            · first | exact ⟨q + 1, by omega, by go_num, hnx.out, hH3.2.1, hH3.1, setRow_heap _ _ _ _ _ _ g0.out, hH3.2.2⟩ | ((repeat apply Exists.intro); refine ⟨?_, rfl⟩; exact ⟨q + 1, by omega, by go_num, hnx.out, hH3.2.1, hH3.1, setRow_heap _ _ _ _ _ _ g0.out, hH3.2.2⟩)
            · simp [intOf]; omega
          · rw [if_pos (by rfl)]
            (try simp only [Act.put, List.setIfInBounds_toArray, List.set_cons_zero, List.set_cons_succ])
            go_wp2_with fail
            ((with_reducible refine (HR.out _ _ (cell_of_row _ _ _ _ _ _ G1.out) (cell_of_row _ _ _ _ _ _ G1.out)).mono ?_); rintro e w' ⟨rfl, m, rfl⟩)
            refine hK.out _ _ ⟨hsz, below_dn (Below.drew hB) _, G1.out⟩ (fun hH => ?_)
            clear hK
            refine wpAnyH_ready (rs := [0]) (by kernel_rfl) (by simp) (AllReadyH.cons rfl (fun K' hK => ?_) AllReadyH.nil)
            rw [if_pos (by rfl)]
            (try simp only [Act.put, List.setIfInBounds_toArray, List.set_cons_zero, List.set_cons_succ])
            refine wp_load_row 29 _ rfl w.heap.size rfl 29 (crateCells k (D q)) (0, 0) _ G0.out Try.underlying29 rfl (by rw [crateCells_size, HMq.out]; kernel_rfl) ?_
            refine hK.out _ _ ⟨hsz, below_dn (Below.drew hB) _, G1.out⟩ (fun hH => ?_)
            clear hK
            refine wpAnyH_ready (rs := [2]) (by kernel_rfl) (by simp) (AllReadyH.cons rfl (fun K' hK => ?_) AllReadyH.nil)
            rw [if_pos (by rfl)]
            (try simp only [Act.put, List.setIfInBounds_toArray, List.set_cons_zero, List.set_cons_succ])
            go_wp2_with fail
            ((with_reducible refine (HGq.out _).mono ?_); rintro e w3 ⟨rfl, hb3⟩)
            have g0 : Hid (w3.heap[w.heap.size]? = some (.cells (crateCells k (D q)) 29 (0, 0))) := below_heap hb3 G0.out
            have g1 : Hid (w3.heap[w.heap.size + 1]? = some (.cells #[.float .f32 x, .float .f32 y] 33 (0, 0))) := below_heap hb3 G1.out
            have hsz3 : w.heap.size + 1 < w3.heap.size := Nat.lt_of_lt_of_le hsz hb3.size
            have hB3 := Lib.hid (below_step (below_dn hB _) hb3)
            clear hb3
            refine hK.out _ _ ⟨hsz3, hB3.out, g1.out⟩ (fun hH2 => ?_)
            clear hK
            refine wpAnyH_ready (rs := [3]) (by kernel_rfl) (by simp) (AllReadyH.cons rfl (fun K' hK => ?_) AllReadyH.nil)
            rw [if_pos (by rfl)]
            (try simp only [Act.put, List.setIfInBounds_toArray, List.set_cons_zero, List.set_cons_succ])
            refine wp_store_row 29 _ _ rfl w.heap.size (crateCells k (D (q + 1))) rfl rfl 29 (crateCells k (D q)) g0.out (by rw [crateCells_size, HMn.out]; kernel_rfl) (by rw [crateCells_size, crateCells_size, HMn.out, HMq.out]) (crate_oneCell _ _) ?_
            refine hK.out _ _ ⟨by simpa [World.setRow] using hsz3, below_setRow hB3.out (Nat.le_refl _) _, by rw [setRow_other _ _ _ _ (by omega)]; exact g1.out⟩ (fun hH3 => ?_)
            clear hK
            refine wpAnyH_done (by kernel_rfl) ?_ _
            clear hH hH2 hHeld
            go_wp2_with fail
            refine ⟨?_, ?_⟩
            · first | exact ⟨q + 1, by omega, by go_num, hnx.out, hH3.2.1, hH3.1, setRow_heap _ _ _ _ _ _ g0.out, hH3.2.2⟩ | ((repeat apply Exists.intro); refine ⟨?_, rfl⟩; exact ⟨q + 1, by omega, by go_num, hnx.out, hH3.2.1, hH3.1, setRow_heap _ _ _ _ _ _ g0.out, hH3.2.2⟩)
            · simp [intOf]; omega
        · rw [hq2] at HAq
          have hh := Lib.hid (HH.out q hlt hq2 hbf.out)
          go_wp2_with (go_at_call 67; ((with_reducible refine (HAq.out).mono ?_); rintro e w' ⟨rfl, rfl⟩))
          go_ret2; exact ⟨by rw [hh.out.1, hh.out.2]; rfl, hB⟩
      · have hh := Lib.hid (HN.out (fun j hj => hbf.out j (by omega)))
        go_wp2
        go_ret2; exact ⟨by rw [hh.out.1, hh.out.2]; rfl, hB⟩
  · have hR : Hid (daysX n l (rateW x y) p (validCrate n l && airOk x y) (isPart p) = 0 ∧ daysE n l (rateW x y) p (validCrate n l && airOk x y) (isPart p) = told (validCrate n l && airOk x y) (isPart p) ∧ told (validCrate n l && airOk x y) (isPart p) ≠ 0) := by
      unfold daysX daysE
      cases hA : (validCrate n l && airOk x y) <;> cases hB : isPart p <;> rw [hA, hB] at hall <;> first | exact absurd ⟨rfl, rfl⟩ hall | exact ⟨rfl, rfl, by decide⟩
    rw [hR.out.1, hR.out.2.1]
    have hne := hR.out.2.2
    clear hR
    obtain ⟨T, hT⟩ : ∃ T, told (validCrate n l && airOk x y) (isPart p) = T := ⟨_, rfl⟩
    rw [hT] at hne HC
    rw [hT]
    have hne' : (T != 0) = true := by simpa using hne
    clear HU hall hT hne
    go_enter Try.func22, Try.ntmps22
    go_wp2_with (go_at_call 66; ((with_reducible refine (HP.out _).mono ?_); rintro e w' ⟨rfl, rfl⟩))
    rw [← HW.out]
    clear HW
    ((with_reducible refine (HC.out).mono ?_); rintro e w' ⟨rfl, rfl⟩)
    go_wp2
    go_ret2; exact ⟨rfl, HB.out⟩
theorem DaysUntil_1 (a b p : Nat) (w : World) (c0 : w.cell? ⟨b, 0, none⟩ = some (.float .f32 p)) : Calls Try.prog 71 #[.float .f32 a, .pointer (some ⟨b, 0, none⟩)] w fun e w' => e = .returned (.bool (flt a p)) ∧ w = w' := by
  go_enter Try.func71, Try.ntmps71
  go_wp2
  go_ret; exact ⟨rfl, rfl⟩
theorem enter_DaysUntil_1 (x : Nat) (a : Option Addr) (w : World) : (callFunc 71 (#[.float .f32 x] ++ #[.pointer a])).run Try.prog w = .ok (.enter 71 (#[.float .f32 x] ++ #[.pointer a])) w := by kernel_rfl
theorem contains_until (b k a p : Nat) (hk : k ≤ 16) (l : List Nat) (hl : l.length = 16) (w : World) (cv : ∀ j, j < 16 → w.cell? ⟨b, 1 + j, none⟩ = some (.float .f32 (ix l j))) (c0 : w.cell? ⟨a, 0, none⟩ = some (.float .f32 p)) :
    Calls Try.prog 69 #[.slice (some ⟨b, 1, none⟩) k 16, .func (.func 71) #[] #[.pointer (some ⟨a, 0, none⟩)]] w fun e w' => e = .returned (.bool (!allRipe l k p)) ∧ w = w' := by
  have e : (l.take k).length = k := by rw [List.length_take]; omega
  have h := containsFunc 71 #[.pointer (some ⟨a, 0, none⟩)] (fun x => flt x p) b 1 16 (l.take k) w (fun x => enter_DaysUntil_1 x _ w) (fun x => DaysUntil_1 x a p w c0) (by rw [e]; omega)
    (fun j hj => by rw [e] at hj; rw [ix_take hj]; exact cv j (by omega))
  rw [e] at h
  refine h.mono fun e w' h => ⟨?_, h.2⟩
  rw [h.1]
  unfold allRipe
  simp [List.any_eq_not_all_not]
set_option maxRecDepth 100000 in
set_option maxHeartbeats 2000000 in
theorem impl_DaysUntil (n : Int) (l : List Nat) (hl : l.length = 16) (hb : ∀ i, ix l i < 4294967296) (h1 : -128 ≤ n) (h2 : n ≤ 127) (x y : Nat) (hx : x < 4294967296) (hy : y < 4294967296) (p : Nat) (w : World) :
    Calls Try.prog 23 #[.agg (crateCells n l), .agg #[.float .f32 x, .float .f32 y], .float .f32 p] w
      (Ret (.tuple #[.int .i64 (daysX n l (rateW x y) p (validCrate n l && airOk x y) (isPart p)), .int .i64 (daysE n l (rateW x y) p (validCrate n l && airOk x y) (isPart p))]) w) := by
  have HL := Lib.hid hl
  have HV := Lib.hid (fun w => impl_ValidCrate n l hl w h1 h2)
  have HA := Lib.hid (fun w => impl_ValidAir x y w)
  have HO : Hid (airOk x y = (isPart x && isPart y)) := rfl
  simp only [← HO.out] at HA
  have HU := Lib.hid (fun h => both_upto (n := n) (l := l) (x := x) (y := y) h hb hx hy)
  have HP := Lib.hid (fun w => impl_IsPart p w)
  clear hb hx hy HO h1 h2
  cases hv : validCrate n l
  · rw [hv] at HV
    clear HU
    have hR : Hid (daysX n l (rateW x y) p (false && airOk x y) (isPart p) = 0 ∧ daysE n l (rateW x y) p (false && airOk x y) (isPart p) = 1) := ⟨rfl, rfl⟩
    rw [hR.out.1, hR.out.2]
    go_enter Try.func23, Try.ntmps23
    go_wp2_with ((with_reducible show wpList _ _ _ (⟨some 10, _, _, _, _, _⟩ :: _) _ _); refine wpList_load_row rfl 29 (.tmp 3) rfl (w.heap.size) rfl 29 (crateCells n l) (0, 0) _ (ha3_0 _ _ _ _) Try.underlying29 rfl (by rw [crateCells_size, HL.out]; kernel_rfl) ?_)
    ((with_reducible refine (HV.out _).mono ?_); rintro e w1 ⟨rfl, hb1⟩)
    have HB : Hid (Below w.heap.size w w1) := below_step (by (repeat (first | exact Below.refl _ _ | assumption | refine below_new ?_ _ | refine below_step ?_ (by assumption) | refine Below.drew ?_ | refine below_dn ?_ _ | refine Below.setCell ?_ (by simp <;> omega) _))) hb1
    go_wp2
    go_ret2; exact ⟨rfl, HB.out⟩
  · rw [hv] at HV
    cases ha : airOk x y
    · rw [ha] at HA
      clear HU
      have hR : Hid (daysX n l (rateW x y) p (true && false) (isPart p) = 0 ∧ daysE n l (rateW x y) p (true && false) (isPart p) = 1) := ⟨rfl, rfl⟩
      rw [hR.out.1, hR.out.2]
      go_enter Try.func23, Try.ntmps23
      go_wp2_with ((with_reducible show wpList _ _ _ (⟨some 10, _, _, _, _, _⟩ :: _) _ _); refine wpList_load_row rfl 29 (.tmp 3) rfl (w.heap.size) rfl 29 (crateCells n l) (0, 0) _ (ha3_0 _ _ _ _) Try.underlying29 rfl (by rw [crateCells_size, HL.out]; kernel_rfl) ?_)
      ((with_reducible refine (HV.out _).mono ?_); rintro e w1 ⟨rfl, hb1⟩)
      have H1 : Hid (w1.heap[w.heap.size + 1]? = some (.cells #[.float .f32 x, .float .f32 y] 33 (0, 0))) := below_heap hb1 (ha3_1 _ _ _ _)
      have a0 : w1.cell? ⟨w.heap.size + 1, 0, none⟩ = some (.float .f32 x) := cell_of_row _ _ _ _ _ _ H1.out
      have a1 : w1.cell? ⟨w.heap.size + 1, 1, none⟩ = some (.float .f32 y) := cell_of_row _ _ _ _ _ _ H1.out
      go_wp2_with fail
      ((with_reducible refine (HA.out _).mono ?_); rintro e w2 ⟨rfl, hb2⟩)
      clear a0 a1
      have HB : Hid (Below w.heap.size w w2) := below_step (below_step (by (repeat (first | exact Below.refl _ _ | assumption | refine below_new ?_ _ | refine below_step ?_ (by assumption) | refine Below.drew ?_ | refine below_dn ?_ _ | refine Below.setCell ?_ (by simp <;> omega) _))) hb1) hb2
      go_wp2
      go_ret2; exact ⟨rfl, HB.out⟩
    · rw [ha] at HA
      have hz : (validCrate n l && airOk x y) = true := by rw [hv, ha]; rfl
      obtain ⟨k, rfl, hk, ux, uy, hu⟩ := HU.out hz
      clear HU hz hv ha
      cases hF : isPart p
      · rw [hF] at HP
        have hR : Hid (daysX k l (rateW x y) p (true && true) false = 0 ∧ daysE k l (rateW x y) p (true && true) false = 2) := ⟨rfl, rfl⟩
        rw [hR.out.1, hR.out.2]
        go_enter Try.func23, Try.ntmps23
        go_wp2_with ((with_reducible show wpList _ _ _ (⟨some 10, _, _, _, _, _⟩ :: _) _ _); refine wpList_load_row rfl 29 (.tmp 3) rfl (w.heap.size) rfl 29 (crateCells k l) (0, 0) _ (ha3_0 _ _ _ _) Try.underlying29 rfl (by rw [crateCells_size, HL.out]; kernel_rfl) ?_)
        ((with_reducible refine (HV.out _).mono ?_); rintro e w1 ⟨rfl, hb1⟩)
        have H1 : Hid (w1.heap[w.heap.size + 1]? = some (.cells #[.float .f32 x, .float .f32 y] 33 (0, 0))) := below_heap hb1 (ha3_1 _ _ _ _)
        have a0 : w1.cell? ⟨w.heap.size + 1, 0, none⟩ = some (.float .f32 x) := cell_of_row _ _ _ _ _ _ H1.out
        have a1 : w1.cell? ⟨w.heap.size + 1, 1, none⟩ = some (.float .f32 y) := cell_of_row _ _ _ _ _ _ H1.out
        go_wp2_with fail
        ((with_reducible refine (HA.out _).mono ?_); rintro e w2 ⟨rfl, hb2⟩)
        clear a0 a1
        have G0 : Hid (w2.heap[w.heap.size]? = some (.cells (crateCells k l) 29 (0, 0))) := below_heap hb2 (below_heap hb1 (ha3_0 _ _ _ _))
        have G1 : Hid (w2.heap[w.heap.size + 1]? = some (.cells #[.float .f32 x, .float .f32 y] 33 (0, 0))) := below_heap hb2 H1.out
        have G2 : Hid (w2.heap[w.heap.size + 1 + 1]? = some (.cells #[.float .f32 p] 23 (0, 0))) := below_heap hb2 (below_heap hb1 (ha3_2 _ _ _ _))
        have p0 : w2.cell? ⟨w.heap.size + 1 + 1, 0, none⟩ = some (.float .f32 p) := cell_of_row _ _ _ _ _ _ G2.out
        have HB : Hid (Below w.heap.size w w2) := below_step (below_step (by (repeat (first | exact Below.refl _ _ | assumption | refine below_new ?_ _ | refine below_step ?_ (by assumption) | refine Below.drew ?_ | refine below_dn ?_ _ | refine Below.setCell ?_ (by simp <;> omega) _))) hb1) hb2
        have hsz : w.heap.size + 1 + 1 < w2.heap.size := Nat.lt_of_lt_of_le (by have := hb1.size; rw [size_al, size_al, size_al] at this; omega) hb2.size
        clear hb1 hb2 H1
        go_wp2_with (go_at_call 68; ((with_reducible refine (HP.out _).mono ?_); rintro e w' ⟨rfl, rfl⟩))
        go_ret2; exact ⟨rfl, HB.out⟩
      · rw [hF] at HP
        have HM := Lib.hid (growDays_len HL.out (rateW x y) k)
        have HG := Lib.hid (fun q w => grow_any k hk (growDays l (rateW x y) k q) (HM.out q) x y ux uy (growDays_upto (rateW_ok ux uy) hk hu q) w)
        have hs : Hid (∀ q, growTo (growDays l (rateW x y) k q) (rateW x y) k = growDays l (rateW x y) k (q + 1)) := fun q => rfl
        simp only [hs.out] at HG
        have HN2 := Lib.hid (fun q b a w cv c0 => contains_until b k a p hk (growDays l (rateW x y) k q) (HM.out q) w cv c0)
        have hok : Hid (∀ q, allRipe (growDays l (rateW x y) k q) k p = daysOk l (rateW x y) k p q) := fun _ => rfl
        simp only [hok.out] at HN2
        have hX : Hid (daysX k l (rateW x y) p (true && true) true = untilX (daysOk l (rateW x y) k p) ∧ daysE k l (rateW x y) p (true && true) true = untilE (daysOk l (rateW x y) k p)) := ⟨rfl, rfl⟩
        rw [hX.out.1, hX.out.2]
        have HH := Lib.hid (fun q => @until_hit (daysOk l (rateW x y) k p) q)
        have HN := Lib.hid (@until_none (daysOk l (rateW x y) k p))
        have hz : Hid (growDays l (rateW x y) k 0 = l) := rfl
        obtain ⟨X, hXX⟩ : ∃ X, untilX (daysOk l (rateW x y) k p) = X := ⟨_, rfl⟩
        obtain ⟨E, hEE⟩ : ∃ E, untilE (daysOk l (rateW x y) k p) = E := ⟨_, rfl⟩
        rw [hXX, hEE] at HN
        simp only [hXX, hEE] at HH
        rw [hXX, hEE]
        obtain ⟨ok, hokk⟩ : ∃ ok, daysOk l (rateW x y) k p = ok := ⟨_, rfl⟩
        rw [hokk] at HN2 HH HN
        obtain ⟨D, hD⟩ : ∃ D : Nat → List Nat, ∀ q, growDays l (rateW x y) k q = D q := ⟨_, fun _ => rfl⟩
        simp only [hD] at HG HM HN2 hz
        have F0 := Lib.hid (fun b w c0 => fruits_any b k hk w c0)
        clear hD hX hXX hEE hokk hok hs ux uy hu hF
        go_enter Try.func23, Try.ntmps23
        go_wp2_with ((with_reducible show wpList _ _ _ (⟨some 10, _, _, _, _, _⟩ :: _) _ _); refine wpList_load_row rfl 29 (.tmp 3) rfl (w.heap.size) rfl 29 (crateCells k l) (0, 0) _ (ha3_0 _ _ _ _) Try.underlying29 rfl (by rw [crateCells_size, HL.out]; kernel_rfl) ?_)
        ((with_reducible refine (HV.out _).mono ?_); rintro e w1 ⟨rfl, hb1⟩)
        have H1 : Hid (w1.heap[w.heap.size + 1]? = some (.cells #[.float .f32 x, .float .f32 y] 33 (0, 0))) := below_heap hb1 (ha3_1 _ _ _ _)
        have a0 : w1.cell? ⟨w.heap.size + 1, 0, none⟩ = some (.float .f32 x) := cell_of_row _ _ _ _ _ _ H1.out
        have a1 : w1.cell? ⟨w.heap.size + 1, 1, none⟩ = some (.float .f32 y) := cell_of_row _ _ _ _ _ _ H1.out
        go_wp2_with fail
        ((with_reducible refine (HA.out _).mono ?_); rintro e w2 ⟨rfl, hb2⟩)
        clear a0 a1
        have G0 : Hid (w2.heap[w.heap.size]? = some (.cells (crateCells k l) 29 (0, 0))) := below_heap hb2 (below_heap hb1 (ha3_0 _ _ _ _))
        have G1 : Hid (w2.heap[w.heap.size + 1]? = some (.cells #[.float .f32 x, .float .f32 y] 33 (0, 0))) := below_heap hb2 H1.out
        have G2 : Hid (w2.heap[w.heap.size + 1 + 1]? = some (.cells #[.float .f32 p] 23 (0, 0))) := below_heap hb2 (below_heap hb1 (ha3_2 _ _ _ _))
        have p0 : w2.cell? ⟨w.heap.size + 1 + 1, 0, none⟩ = some (.float .f32 p) := cell_of_row _ _ _ _ _ _ G2.out
        have HB : Hid (Below w.heap.size w w2) := below_step (below_step (by (repeat (first | exact Below.refl _ _ | assumption | refine below_new ?_ _ | refine below_step ?_ (by assumption) | refine Below.drew ?_ | refine below_dn ?_ _ | refine Below.setCell ?_ (by simp <;> omega) _))) hb1) hb2
        have hsz : w.heap.size + 1 + 1 < w2.heap.size := Nat.lt_of_lt_of_le (by have := hb1.size; rw [size_al, size_al, size_al] at this; omega) hb2.size
        clear hb1 hb2 H1
        go_wp2_with (go_at_call 68; ((with_reducible refine (HP.out _).mono ?_); rintro e w' ⟨rfl, rfl⟩))
        clear p0
        go_loopw [8] (fun i wr => ∃ q : Nat, q ≤ 201 ∧ i = .int .i64 q ∧ (∀ j, j < q → ok j = false) ∧ Below w.heap.size w wr ∧ w.heap.size + 1 + 1 < wr.heap.size ∧ wr.heap[w.heap.size]? = some (.cells (crateCells k (D q)) 29 (0, 0)) ∧ wr.heap[w.heap.size + 1]? = some (.cells #[.float .f32 x, .float .f32 y] 33 (0, 0)) ∧ wr.heap[w.heap.size + 1 + 1]? = some (.cells #[.float .f32 p] 23 (0, 0))) (fun i _ => 201 - (intOf i).toNat)
        case atStart => exact ⟨0, by omega, rfl, fun j hj => absurd hj (by omega), HB.out, hsz, by rw [hz.out]; exact G0.out, G1.out, G2.out⟩
        case round =>
          obtain ⟨q, hq, rfl, hbefore, hB, hsz, g0, g1, g2⟩ := hrel
          clear G0 G1 G2 HB
          have G0 := Lib.hid g0
          have G1 := Lib.hid g1
          have G2 := Lib.hid g2
          have hbf := Lib.hid hbefore
          clear g0 g1 g2 hbefore
          have HMq := Lib.hid (HM.out q)
          have HMn := Lib.hid (HM.out (q + 1))
          have HGq := Lib.hid (HG.out q)
          have HFq := Lib.hid (F0.out w.heap.size wr (cell_of_row _ _ _ _ _ _ G0.out))
          have HCq : Hid (∀ m, _) := Lib.hid (fun m => HN2.out q w.heap.size (w.heap.size + 1 + 1) (wr.drewN m) (fun j hj => (cell_of_row _ _ _ _ _ _ G0.out).trans (crateCells_at (by rw [HMq.out]; exact hj))) (cell_of_row _ _ _ _ _ _ G2.out))
          by_cases hlt : q ≤ 200
          · cases hq2 : ok q
            · rw [hq2] at HCq
              have hnx : Hid (∀ j, j < q + 1 → ok j = false) := fun j hj => by
                by_cases e : j = q
                · subst e; exact hq2
                · exact hbf.out j (by omega)
              go_wp2_with fail
              ((with_reducible refine (HFq.out).mono ?_); rintro e w' ⟨rfl, m, rfl⟩)
              have a0 : (wr.drewN m).cell? ⟨w.heap.size + 1, 0, none⟩ = some (.float .f32 x) := cell_of_row _ _ _ _ _ _ G1.out
              have a1 : (wr.drewN m).cell? ⟨w.heap.size + 1, 1, none⟩ = some (.float .f32 y) := cell_of_row _ _ _ _ _ _ G1.out
              have g0 : Hid ((wr.drewN m).heap[w.heap.size]? = some (.cells (crateCells k (D q)) 29 (0, 0))) := G0.out
              have g1 : Hid ((wr.drewN m).heap[w.heap.size + 1]? = some (.cells #[.float .f32 x, .float .f32 y] 33 (0, 0))) := G1.out
              have g2 : Hid ((wr.drewN m).heap[w.heap.size + 1 + 1]? = some (.cells #[.float .f32 p] 23 (0, 0))) := G2.out
              have hBm := Lib.hid (below_dn hB m)
              have hszm : w.heap.size + 1 + 1 < (wr.drewN m).heap.size := hsz
              have HCm := Lib.hid (HCq.out m)
              obtain ⟨V, hV⟩ : ∃ V, wr.drewN m = V := ⟨_, rfl⟩
              rw [hV] at a0 a1 g0 g1 g2 hBm hszm HCm
              rw [hV]
              clear hV
              go_wp2_with (first | (go_at_call 69; ((with_reducible refine (HCm.out).mono ?_); rintro e w' ⟨rfl, rfl⟩)) | ((with_reducible show wpList _ _ _ (⟨some 31, _, _, _, _, _⟩ :: _) _ _); refine wpList_load_row rfl 29 (.tmp 3) rfl (w.heap.size) rfl 29 (crateCells k (D q)) (0, 0) _ (g0.out) Try.underlying29 rfl (by rw [crateCells_size, HMq.out]; kernel_rfl) ?_))
              ((with_reducible refine (HGq.out _).mono ?_); rintro e w3 ⟨rfl, hb3⟩)
              have s0 : Hid (w3.heap[w.heap.size]? = some (.cells (crateCells k (D q)) 29 (0, 0))) := below_heap hb3 g0.out
              have s1 : Hid (w3.heap[w.heap.size + 1]? = some (.cells #[.float .f32 x, .float .f32 y] 33 (0, 0))) := below_heap hb3 g1.out
              have s2 : Hid (w3.heap[w.heap.size + 1 + 1]? = some (.cells #[.float .f32 p] 23 (0, 0))) := below_heap hb3 g2.out
              have hsz3 : w.heap.size + 1 + 1 < w3.heap.size := Nat.lt_of_lt_of_le hszm hb3.size
              have hB3 := Lib.hid (below_step hBm.out hb3)
              clear hb3 a0 a1
              go_wp2_with ((with_reducible show wpList _ _ _ (⟨none, .store _ (.tmp 3) _, _, _, _, _⟩ :: _) _ _); refine wpList_store_row rfl 29 (.tmp 3) _ rfl (w.heap.size) (crateCells k (D (q + 1))) rfl rfl 29 (crateCells k (D q)) s0.out (by rw [crateCells_size, HMn.out]; kernel_rfl) (by rw [crateCells_size, crateCells_size, HMn.out, HMq.out]) (crate_oneCell _ _) ?_)
              refine ⟨?_, ?_⟩
              · first | exact ⟨q + 1, by omega, by go_num, hnx.out, below_setRow hB3.out (Nat.le_refl _) _, by simpa [World.setRow] using hsz3, setRow_heap _ _ _ _ _ _ s0.out, by rw [setRow_other _ _ _ _ (by omega)]; exact s1.out, by rw [setRow_other _ _ _ _ (by omega)]; exact s2.out⟩ | ((repeat apply Exists.intro); refine ⟨?_, rfl⟩; exact ⟨q + 1, by omega, by go_num, hnx.out, below_setRow hB3.out (Nat.le_refl _) _, by simpa [World.setRow] using hsz3, setRow_heap _ _ _ _ _ _ s0.out, by rw [setRow_other _ _ _ _ (by omega)]; exact s1.out, by rw [setRow_other _ _ _ _ (by omega)]; exact s2.out⟩)
              · simp [intOf]; omega
            · rw [hq2] at HCq
              have hh := Lib.hid (HH.out q hlt hq2 hbf.out)
              go_wp2_with fail
              ((with_reducible refine (HFq.out).mono ?_); rintro e w' ⟨rfl, m, rfl⟩)
              go_wp2_with ((go_at_call 69; ((with_reducible refine (HCq.out m).mono ?_); rintro e w' ⟨rfl, rfl⟩)))
              go_ret2; exact ⟨by rw [hh.out.1, hh.out.2]; rfl, below_dn hB m⟩
          · have hh := Lib.hid (HN.out (fun j hj => hbf.out j (by omega)))
            go_wp2
            go_ret2; exact ⟨by rw [hh.out.1, hh.out.2]; rfl, hB⟩
end Go.Proofs.Ytldbpmpjfiglaaa
