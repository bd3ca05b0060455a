/-
  CONTRACTS: valid crates.
-/
import Derived.Test.YtejipgofbefbjaaParts
set_option linter.unusedVariables false
set_option linter.unusedSimpArgs false
namespace Go.Proofs.Ytejipgofbefbjaa
open Go.RowKit Go.FV

/-- A place of a crate holds what it should: a part where there is a fruit, else 0. -/
def slotOk (n : Int) (k x : Nat) : Bool := if (k : Int) < n then isPart x else sameN x 0
def slotsOk (n : Int) (l : List Nat) : Bool := (List.range 16).all fun k => slotOk n k (ix l k)
def validCrate (n : Int) (l : List Nat) : Bool := (decide (0 ≤ n) && decide (n ≤ 16)) && slotsOk n l
theorem slotOk_lt {n : Int} {k x : Nat} (h : (k : Int) < n) : slotOk n k x = isPart x := by unfold slotOk; rw [if_pos h]
theorem slotOk_ge {n : Int} {k x : Nat} (h : n ≤ (k : Int)) : slotOk n k x = sameN x 0 := by unfold slotOk; rw [if_neg (by omega)]
theorem slotsOk_no {n : Int} {l : List Nat} {k : Nat} (hk : k < 16) (h : slotOk n k (ix l k) = false) : slotsOk n l = false := by
  unfold slotsOk
  rw [List.all_eq_false]
  exact ⟨k, by simpa using hk, by simpa using h⟩
theorem slotsOk_yes {n : Int} {l : List Nat} (h : ∀ k, k < 16 → slotOk n k (ix l k) = true) : slotsOk n l = true := by
  unfold slotsOk
  rw [List.all_eq_true]
  exact fun k hk => h k (by simpa using hk)
theorem slotsOk_iff {n : Int} {l : List Nat} : slotsOk n l = true ↔ ∀ k, k < 16 → slotOk n k (ix l k) = true :=
  ⟨fun h k hk => by
    cases hs : slotOk n k (ix l k)
    · rw [slotsOk_no hk hs] at h; cases h
    · rfl, slotsOk_yes⟩
theorem ix_take {l : List Nat} {k j : Nat} (h : j < k) : ix (l.take k) j = ix l j := by
  unfold ix; simp [List.getElem?_take, h]
theorem ix_drop (l : List Nat) (k j : Nat) : ix (l.drop k) j = ix l (k + j) := by
  unfold ix; simp
theorem all_ix {l : List Nat} {p : Nat → Bool} : l.all p = true ↔ ∀ k, k < l.length → p (ix l k) = true := by
  rw [List.all_eq_true]
  constructor
  · intro h k hk
    have := h l[k] (List.getElem_mem hk)
    simpa [ix, hk] using this
  · intro h x hx
    obtain ⟨j, hj, rfl⟩ := List.getElem_of_mem hx
    have := h j hj
    simpa [ix, hj] using this
theorem slots_parts {l : List Nat} (hl : l.length = 16) {k : Nat} (hk : k ≤ 16) : slotsOk k l = ((l.take k).all isPart && !((l.drop k).any fun x => !sameN x 0)) := by
  have hd : (!((l.drop k).any fun x => !sameN x 0)) = (l.drop k).all fun x => sameN x 0 := by simp [List.any_eq_not_all_not]
  rw [hd]
  rw [Bool.eq_iff_iff, slotsOk_iff, Bool.and_eq_true, all_ix, all_ix]
  simp only [List.length_take, List.length_drop, hl]
  constructor
  · intro h
    refine ⟨fun j hj => ?_, fun j hj => ?_⟩
    · have := h j (by omega)
      unfold slotOk at this
      rw [if_pos (by omega)] at this
      rw [ix_take (by omega)]; exact this
    · have := h (k + j) (by omega)
      unfold slotOk at this
      rw [if_neg (by omega)] at this
      rw [ix_drop]; exact this
  · rintro ⟨h1, h2⟩ j hj
    unfold slotOk
    by_cases hjk : j < k
    · rw [if_pos (by omega)]
      have := h1 j (by omega)
      rwa [ix_take hjk] at this
    · rw [if_neg (by omega)]
      have := h2 (j - k) (by omega)
      rw [ix_drop] at this
      rwa [show k + (j - k) = j by omega] at this

set_option maxHeartbeats 1000000 in
theorem spec_l01Crate (b : Nat) (n : Int) (l : List Nat) (w : World) (h1 : -128 ≤ n) (h2 : n ≤ 127) (c0 : w.cell? ⟨b, 0, none⟩ = some (.int .i8 n)) (cv : ∀ k, k < 16 → w.cell? ⟨b, 1 + k, none⟩ = some (.float .f32 (ix l k))) :
    Calls Try.prog 74 #[.pointer (some ⟨b, 0, none⟩)] w fun e w' => e = .returned (.bool (validCrate n l)) ∧ w = w' := by
  have CV := Lib.hid cv; clear cv
  by_cases hn : 0 ≤ n ∧ n ≤ 16
  · have d1 : (decide (0 ≤ n) && decide (n ≤ 16)) = true := by simp; omega
    have hn1 := hn.1
    have hn2 := hn.2
    clear hn
    have hv : Hid (validCrate n l = slotsOk n l) := by unfold validCrate; rw [d1]; rfl
    go_enter Try.func74, Try.ntmps74
    go_wp2_with (go_at_call 82; ((with_reducible refine (spec_l00In _ _ _ _).mono ?_); rintro e w' ⟨rfl, rfl⟩; rw [d1]))
    go_loop [3] (fun i => ∃ k : Nat, k ≤ 16 ∧ i = .int .i64 k ∧ ∀ j, j < k → slotOk n j (ix l j) = true) (fun i => 16 - (intOf i).toNat)
    case atStart => exact ⟨0, by omega, rfl, fun j hj => absurd hj (by omega)⟩
    case round =>
      obtain ⟨k, hk, rfl, hrel⟩ := hrel
      have HR := Lib.hid hrel; clear hrel
      have cvk : (k : Int) < 16 → w.cell? ⟨b, 1 + k, none⟩ = some (.float .f32 (ix l k)) := fun h => CV.out k (by omega)
      go_wp2_with (first | (go_at_call 52; ((with_reducible refine (spec_l01Part _ _).mono ?_); rintro e w' ⟨rfl, rfl⟩)) | (go_at_call 40; ((with_reducible refine (spec_l01Same _ _ _).mono ?_); rintro e w' ⟨rfl, rfl⟩)))
      all_goals first
        | (go_round
           case rel => exact ⟨k + 1, by omega, by go_num, fun j hj => by
             by_cases e : j = k
             · subst e; first | (rw [slotOk_lt (by omega)]; simp_all; done) | (rw [slotOk_ge (by omega)]; simp_all; done)
             · exact HR.out j (by omega)⟩
           case measure => simp [intOf]; omega)
        | (go_ret
           exact ⟨by first | (rw [hv.out, slotsOk_no (k := k) (by omega) (by first | (rw [slotOk_lt (by omega)]; simp_all; done) | (rw [slotOk_ge (by omega)]; simp_all; done))]; rfl) | (rw [hv.out, slotsOk_yes (fun j hj => HR.out j (by omega))]; rfl), rfl⟩)
  · have d1 : (decide (0 ≤ n) && decide (n ≤ 16)) = false := by simp; omega
    have hv : Hid (validCrate n l = false) := by unfold validCrate; rw [d1]; rfl
    clear hn
    go_enter Try.func74, Try.ntmps74
    go_wp2_with (go_at_call 82; ((with_reducible refine (spec_l00In _ _ _ _).mono ?_); rintro e w' ⟨rfl, rfl⟩; rw [d1]))
    go_ret
    exact ⟨by rw [hv.out]; rfl, rfl⟩
theorem arrayLen16 : Try.prog.arrayLen 49 = 16 := by kernel_rfl
theorem elem16 : Try.prog.elem 49 = 22 := by kernel_rfl
theorem sl_hi (b off k : Nat) (hk : k ≤ 16) (W : World) : (Instr.sliceAt 49 (.pointer (some ⟨b, off, none⟩)) none (some (.int .i8 (k : Int))) none).run Try.prog W = .ok (.slice (some ⟨b, off, none⟩) k 16) W := by
  rw [run_sliceAt_array_h W _ _ (by rw [arrayLen16, elem16]; exact Try.underlying49) .i8 _ (by omega) (by rw [arrayLen16]; omega), arrayLen16, elem16, Try.sizeOf22]
  simp [slicedAt, Addr.add, Result.andThen]
theorem sl_lo (b off k : Nat) (hk : k < 16) (W : World) : (Instr.sliceAt 49 (.pointer (some ⟨b, off, none⟩)) (some (.int .i8 (k : Int))) none none).run Try.prog W = .ok (.slice (some ⟨b, off + k, none⟩) (16 - k) (16 - k)) W := by
  rw [run_sliceAt_array_l W _ _ (by rw [arrayLen16, elem16]; exact Try.underlying49) .i8 _ (by omega) (by rw [arrayLen16]; omega), arrayLen16, elem16, Try.sizeOf22]
  have hne : ¬ 16 = k := by omega
  simp only [slicedAt, Result.andThen, Int.toNat_natCast, Nat.mul_one, if_neg hne, Addr.add_mid]
theorem sl_lo16 (b off : Nat) (W : World) : (Instr.sliceAt 49 (.pointer (some ⟨b, off, none⟩)) (some (.int .i8 16)) none none).run Try.prog W = .ok (.slice (some ⟨b, off, none⟩) 0 0) W := by
  rw [run_sliceAt_array_l W _ _ (by rw [arrayLen16, elem16]; exact Try.underlying49) .i8 _ (by omega) (by rw [arrayLen16]; omega), arrayLen16, elem16, Try.sizeOf22]
  rfl
theorem validCrate_1 (a : Nat) (w : World) : Calls Try.prog 77 #[.float .f32 a] w fun e w' => e = .returned (.bool (!sameN a 0)) ∧ w = w' := by
  go_enter Try.func77, Try.ntmps77
  go_wp2_with (go_at_call 48; ((with_reducible refine (impl_SameNumber _ _ _).mono ?_); rintro e w' ⟨rfl, rfl⟩))
  go_ret; exact ⟨rfl, rfl⟩
theorem enter_validCrate_1 (x : Nat) (w : World) : (callFunc 77 #[.float .f32 x]).run Try.prog w = .ok (.enter 77 #[.float .f32 x]) w := by kernel_rfl
theorem contains_n (b off c m : Nat) (l : List Nat) (hn : l.length = m) (w : World) (hl : m ≤ 9223372036854775807) (hc : ∀ k, k < m → w.cell? ⟨b, off + k, none⟩ = some (.float .f32 (ix l k))) :
    Calls Try.prog 76 #[.slice (some ⟨b, off, none⟩) m c, .func (.func 77) #[] #[]] w fun e w' => e = .returned (.bool (l.any fun x => !sameN x 0)) ∧ w = w' := by
  subst hn
  exact containsFunc 77 #[] _ b off c l w (fun x => enter_validCrate_1 x w) (fun x => validCrate_1 x w) hl hc
set_option maxRecDepth 10000 in
set_option maxHeartbeats 400000 in
theorem impl_ValidCrate_in (k : Nat) (hk : k < 16) (l : List Nat) (hl : l.length = 16) (w : World) : Calls Try.prog 55 #[.agg (crateCells k l)] w (Ret (.bool (slotsOk k l)) w) := by
  have HS := Lib.hid (slots_parts hl (Nat.le_of_lt hk))
  have HL := Lib.hid hl; clear hl
  have d1 : (decide ((0 : Int) ≤ (k : Int)) && decide ((k : Int) ≤ 16)) = true := by simp; omega
  have HA := Lib.hid (areParts_n w.heap.size 1 16 k (l.take k) (by have := HL.out; simp; omega) (w.alloc (.cells (crateCells k l) 54)) (by omega) (fun j hj => by
    rw [ix_take hj]; exact (cell_of_row _ _ _ _ _ _ (ha1 _ _)).trans (crateCells_at (by rw [HL.out]; omega))))
  have HC := Lib.hid (contains_n w.heap.size (1 + k) (16 - k) (16 - k) (l.drop k) (by have := HL.out; simp; omega) (w.alloc (.cells (crateCells k l) 54)) (by omega) (fun j hj => by
    rw [ix_drop, Nat.add_assoc]; exact (cell_of_row _ _ _ _ _ _ (ha1 _ _)).trans (crateCells_at (by rw [HL.out]; omega))))
  obtain ⟨A, hA⟩ : ∃ A : Bool, (l.take k).all isPart = A := ⟨_, rfl⟩
  obtain ⟨B, hB⟩ : ∃ B : Bool, ((l.drop k).any fun x => !sameN x 0) = B := ⟨_, rfl⟩
  rw [hA, hB] at HS
  rw [hA] at HA
  rw [hB] at HC
  clear hA hB
  have hs1 := sl_hi w.heap.size 1 k (Nat.le_of_lt hk)
  have hs2 := sl_lo w.heap.size 1 k hk
  go_enter Try.func55, Try.ntmps55
  go_wp2_with (first | (go_at_call 73; ((with_reducible refine (impl_within _ _ _ _).mono ?_); rintro e w' ⟨rfl, rfl⟩; rw [d1])) | (go_at_call 75; ((with_reducible refine (HA.out).mono ?_); rintro e w' ⟨rfl, rfl⟩)) | (go_at_call 76; ((with_reducible refine (HC.out).mono ?_); rintro e w' ⟨rfl, rfl⟩)))
  all_goals (go_ret; refine ⟨by rw [HS.out]; simp_all, ?_⟩; (repeat (first | exact Below.refl _ _ | assumption | refine below_new ?_ _ | refine below_step ?_ (by assumption) | refine Below.drew ?_ | refine below_dn ?_ _ | refine Below.setCell ?_ (by simp <;> omega) _)))
set_option maxRecDepth 10000 in
set_option maxHeartbeats 400000 in
theorem impl_ValidCrate_16 (l : List Nat) (hl : l.length = 16) (w : World) : Calls Try.prog 55 #[.agg (crateCells 16 l)] w (Ret (.bool (slotsOk 16 l)) w) := by
  have HS : Hid (slotsOk 16 l = _) := Lib.hid (slots_parts hl (Nat.le_refl 16))
  have HL := Lib.hid hl; clear hl
  have HA := Lib.hid (areParts_n w.heap.size 1 16 16 (l.take 16) (by have := HL.out; simp; omega) (w.alloc (.cells (crateCells 16 l) 54)) (by omega) (fun j hj => by
    rw [ix_take hj]; exact (cell_of_row _ _ _ _ _ _ (ha1 _ _)).trans (crateCells_at (by rw [HL.out]; omega))))
  have HC := Lib.hid (contains_n w.heap.size 1 0 0 (l.drop 16) (by have := HL.out; simp; omega) (w.alloc (.cells (crateCells 16 l) 54)) (by omega) (fun j hj => absurd hj (by omega)))
  obtain ⟨A, hA⟩ : ∃ A : Bool, (l.take 16).all isPart = A := ⟨_, rfl⟩
  obtain ⟨B, hB⟩ : ∃ B : Bool, ((l.drop 16).any fun x => !sameN x 0) = B := ⟨_, rfl⟩
  rw [hA, hB] at HS
  rw [hA] at HA
  rw [hB] at HC
  clear hA hB
  have hs1 : ∀ W, (Instr.sliceAt 49 (.pointer (some ⟨w.heap.size, 1, none⟩)) none (some (.int .i8 16)) none).run Try.prog W = .ok (.slice (some ⟨w.heap.size, 1, none⟩) 16 16) W := sl_hi w.heap.size 1 16 (Nat.le_refl 16)
  have hs2 := sl_lo16 w.heap.size 1
  go_enter Try.func55, Try.ntmps55
  go_wp2_with (first | (go_at_call 73; ((with_reducible refine (impl_within _ _ _ _).mono ?_); rintro e w' ⟨rfl, rfl⟩)) | (go_at_call 75; ((with_reducible refine (HA.out).mono ?_); rintro e w' ⟨rfl, rfl⟩)) | (go_at_call 76; ((with_reducible refine (HC.out).mono ?_); rintro e w' ⟨rfl, rfl⟩)))
  all_goals (go_ret; refine ⟨by rw [HS.out]; simp_all, ?_⟩; (repeat (first | exact Below.refl _ _ | assumption | refine below_new ?_ _ | refine below_step ?_ (by assumption) | refine Below.drew ?_ | refine below_dn ?_ _ | refine Below.setCell ?_ (by simp <;> omega) _)))
theorem impl_ValidCrate_out (n : Int) (h1 : -128 ≤ n) (h2 : n ≤ 127) (hn : ¬ (0 ≤ n ∧ n ≤ 16)) (l : List Nat) (w : World) : Calls Try.prog 55 #[.agg (crateCells n l)] w (Ret (.bool false) w) := by
  have d1 : (decide (0 ≤ n) && decide (n ≤ 16)) = false := by simp; omega
  clear hn
  go_enter Try.func55, Try.ntmps55
  go_wp2_with (go_at_call 73; ((with_reducible refine (impl_within _ _ _ _).mono ?_); rintro e w' ⟨rfl, rfl⟩; rw [d1]))
  go_ret; refine ⟨rfl, ?_⟩; (repeat (first | exact Below.refl _ _ | assumption | refine below_new ?_ _ | refine below_step ?_ (by assumption) | refine Below.drew ?_ | refine below_dn ?_ _ | refine Below.setCell ?_ (by simp <;> omega) _))
theorem impl_ValidCrate (n : Int) (l : List Nat) (hl : l.length = 16) (w : World) (h1 : -128 ≤ n) (h2 : n ≤ 127) : Calls Try.prog 55 #[.agg (crateCells n l)] w (Ret (.bool (validCrate n l)) w) := by
  by_cases hn : 0 ≤ n ∧ n ≤ 16
  · have d1 : (decide (0 ≤ n) && decide (n ≤ 16)) = true := by simp; omega
    unfold validCrate; rw [d1]
    obtain ⟨k, rfl⟩ : ∃ k : Nat, n = k := ⟨n.toNat, by omega⟩
    by_cases hk : k < 16
    · exact impl_ValidCrate_in k hk l hl w
    · have : k = 16 := by omega
      subst this; exact impl_ValidCrate_16 l hl w
  · have d1 : (decide (0 ≤ n) && decide (n ≤ 16)) = false := by simp; omega
    unfold validCrate; rw [d1]
    exact impl_ValidCrate_out n h1 h2 hn l w
end Go.Proofs.Ytejipgofbefbjaa
