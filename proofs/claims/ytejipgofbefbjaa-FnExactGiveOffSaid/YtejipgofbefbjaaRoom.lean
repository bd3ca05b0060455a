/-
  CONTRACTS of the functions on rooms.
-/
import Derived.Test.YtejipgofbefbjaaLeaf
set_option linter.unusedVariables false
set_option linter.unusedSimpArgs false
namespace Go.Proofs.Ytejipgofbefbjaa
open Go.RowKit Go.FV

set_option maxHeartbeats 1600000 in
theorem toByteA6_any (v0 v1 v2 v3 v4 v5 : Int) (w : World) : Calls Try.prog 44 #[.agg #[.int .u8 v0, .int .u8 v1, .int .u8 v2, .int .u8 v3, .int .u8 v4, .int .u8 v5]] w fun e w' => e = .returned (.agg #[.int .u8 v0, .int .u8 v1, .int .u8 v2, .int .u8 v3, .int .u8 v4, .int .u8 v5]) ∧ ((w.alloc (.cells #[.int .u8 v0, .int .u8 v1, .int .u8 v2, .int .u8 v3, .int .u8 v4, .int .u8 v5] 30)).alloc (.cells #[.int .u8 v0, .int .u8 v1, .int .u8 v2, .int .u8 v3, .int .u8 v4, .int .u8 v5] 30)).alloc (.cells #[.int .u8 v0, .int .u8 v1, .int .u8 v2, .int .u8 v3, .int .u8 v4, .int .u8 v5] 30) = w' := by
  go_enter Try.func44, Try.ntmps44
  go_wp2
  refine wp_loop_rounds 7 ?_
  iterate 7 (rw [rounds_succ]; go_wp2)
  refine bodyPost_ret (v := .agg #[.int .u8 v0, .int .u8 v1, .int .u8 v2, .int .u8 v3, .int .u8 v4, .int .u8 v5]) (by simp [results, Try.results44, go_sem]) rfl ⟨rfl, rfl⟩
set_option maxHeartbeats 1600000 in
theorem toRoom_any (a b : Int) (f : Nat) (v0 v1 v2 v3 v4 v5 : Int) (w : World) : Calls Try.prog 17 #[.agg #[.int .i8 a, .int .i8 b, .float .f32 f, .int .u8 v0, .int .u8 v1, .int .u8 v2, .int .u8 v3, .int .u8 v4, .int .u8 v5]] w (Ret (.agg #[.int .i8 a, .int .i8 b, .float .f32 f, .int .u8 v0, .int .u8 v1, .int .u8 v2, .int .u8 v3, .int .u8 v4, .int .u8 v5]) w) := by
  go_enter Try.func17, Try.ntmps17
  go_wp2_with fail; ((with_reducible refine (toByteA6_any _ _ _ _ _ _ _).mono ?_); rintro e w' ⟨rfl, rfl⟩)
  go_wp2
  refine bodyPost_ret (v := .agg #[.int .i8 a, .int .i8 b, .float .f32 f, .int .u8 v0, .int .u8 v1, .int .u8 v2, .int .u8 v3, .int .u8 v4, .int .u8 v5]) (by simp [results, Try.results17, go_sem]) rfl ⟨rfl, ?_⟩
  (repeat (first | exact Below.refl _ _ | assumption | refine below_new ?_ _ | refine below_step ?_ (by assumption) | refine Below.drew ?_ | refine below_dn ?_ _ | refine Below.setCell ?_ (by simp <;> omega) _))
def sameRoom (a b : Int) (f : Nat) (v0 v1 v2 v3 v4 v5 : Int) (a' b' : Int) (f' : Nat) (u0 u1 u2 u3 u4 u5 : Int) : Bool := a == a' && b == b' && (v0 == u0 && v1 == u1 && v2 == u2 && v3 == u3 && v4 == u4 && v5 == u5) && sameN f f'

/-! ### valid rooms -/
def ixI (l : List Int) (k : Nat) : Int := l.getD k 0
/-- A row of vents fits a room. -/
def rowOk (a b : Int) (k : Nat) (v : Int) : Prop := (b ≤ (k : Int) → v = 0) ∧ v / 2 ^ a.toNat = 0
instance (a b : Int) (k : Nat) (v : Int) : Decidable (rowOk a b k v) := by unfold rowOk; infer_instance
def hdrOk (a b : Int) (f : Nat) : Bool := ((decide (1 ≤ a) && decide (a ≤ 6)) && (decide (1 ≤ b) && decide (b ≤ 6))) && ((ord f 0 == some .gt || ord f 0 == some .eq) && (ord f 1040187392 == some .lt || ord f 1040187392 == some .eq))
def rowsOk (a b : Int) (l : List Int) : Bool := (List.range 6).all fun k => decide (rowOk a b k (ixI l k))
def validRoom (a b : Int) (f : Nat) (l : List Int) : Bool := hdrOk a b f && rowsOk a b l
theorem rowsOk_no {a b : Int} {l : List Int} {k : Nat} (hk : k < 6) (h : ¬ rowOk a b k (ixI l k)) : rowsOk a b l = false := by
  unfold rowsOk
  rw [List.all_eq_false]
  exact ⟨k, by simpa using hk, by simpa using h⟩
theorem rowsOk_yes {a b : Int} {l : List Int} (h : ∀ k, k < 6 → rowOk a b k (ixI l k)) : rowsOk a b l = true := by
  unfold rowsOk
  rw [List.all_eq_true]
  exact fun k hk => by simpa using h k (by simpa using hk)
theorem impl_isAcross (a : Int) (h1 : -128 ≤ a) (h2 : a ≤ 127) (w : World) : Calls Try.prog 72 #[.int .i8 a] w fun e w' => e = .returned (.bool (decide (1 ≤ a) && decide (a ≤ 6))) ∧ w = w' := by
  go_enter Try.func72, Try.ntmps72
  go_wp2_with (go_at_call 73; ((with_reducible refine (impl_within _ _ _ _).mono ?_); rintro e w' ⟨rfl, rfl⟩))
  go_ret; exact ⟨rfl, rfl⟩
theorem spec_l02Across (a : Int) (w : World) : Calls Try.prog 86 #[.int .i64 a] w fun e w' => e = .returned (.bool (decide (1 ≤ a) && decide (a ≤ 6))) ∧ w = w' := by
  go_enter Try.func86, Try.ntmps86
  go_wp2_with (go_at_call 82; ((with_reducible refine (spec_l00In _ _ _ _).mono ?_); rintro e w' ⟨rfl, rfl⟩))
  go_ret; exact ⟨rfl, rfl⟩
theorem index_A6 (v0 v1 v2 v3 v4 v5 : Int) (k : Nat) (hk : k < 6) (w : World) : (Instr.index 30 (.agg #[.int .u8 v0, .int .u8 v1, .int .u8 v2, .int .u8 v3, .int .u8 v4, .int .u8 v5]) (.int .i64 k)).run Try.prog w = .ok (.int .u8 (ixI [v0, v1, v2, v3, v4, v5] k)) w := by
  rcases (show k = 0 ∨ k = 1 ∨ k = 2 ∨ k = 3 ∨ k = 4 ∨ k = 5 from by omega) with rfl | rfl | rfl | rfl | rfl | rfl <;> kernel_rfl
set_option maxHeartbeats 1600000 in
theorem impl_ValidRoom_good (a b : Int) (f : Nat) (v0 v1 v2 v3 v4 v5 : Int) (w : World) (ha : 1 ≤ a) (ha' : a ≤ 6) (hb : 1 ≤ b) (hb' : b ≤ 6) (hf1 : (ord f 0 == some .gt || ord f 0 == some .eq) = true) (hf2 : (ord f 1040187392 == some .lt || ord f 1040187392 == some .eq) = true) : Calls Try.prog 45 #[.agg #[.int .i8 a, .int .i8 b, .float .f32 f, .int .u8 v0, .int .u8 v1, .int .u8 v2, .int .u8 v3, .int .u8 v4, .int .u8 v5]] w (Ret (.bool (rowsOk a b [v0, v1, v2, v3, v4, v5])) w) := by
  have d1 : (decide (1 ≤ a) && decide (a ≤ 6)) = true := by simp; omega
  have d2 : (decide (1 ≤ b) && decide (b ≤ 6)) = true := by simp; omega
  go_enter Try.func45, Try.ntmps45
  go_wp2_with (first | (go_at_call 72; ((with_reducible refine (impl_isAcross a (by omega) (by omega) _).mono ?_); rintro e w' ⟨rfl, rfl⟩; rw [d1])) | (go_at_call 72; ((with_reducible refine (impl_isAcross b (by omega) (by omega) _).mono ?_); rintro e w' ⟨rfl, rfl⟩; rw [d2])))
  go_loop [28] (fun i => ∃ k : Nat, k ≤ 6 ∧ i = .int .i64 k ∧ ∀ j, j < k → rowOk a b j (ixI [v0, v1, v2, v3, v4, v5] j)) (fun i => 6 - (intOf i).toNat)
  case atStart => exact ⟨0, by omega, rfl, fun j hj => absurd hj (by omega)⟩
  case round =>
    obtain ⟨k, hk, rfl, hrel⟩ := hrel
    have HR := Lib.hid hrel; clear hrel
    have hix : (k : Int) < 6 → ∀ w, (Instr.index 30 (.agg #[.int .u8 v0, .int .u8 v1, .int .u8 v2, .int .u8 v3, .int .u8 v4, .int .u8 v5]) (.int .i64 k)).run Try.prog w = .ok (.int .u8 (ixI [v0, v1, v2, v3, v4, v5] k)) w := fun h w => index_A6 v0 v1 v2 v3 v4 v5 k (by omega) w
    go_wp2
    all_goals first
      | (go_round
         case rel => exact ⟨k + 1, by omega, by go_num, fun j hj => by
           by_cases e : j = k
           · subst e; clear hix; simp_all [rowOk] <;> omega
           · exact HR.out j (by omega)⟩
         case measure => simp [intOf]; omega)
      | (go_ret
         refine ⟨by first | (rw [rowsOk_no (k := k) (by omega) (by clear hix; simp_all [rowOk])]; rfl) | (rw [rowsOk_yes (fun j hj => HR.out j (by omega))]; rfl), ?_⟩
         (repeat (first | exact Below.refl _ _ | assumption | refine below_new ?_ _ | refine below_step ?_ (by assumption) | refine Below.drew ?_ | refine below_dn ?_ _ | refine Below.setCell ?_ (by simp <;> omega) _)))
set_option maxHeartbeats 1600000 in
theorem impl_ValidRoom_bad (a b : Int) (f : Nat) (v0 v1 v2 v3 v4 v5 : Int) (w : World) (h1 : -128 ≤ a) (h2 : a ≤ 127) (h3 : -128 ≤ b) (h4 : b ≤ 127) (h : hdrOk a b f = false) : Calls Try.prog 45 #[.agg #[.int .i8 a, .int .i8 b, .float .f32 f, .int .u8 v0, .int .u8 v1, .int .u8 v2, .int .u8 v3, .int .u8 v4, .int .u8 v5]] w (Ret (.bool false) w) := by
  have H := Lib.hid h; clear h
  go_enter Try.func45, Try.ntmps45
  go_wp2_with (first | (go_at_call 72; ((with_reducible refine (impl_isAcross a (by omega) (by omega) _).mono ?_); rintro e w' ⟨rfl, rfl⟩)) | (go_at_call 72; ((with_reducible refine (impl_isAcross b (by omega) (by omega) _).mono ?_); rintro e w' ⟨rfl, rfl⟩)))
  all_goals first
    | (go_ret; refine ⟨rfl, ?_⟩; (repeat (first | exact Below.refl _ _ | assumption | refine below_new ?_ _ | refine below_step ?_ (by assumption) | refine Below.drew ?_ | refine below_dn ?_ _ | refine Below.setCell ?_ (by simp <;> omega) _)))
    | (exfalso; have h := H.out; clear H; simp_all [hdrOk])
theorem impl_ValidRoom (a b : Int) (f : Nat) (v0 v1 v2 v3 v4 v5 : Int) (w : World) (h1 : -128 ≤ a) (h2 : a ≤ 127) (h3 : -128 ≤ b) (h4 : b ≤ 127) : Calls Try.prog 45 #[.agg #[.int .i8 a, .int .i8 b, .float .f32 f, .int .u8 v0, .int .u8 v1, .int .u8 v2, .int .u8 v3, .int .u8 v4, .int .u8 v5]] w (Ret (.bool (validRoom a b f [v0, v1, v2, v3, v4, v5])) w) := by
  unfold validRoom
  cases h : hdrOk a b f
  · exact impl_ValidRoom_bad a b f v0 v1 v2 v3 v4 v5 w h1 h2 h3 h4 h
  · simp only [hdrOk, Bool.and_eq_true, decide_eq_true_eq] at h
    exact impl_ValidRoom_good a b f v0 v1 v2 v3 v4 v5 w h.1.1.1 h.1.1.2 h.1.2.1 h.1.2.2 h.2.1 h.2.2
set_option maxHeartbeats 1600000 in
theorem spec_l02Room_good (B : Nat) (a b : Int) (f : Nat) (l : List Int) (w : World) (ha : 1 ≤ a) (ha' : a ≤ 6) (hb : 1 ≤ b) (hb' : b ≤ 6) (hf1 : (ord f 0 == some .gt || ord f 0 == some .eq) = true) (hf2 : (ord f 1040187392 == some .lt || ord f 1040187392 == some .eq) = true)
    (c0 : w.cell? ⟨B, 0, none⟩ = some (.int .i8 a)) (c1 : w.cell? ⟨B, 1, none⟩ = some (.int .i8 b)) (c2 : w.cell? ⟨B, 2, none⟩ = some (.float .f32 f)) (cv : ∀ k : Nat, k < 6 → w.cell? ⟨B, 3 + k, none⟩ = some (.int .u8 (ixI l k))) (hv : ∀ k : Nat, 0 ≤ ixI l k ∧ ixI l k ≤ 255) :
    Calls Try.prog 70 #[.pointer (some ⟨B, 0, none⟩)] w (Ret (.bool (rowsOk a b l)) w) := by
  have d1 : (decide (1 ≤ a) && decide (a ≤ 6)) = true := by simp; omega
  have d2 : (decide (1 ≤ b) && decide (b ≤ 6)) = true := by simp; omega
  have CV := Lib.hid cv; clear cv
  have HV := Lib.hid hv; clear hv
  go_enter Try.func70, Try.ntmps70
  go_wp2_with (first | (go_at_call 86; ((with_reducible refine (spec_l02Across a _).mono ?_); rintro e w' ⟨rfl, rfl⟩; rw [d1])) | (go_at_call 86; ((with_reducible refine (spec_l02Across b _).mono ?_); rintro e w' ⟨rfl, rfl⟩; rw [d2])))
  go_loopw [3] (fun i wr => ∃ k : Nat, k ≤ 6 ∧ i = .int .i64 k ∧ (∃ n, wr = w.drewN n) ∧ ∀ j, j < k → rowOk a b j (ixI l j)) (fun i _ => 6 - (intOf i).toNat)
  case atStart => exact ⟨0, by omega, rfl, ⟨0, rfl⟩, fun j hj => absurd hj (by omega)⟩
  case round =>
    obtain ⟨k, hk, rfl, ⟨n, rfl⟩, hrel⟩ := hrel
    have HR := Lib.hid hrel; clear hrel
    have hv0 := (HV.out k).1
    have hv1 := (HV.out k).2
    by_cases hlt : (k : Int) < 6
    · have cvk := CV.out k (by omega)
      cases hA : (ixI l k / 2 ^ a.toNat != 0)
      · by_cases hB : b ≤ (k : Int)
        all_goals
          first
          | have hd : decide (b ≤ (k : Int)) = true := by simpa using hB
          | have hd : decide (b ≤ (k : Int)) = false := by simpa using hB
          go_wp2
          go_quiet (fail)
          go_wp2
          all_goals first
            | (go_roundw
               case rel => exact ⟨k + 1, by omega, by go_num, ⟨_, rfl⟩, fun j hj => by
                 by_cases e : j = k
                 · subst e; simp_all [rowOk] <;> omega
                 · exact HR.out j (by omega)⟩
               case measure => simp [intOf]; omega)
            | (go_ret; exact ⟨by rw [rowsOk_no (k := k) (by omega) (by simp_all [rowOk])]; rfl, below_dn (bdrew _) _⟩)
      · go_wp2
        go_quiet (fail)
        go_wp2
        go_ret
        exact ⟨by rw [rowsOk_no (k := k) (by omega) (by simp_all [rowOk])]; rfl, below_dn (bdrew _) _⟩
    · go_wp2
      go_ret
      exact ⟨by rw [rowsOk_yes (fun j hj => HR.out j (by omega))]; rfl, bdrew _⟩
set_option maxHeartbeats 1600000 in
theorem spec_l02Room_bad (B : Nat) (a b : Int) (f : Nat) (w : World) (h1 : -128 ≤ a) (h2 : a ≤ 127) (h3 : -128 ≤ b) (h4 : b ≤ 127) (h : hdrOk a b f = false)
    (c0 : w.cell? ⟨B, 0, none⟩ = some (.int .i8 a)) (c1 : w.cell? ⟨B, 1, none⟩ = some (.int .i8 b)) (c2 : w.cell? ⟨B, 2, none⟩ = some (.float .f32 f)) :
    Calls Try.prog 70 #[.pointer (some ⟨B, 0, none⟩)] w (Ret (.bool false) w) := by
  have H := Lib.hid h; clear h
  go_enter Try.func70, Try.ntmps70
  go_wp2_with (go_at_call 86; ((with_reducible refine (spec_l02Across _ _).mono ?_); rintro e w' ⟨rfl, rfl⟩))
  all_goals first
    | (go_ret; refine ⟨rfl, ?_⟩; (repeat (first | exact Below.refl _ _ | assumption | refine below_new ?_ _ | refine below_step ?_ (by assumption) | refine Below.drew ?_ | refine below_dn ?_ _ | refine Below.setCell ?_ (by simp <;> omega) _)))
    | (exfalso; have h := H.out; clear H; simp_all [hdrOk])
theorem spec_l02Room (B : Nat) (a b : Int) (f : Nat) (l : List Int) (w : World) (h1 : -128 ≤ a) (h2 : a ≤ 127) (h3 : -128 ≤ b) (h4 : b ≤ 127)
    (c0 : w.cell? ⟨B, 0, none⟩ = some (.int .i8 a)) (c1 : w.cell? ⟨B, 1, none⟩ = some (.int .i8 b)) (c2 : w.cell? ⟨B, 2, none⟩ = some (.float .f32 f)) (cv : ∀ k : Nat, k < 6 → w.cell? ⟨B, 3 + k, none⟩ = some (.int .u8 (ixI l k))) (hv : ∀ k : Nat, 0 ≤ ixI l k ∧ ixI l k ≤ 255) :
    Calls Try.prog 70 #[.pointer (some ⟨B, 0, none⟩)] w (Ret (.bool (validRoom a b f l)) w) := by
  unfold validRoom
  cases h : hdrOk a b f
  · exact spec_l02Room_bad B a b f w h1 h2 h3 h4 h c0 c1 c2
  · simp only [hdrOk, Bool.and_eq_true, decide_eq_true_eq] at h
    exact spec_l02Room_good B a b f l w h.1.1.1 h.1.1.2 h.1.2.1 h.1.2.2 h.2.1 h.2.2 c0 c1 c2 cv hv
end Go.Proofs.Ytejipgofbefbjaa
