/-
  CONTRACTS: coolers: one step, asked from outside.
-/
import Derived.Test.YtldbpmpjfiglaaaCool
set_option linter.unusedVariables false
set_option linter.unusedSimpArgs false
namespace Go.Proofs.Ytldbpmpjfiglaaa
open Go.RowKit Go.FV

def coolerB (l h p k : Nat) : Bool := isPart l && isPart h && isPart p && isPart k && fle l h
def asked (V P : Bool) : Int := if V then (if P then 0 else 2) else 1
theorem coolerB_upto {l h p k : Nat} (hv : coolerB l h p k = true) (hp : p < 4294967296) (hk : k < 4294967296) : FL.upto 1 p ∧ FL.upto 1 k := by
  unfold coolerB at hv
  simp only [Bool.and_eq_true] at hv
  exact ⟨part_upto hv.1.1.2 (fin_part hv.1.1.2 hp), part_upto hv.1.2 (fin_part hv.1.2 hk)⟩
theorem upto_two {x : Nat} (h : FL.upto 1 x) : FL.upto 2 x := ⟨h.1, h.2.1, Int.le_trans h.2.2 (by decide)⟩
theorem spec_l02Cooled (b l h p k : Nat) (fine : Bool) (w : World) (c0 : w.cell? ⟨b, 0, none⟩ = some (.float .f32 l)) (c1 : w.cell? ⟨b, 1, none⟩ = some (.float .f32 h)) (c2 : w.cell? ⟨b, 2, none⟩ = some (.float .f32 p)) (c3 : w.cell? ⟨b, 3, none⟩ = some (.float .f32 k)) :
    Calls Try.prog 86 #[.pointer (some ⟨b, 0, none⟩), .bool fine] w (Ret (.int .i64 (asked (coolerB l h p k) fine)) w) := by
  have HC := Lib.hid (spec_l02Cooler b l h p k w c0 c1 c2 c3)
  have HD : Hid (coolerB l h p k = (isPart l && isPart h && isPart p && isPart k && fle l h)) := rfl
  rw [← HD.out] at HC
  obtain ⟨V, hV⟩ : ∃ V, coolerB l h p k = V := ⟨_, rfl⟩
  rw [hV] at HC ⊢
  clear hV HD c0 c1 c2 c3
  go_enter Try.func86, Try.ntmps86
  go_wp2_with (go_at_call 110; ((with_reducible refine (HC.out).mono ?_); rintro e w1 ⟨rfl, hb1⟩); obtain ⟨hc1, hf1⟩ := bcell hb1)
  all_goals (go_ret; refine ⟨by simp_all [asked], ?_⟩; (repeat (first | exact Below.refl _ _ | assumption | refine below_new ?_ _ | refine below_step ?_ (by assumption) | refine Below.drew ?_ | refine below_dn ?_ _ | refine Below.setCell ?_ (by simp <;> omega) _)))
set_option maxHeartbeats 1000000 in
theorem spec_CoolOnce (l h p k x o : Nat) (on : Bool) (bp : p < 4294967296) (bk : k < 4294967296) (bx : x < 4294967296) (bo : o < 4294967296) (w : World) :
    Calls Try.prog 39 #[.agg #[.float .f32 l, .float .f32 h, .float .f32 p, .float .f32 k], .float .f32 x, .float .f32 o, .bool on] w
      (Ret (.tuple #[.float .f32 (if coolerB l h p k && (isPart x && isPart o) then coolW l h p k o x on else 0), .bool (if coolerB l h p k && (isPart x && isPart o) then onB l h x on else false), .int .i64 (asked (coolerB l h p k) (isPart x && isPart o))]) w) := by
  have HC := Lib.hid (fun B => spec_l02Cooled w.heap.size l h p k B (w.alloc (.cells #[.float .f32 l, .float .f32 h, .float .f32 p, .float .f32 k] 62)) (by simp [go_sem]) (by simp [go_sem]) (by simp [go_sem]) (by simp [go_sem]))
  have HS : Hid (coolerB l h p k = true → isPart x = true → isPart o = true → ∀ w1, Below (w.alloc (.cells #[.float .f32 l, .float .f32 h, .float .f32 p, .float .f32 k] 62)).heap.size (w.alloc (.cells #[.float .f32 l, .float .f32 h, .float .f32 p, .float .f32 k] 62)) w1 →
      Calls Try.prog 87 #[.pointer (some ⟨w.heap.size, 0, none⟩), .float .f32 x, .float .f32 o, .bool on] w1 (Ret (.tuple #[.float .f32 (coolW l h p k o x on), .bool (onB l h x on)]) w1)) := by
    intro hv h1 h2 w1 hb1
    obtain ⟨u1, u2⟩ := coolerB_upto hv bp bk
    have hc := (bcell hb1).1
    exact l02Cool_any w.heap.size l h p k x o on u1 u2 (part_upto h2 (fin_part h2 bo)) (upto_two (part_upto h1 (fin_part h1 bx))) w1 (by rw [hc _ _ (by simp [go_sem])]; simp [go_sem]) (by rw [hc _ _ (by simp [go_sem])]; simp [go_sem]) (by rw [hc _ _ (by simp [go_sem])]; simp [go_sem]) (by rw [hc _ _ (by simp [go_sem])]; simp [go_sem])
  obtain ⟨V, hV⟩ : ∃ V, coolerB l h p k = V := ⟨_, rfl⟩
  obtain ⟨R, hR⟩ : ∃ R, coolW l h p k o x on = R := ⟨_, rfl⟩
  obtain ⟨N, hN⟩ : ∃ N, onB l h x on = N := ⟨_, rfl⟩
  have H1 := Lib.hid (fun w => spec_part x (isPart x) rfl w)
  have H2 := Lib.hid (fun w => spec_part o (isPart o) rfl w)
  obtain ⟨P, hP⟩ : ∃ P, isPart x = P := ⟨_, rfl⟩
  obtain ⟨Q, hQ⟩ : ∃ Q, isPart o = Q := ⟨_, rfl⟩
  rw [hV] at HC HS
  rw [hR, hN] at HS
  rw [hP] at H1 HS
  rw [hQ] at H2 HS
  rw [hV, hR, hN, hP, hQ]
  clear hV hR hN hP hQ bp bk bx bo
  cases V <;> cases P <;> cases Q
  all_goals
    go_enter Try.func39, Try.ntmps39
    go_wp2_with (first | (go_at_call 66; ((with_reducible refine (H1.out _).mono ?_); rintro e w' ⟨rfl, rfl⟩)) | (go_at_call 66; ((with_reducible refine (H2.out _).mono ?_); rintro e w' ⟨rfl, rfl⟩)) | (go_at_call 86; ((with_reducible refine (HC.out _).mono ?_); rintro e w1 ⟨rfl, hb1⟩); obtain ⟨hc1, hf1⟩ := bcell hb1) | (go_at_call 87; ((with_reducible refine (HS.out (by trivial) (by trivial) (by trivial) _ (by assumption)).mono ?_); rintro e w2 ⟨rfl, hb2⟩); obtain ⟨hc2, hf2⟩ := bcell hb2))
    all_goals (go_ret3; refine ⟨rfl, ?_⟩; (repeat (first | exact Below.refl _ _ | assumption | refine below_new ?_ _ | refine below_step ?_ (by assumption) | refine Below.drew ?_ | refine below_dn ?_ _ | refine Below.setCell ?_ (by simp <;> omega) _)))
set_option maxHeartbeats 1000000 in
theorem impl_CoolOnce (l h p k x o : Nat) (on : Bool) (bp : p < 4294967296) (bk : k < 4294967296) (bx : x < 4294967296) (bo : o < 4294967296) (w : World) :
    Calls Try.prog 41 #[.agg #[.float .f32 l, .float .f32 h, .float .f32 p, .float .f32 k], .float .f32 x, .float .f32 o, .bool on] w
      (Ret (.tuple #[.float .f32 (if coolerB l h p k && (isPart x && isPart o) then coolW l h p k o x on else 0), .bool (if coolerB l h p k && (isPart x && isPart o) then onB l h x on else false), .int .i64 (asked (coolerB l h p k) (isPart x && isPart o))]) w) := by
  have HC := Lib.hid (fun w => impl_ValidCooler l h p k w)
  have HD : Hid (coolerB l h p k = (isPart l && isPart h && isPart p && isPart k && fle l h)) := rfl
  simp only [← HD.out] at HC
  have HS : Hid (coolerB l h p k = true → (isPart x && isPart o) = true → ∀ w1, 
      Calls Try.prog 88 #[.agg #[.float .f32 l, .float .f32 h, .float .f32 p, .float .f32 k], .float .f32 x, .float .f32 o, .bool on] w1 (Ret (.tuple #[.float .f32 (coolW l h p k o x on), .bool (onB l h x on)]) w1)) := by
    intro hv h12 w1
    rw [Bool.and_eq_true] at h12
    obtain ⟨h1, h2⟩ := h12
    obtain ⟨u1, u2⟩ := coolerB_upto hv bp bk
    exact step_any l h p k x o on u1 u2 (part_upto h2 (fin_part h2 bo)) (upto_two (part_upto h1 (fin_part h1 bx))) w1
  have HA : Hid (∀ b c (w : World), w.cell? ⟨b, 0, none⟩ = some (.float .f32 x) → w.cell? ⟨b, 1, none⟩ = some (.float .f32 o) → Calls Try.prog 73 #[.slice (some ⟨b, 0, none⟩) 2 c] w fun e w' => e = .returned (.bool (isPart x && isPart o)) ∧ w = w') := by
    intro b c w h0 h1
    exact (areParts_n b 0 c 2 [x, o] rfl w (by decide) (by intro k hk; rcases (show k = 0 ∨ k = 1 from by omega) with rfl | rfl <;> simpa [ix])).mono fun e w' h => ⟨by rw [h.1]; simp, h.2⟩
  obtain ⟨V, hV⟩ : ∃ V, coolerB l h p k = V := ⟨_, rfl⟩
  obtain ⟨R, hR⟩ : ∃ R, coolW l h p k o x on = R := ⟨_, rfl⟩
  obtain ⟨N, hN⟩ : ∃ N, onB l h x on = N := ⟨_, rfl⟩
  obtain ⟨P, hP⟩ : ∃ P, (isPart x && isPart o) = P := ⟨_, rfl⟩
  rw [hV] at HC HS
  rw [hR, hN, hP] at HS
  rw [hP] at HA
  rw [hV, hR, hN, hP]
  clear hV hR hN hP bp bk bx bo HD
  cases V <;> cases P
  all_goals
    simp only [Bool.and_self, Bool.and_true, Bool.and_false, Bool.false_eq_true, ↓reduceIte]
    go_enter Try.func41, Try.ntmps41
    go_wp2_with fail; ((with_reducible refine (HC.out _).mono ?_); rintro e w1 ⟨rfl, hb1⟩); obtain ⟨hc1, hf1⟩ := bcell hb1
    have hz1 : w.heap.size < w1.heap.size := by (have := hb1.size; simp at this; omega)
    go_wp2_with (first | (go_at_call 73; ((with_reducible refine (HA.out _ _ _ (by simp [go_sem]) (by simp [go_sem])).mono ?_); rintro e w' ⟨rfl, rfl⟩)) | (go_at_call 88; ((with_reducible refine (HS.out (by trivial) (by trivial) _).mono ?_); rintro e w2 ⟨rfl, hb2⟩); obtain ⟨hc2, hf2⟩ := bcell hb2))
    all_goals (go_ret3; refine ⟨rfl, ?_⟩; (repeat (first | exact Below.refl _ _ | assumption | refine below_new ?_ _ | refine below_step ?_ (by assumption) | refine Below.drew ?_ | refine below_dn ?_ _ | refine Below.setCell ?_ (by simp <;> omega) _)))
/-! ### steps -/
/-- The warmth behind steps, and whether the cooler is on. -/
def coolP (l h p k o x : Nat) (on : Bool) : Nat → Nat × Bool
  | 0 => (x, on)
  | n + 1 => (coolW l h p k o (coolP l h p k o x on n).1 (coolP l h p k o x on n).2, onB l h (coolP l h p k o x on n).1 (coolP l h p k o x on n).2)
/-- How often it has been switched. -/
def coolC (l h p k o x : Nat) (on : Bool) : Nat → Nat
  | 0 => 0
  | n + 1 => if (coolP l h p k o x on (n + 1)).2 != (coolP l h p k o x on n).2 then coolC l h p k o x on n + 1 else coolC l h p k o x on n
theorem coolP_upto {l h p k o x : Nat} {on : Bool} (hp : FL.upto 1 p) (hk : FL.upto 1 k) (ho : FL.upto 1 o) (hx : FL.upto 2 x) : ∀ n, FL.upto 2 (coolP l h p k o x on n).1
  | 0 => hx
  | n + 1 => coolW_upto hp hk ho (coolP_upto hp hk ho hx n)
set_option maxHeartbeats 1000000 in
theorem steps_any (l h p k x o : Nat) (on : Bool) (hp : FL.upto 1 p) (hk : FL.upto 1 k) (ho : FL.upto 1 o) (hx : FL.upto 2 x) (n : Nat) (hn : n ≤ 200) (w : World) :
    Calls Try.prog 91 #[.agg #[.float .f32 l, .float .f32 h, .float .f32 p, .float .f32 k], .float .f32 x, .float .f32 o, .bool on, .int .i64 n] w
      (Ret (.tuple #[.float .f32 (coolP l h p k o x on n).1, .bool (coolP l h p k o x on n).2, .int .i64 (coolC l h p k o x on n)]) w) := by
  have HS := Lib.hid (fun j w => step_any l h p k (coolP l h p k o x on j).1 o (coolP l h p k o x on j).2 hp hk ho (coolP_upto hp hk ho hx j) w)
  obtain ⟨X, hX⟩ : ∃ X : Nat → Nat, ∀ j, (coolP l h p k o x on j).1 = X j := ⟨_, fun _ => rfl⟩
  obtain ⟨B, hB⟩ : ∃ B : Nat → Bool, ∀ j, (coolP l h p k o x on j).2 = B j := ⟨_, fun _ => rfl⟩
  obtain ⟨C, hC⟩ : ∃ C : Nat → Nat, ∀ j, coolC l h p k o x on j = C j := ⟨_, fun _ => rfl⟩
  have h1 : Hid (∀ j, coolW l h p k o (X j) (B j) = X (j + 1)) := fun j => by rw [← hX, ← hX, ← hB]; rfl
  have h2 : Hid (∀ j, onB l h (X j) (B j) = B (j + 1)) := fun j => by rw [← hX, ← hB, ← hB]; rfl
  have h3 : Hid (∀ j, C (j + 1) = if B (j + 1) != B j then C j + 1 else C j) := fun j => by rw [← hC, ← hC, ← hB, ← hB]; rfl
  have hX0 : Hid (X 0 = x) := (hX 0).symm
  have hB0 : Hid (B 0 = on) := (hB 0).symm
  have hC0 : Hid (C 0 = 0) := (hC 0).symm
  have hCn : Hid (∀ j, C j ≤ j) := fun j => by
    induction j with
    | zero => rw [hC0.out]; omega
    | succ j ih => rw [h3.out]; split <;> omega
  simp only [hX, hB, h1.out, h2.out] at HS
  rw [hX, hB, hC]
  clear hX hB hC hp hk ho hx h1 h2
  go_enter Try.func91, Try.ntmps91
  go_wp2
  go_loopw [1, 3, 13, 16] (fun a b c i wr => ∃ j : Nat, j ≤ n ∧ i = .int .i64 j ∧ a = .float .f32 (X j) ∧ b = .bool (B j) ∧ c = .int .i64 (C j) ∧ Below (w.alloc (.cells #[.float .f32 l, .float .f32 h, .float .f32 p, .float .f32 k] 62)).heap.size (w.alloc (.cells #[.float .f32 l, .float .f32 h, .float .f32 p, .float .f32 k] 62)) wr) (fun _ _ _ i _ => 200 - (intOf i).toNat)
  case atStart => exact ⟨0, by omega, rfl, by rw [hX0.out], by rw [hB0.out], by rw [hC0.out]; rfl, Below.refl _ _⟩
  case round =>
    obtain ⟨j, hj, rfl, rfl, rfl, rfl, hBl⟩ := hrel
    have hc := (bcell hBl).1
    have c0 : wr.cell? ⟨w.heap.size, 0, none⟩ = some (.float .f32 l) := by rw [hc _ _ (by simp [go_sem])]; simp [go_sem]
    have c1 : wr.cell? ⟨w.heap.size, 1, none⟩ = some (.float .f32 h) := by rw [hc _ _ (by simp [go_sem])]; simp [go_sem]
    have c2 : wr.cell? ⟨w.heap.size, 2, none⟩ = some (.float .f32 p) := by rw [hc _ _ (by simp [go_sem])]; simp [go_sem]
    have c3 : wr.cell? ⟨w.heap.size, 3, none⟩ = some (.float .f32 k) := by rw [hc _ _ (by simp [go_sem])]; simp [go_sem]
    have hcj := hCn.out j
    have h3j := h3.out j
    clear hc
    by_cases hlt : j < n
    · cases hb1 : B j <;> cases hb2 : B (j + 1)
      all_goals
        rw [hb1, hb2] at h3j
        simp at h3j
        have HSj := Lib.hid (HS.out j)
        rw [hb1, hb2] at HSj
        go_wp2_with ((go_at_call 88; ((with_reducible refine (HSj.out _).mono ?_); rintro e w9 ⟨rfl, hb9⟩); obtain ⟨hc9, hf9⟩ := bcell hb9))
        go_roundw
        case rel => exact ⟨j + 1, by omega, by go_num, rfl, by rw [hb2], by rw [h3j] <;> first | rfl | (push_cast; rfl), below_step hBl hb9⟩
        case measure => simp [intOf]; omega
    · have : j = n := by omega
      subst this
      go_wp2
      refine bodyPost_ret (results_tmp3 rfl _ _ _) rfl ⟨rfl, ?_⟩
      exact (below_new (Below.refl _ _) _).trans (hBl.mono (by simp))
end Go.Proofs.Ytldbpmpjfiglaaa
