/-
  CONTRACTS: coolers: many steps, asked from outside.
-/
import Derived.Test.YtldbpmpjfiglaaaSteps
set_option linter.unusedVariables false
set_option linter.unusedSimpArgs false
namespace Go.Proofs.Ytldbpmpjfiglaaa
open Go.RowKit Go.FV

theorem results_tmp4 {fn : Func} {t u v x : Tmp} (h : fn.results = #[.tmp t, .tmp u, .tmp v, .tmp x]) (tmps : Array Value) (P : Program) (w : World) :
    (results fn tmps).run P w = .ok (.tuple #[tmps.getD t undef, tmps.getD u undef, tmps.getD v undef, tmps.getD x undef]) w := by
  simp [results, h]
def stepsB (n : Int) : Bool := decide (0 ≤ n) && decide (n ≤ 200)
theorem stepsB_nat {n : Int} (h : stepsB n = true) : ∃ m : Nat, n = m ∧ m ≤ 200 := by
  unfold stepsB at h
  simp only [Bool.and_eq_true, decide_eq_true_eq] at h
  exact ⟨n.toNat, by omega, by omega⟩
theorem spec_l02Steps (n : Int) (w : World) : Calls Try.prog 89 #[.int .i64 n] w fun e w' => e = .returned (.bool (stepsB n)) ∧ w = w' := by
  go_enter Try.func89, Try.ntmps89
  go_wp2_with (go_at_call 102; ((with_reducible refine (spec_l00In _ _ _ _).mono ?_); rintro e w' ⟨rfl, rfl⟩))
  go_ret; exact ⟨rfl, rfl⟩
theorem impl_isSteps (n : Int) (w : World) : Calls Try.prog 90 #[.int .i64 n] w fun e w' => e = .returned (.bool (stepsB n)) ∧ w = w' := by
  go_enter Try.func90, Try.ntmps90
  go_wp2_with (go_at_call 83; ((with_reducible refine (impl_within _ _ _ _).mono ?_); rintro e w' ⟨rfl, rfl⟩))
  go_ret; exact ⟨rfl, rfl⟩
def warmX (l h p k o x : Nat) (on : Bool) (n : Int) (V F : Bool) : Nat := if V && F then (coolP l h p k o x on n.toNat).1 else 0
def onX (l h p k o x : Nat) (on : Bool) (n : Int) (V F : Bool) : Bool := if V && F then (coolP l h p k o x on n.toNat).2 else false
def countX (l h p k o x : Nat) (on : Bool) (n : Int) (V F : Bool) : Int := if V && F then (coolC l h p k o x on n.toNat : Nat) else 0
set_option maxRecDepth 100000 in
set_option maxHeartbeats 2000000 in
theorem spec_CoolSteps (l h p k x o : Nat) (on : Bool) (n : Int) (bp : p < 4294967296) (bk : k < 4294967296) (bx : x < 4294967296) (bo : o < 4294967296) (w : World) :
    Calls Try.prog 44 #[.agg #[.float .f32 l, .float .f32 h, .float .f32 p, .float .f32 k], .float .f32 x, .float .f32 o, .bool on, .int .i64 n] w
      (Ret (.tuple #[.float .f32 (warmX l h p k o x on n (coolerB l h p k) (isPart x && isPart o && stepsB n)), .bool (onX l h p k o x on n (coolerB l h p k) (isPart x && isPart o && stepsB n)), .int .i64 (countX l h p k o x on n (coolerB l h p k) (isPart x && isPart o && stepsB n)), .int .i64 (asked (coolerB l h p k) (isPart x && isPart o && stepsB n))]) w) := by
  have HC := Lib.hid (fun B => spec_l02Cooled w.heap.size l h p k B (w.alloc (.cells #[.float .f32 l, .float .f32 h, .float .f32 p, .float .f32 k] 62)) (by simp [go_sem]) (by simp [go_sem]) (by simp [go_sem]) (by simp [go_sem]))
  have H1 := Lib.hid (fun w => spec_part x (isPart x) rfl w)
  have H2 := Lib.hid (fun w => spec_part o (isPart o) rfl w)
  have H3 := Lib.hid (fun w => spec_l02Steps n w)
  by_cases hall : coolerB l h p k = true ∧ isPart x = true ∧ isPart o = true ∧ stepsB n = true
  · obtain ⟨hV, hP, hQ, hS⟩ := hall
    obtain ⟨hp, hk⟩ := coolerB_upto hV bp bk
    have ho := part_upto hQ (fin_part hQ bo)
    have hx := upto_two (part_upto hP (fin_part hP bx))
    obtain ⟨n, rfl, hn⟩ := stepsB_nat hS
    rw [hV] at HC
    rw [hP] at H1
    rw [hQ] at H2
    rw [hS] at H3
    rw [hV, hP, hQ, hS]
    have HS := Lib.hid (fun j w c0 c1 c2 c3 => l02Cool_any w.heap.size l h p k (coolP l h p k o x on j).1 o (coolP l h p k o x on j).2 hp hk ho (coolP_upto hp hk ho hx j) w c0 c1 c2 c3)
    have HS := Lib.hid (fun b j w c0 c1 c2 c3 => l02Cool_any b l h p k (coolP l h p k o x on j).1 o (coolP l h p k o x on j).2 hp hk ho (coolP_upto hp hk ho hx j) w c0 c1 c2 c3)
    have hR : Hid (warmX l h p k o x on n true (true && true && true) = (coolP l h p k o x on n).1 ∧ onX l h p k o x on n true (true && true && true) = (coolP l h p k o x on n).2 ∧ countX l h p k o x on n true (true && true && true) = (coolC l h p k o x on n : Nat)) := ⟨rfl, rfl, rfl⟩
    rw [hR.out.1, hR.out.2.1, hR.out.2.2]
    clear hR
    obtain ⟨X, hX⟩ : ∃ X : Nat → Nat, ∀ j, (coolP l h p k o x on j).1 = X j := ⟨_, fun _ => rfl⟩
    obtain ⟨B, hB⟩ : ∃ B : Nat → Bool, ∀ j, (coolP l h p k o x on j).2 = B j := ⟨_, fun _ => rfl⟩
    obtain ⟨C, hC⟩ : ∃ C : Nat → Nat, ∀ j, coolC l h p k o x on j = C j := ⟨_, fun _ => rfl⟩
    have h1 : Hid (∀ j, coolW l h p k o (X j) (B j) = X (j + 1)) := fun j => by rw [← hX, ← hX, ← hB]; rfl
    have h2 : Hid (∀ j, onB l h (X j) (B j) = B (j + 1)) := fun j => by rw [← hX, ← hB, ← hB]; rfl
    have h3 : Hid (∀ j, C (j + 1) = if B (j + 1) != B j then C j + 1 else C j) := fun j => by rw [← hC, ← hC, ← hB, ← hB]; rfl
    have hX0 : Hid (X 0 = x) := (hX 0).symm
    have hB0 : Hid (B 0 = on) := (hB 0).symm
    have hC0 : Hid (C 0 = 0) := (hC 0).symm
    have hCn : Hid (∀ j, C j ≤ j) := fun j => by
      induction j with
      | zero => rw [hC0.out]; omega
      | succ j ih => rw [h3.out]; split <;> omega
    simp only [hX, hB, h1.out, h2.out] at HS
    rw [hX, hB, hC]
    clear hX hB hC hp hk ho hx h1 h2 hV hP hQ hS bp bk bx bo
    go_enter Try.func44, Try.ntmps44
    go_wp2_with (first | (go_at_call 66; ((with_reducible refine (H1.out _).mono ?_); rintro e w' ⟨rfl, rfl⟩)) | (go_at_call 66; ((with_reducible refine (H2.out _).mono ?_); rintro e w' ⟨rfl, rfl⟩)) | (go_at_call 89; ((with_reducible refine (H3.out _).mono ?_); rintro e w' ⟨rfl, rfl⟩)) | (go_at_call 86; ((with_reducible refine (HC.out _).mono ?_); rintro e w1 ⟨rfl, hb1⟩); obtain ⟨hc1, hf1⟩ := bcell hb1))
    have hsz1 : w.heap.size < w1.heap.size := by have := hb1.size; simp at this; omega
    go_loopw [1, 3, 15, 16] (fun a b c i wr => ∃ j : Nat, j ≤ n ∧ i = .int .i64 j ∧ a = .float .f32 (X j) ∧ b = .bool (B j) ∧ c = .int .i64 (C j) ∧ Below (w.alloc (.cells #[.float .f32 l, .float .f32 h, .float .f32 p, .float .f32 k] 62)).heap.size (w.alloc (.cells #[.float .f32 l, .float .f32 h, .float .f32 p, .float .f32 k] 62)) wr) (fun _ _ _ i _ => 200 - (intOf i).toNat)
    case atStart => exact ⟨0, by omega, rfl, by rw [hX0.out], by rw [hB0.out], by rw [hC0.out]; rfl, hb1⟩
    case round =>
      obtain ⟨j, hj, rfl, rfl, rfl, rfl, hBl⟩ := hrel
      have hc := (bcell hBl).1
      have c0 : wr.cell? ⟨w.heap.size, 0, none⟩ = some (.float .f32 l) := by rw [hc _ _ (by simp [go_sem])]; simp [go_sem]
      have c1 : wr.cell? ⟨w.heap.size, 1, none⟩ = some (.float .f32 h) := by rw [hc _ _ (by simp [go_sem])]; simp [go_sem]
      have c2 : wr.cell? ⟨w.heap.size, 2, none⟩ = some (.float .f32 p) := by rw [hc _ _ (by simp [go_sem])]; simp [go_sem]
      have c3 : wr.cell? ⟨w.heap.size, 3, none⟩ = some (.float .f32 k) := by rw [hc _ _ (by simp [go_sem])]; simp [go_sem]
      have hcj := hCn.out j
      have h3j := h3.out j
      clear hc
      by_cases hlt : j < n
      · cases hb1 : B j
        · cases hb2 : B (j + 1)
          · rw [hb1, hb2] at h3j
            simp at h3j
            have HSj := Lib.hid (HS.out w.heap.size j wr c0 c1 c2 c3)
            rw [hb1, hb2] at HSj
            go_wp2_with ((go_at_call 87; ((with_reducible refine (HSj.out).mono ?_); rintro e w9 ⟨rfl, hb9⟩); obtain ⟨hc9, hf9⟩ := bcell hb9))
            refine ⟨?_, ?_⟩
            · iterate 25 (apply Exists.intro)
              refine ⟨?_, rfl⟩
              exact ⟨j + 1, by omega, by go_num, rfl, by rw [hb2], by rw [h3j] <;> first | rfl | (push_cast; rfl), below_step hBl hb9⟩
            · simp [intOf]; omega
          · rw [hb1, hb2] at h3j
            simp at h3j
            have HSj := Lib.hid (HS.out w.heap.size j wr c0 c1 c2 c3)
            rw [hb1, hb2] at HSj
            go_wp2_with ((go_at_call 87; ((with_reducible refine (HSj.out).mono ?_); rintro e w9 ⟨rfl, hb9⟩); obtain ⟨hc9, hf9⟩ := bcell hb9))
            refine ⟨?_, ?_⟩
            · iterate 25 (apply Exists.intro)
              refine ⟨?_, rfl⟩
              exact ⟨j + 1, by omega, by go_num, rfl, by rw [hb2], by rw [h3j] <;> first | rfl | (push_cast; rfl), below_step hBl hb9⟩
            · simp [intOf]; omega
        · cases hb2 : B (j + 1)
          · rw [hb1, hb2] at h3j
            simp at h3j
            have HSj := Lib.hid (HS.out w.heap.size j wr c0 c1 c2 c3)
            rw [hb1, hb2] at HSj
            go_wp2_with ((go_at_call 87; ((with_reducible refine (HSj.out).mono ?_); rintro e w9 ⟨rfl, hb9⟩); obtain ⟨hc9, hf9⟩ := bcell hb9))
            refine ⟨?_, ?_⟩
            · iterate 25 (apply Exists.intro)
              refine ⟨?_, rfl⟩
              exact ⟨j + 1, by omega, by go_num, rfl, by rw [hb2], by rw [h3j] <;> first | rfl | (push_cast; rfl), below_step hBl hb9⟩
            · simp [intOf]; omega
          · rw [hb1, hb2] at h3j
            simp at h3j
            have HSj := Lib.hid (HS.out w.heap.size j wr c0 c1 c2 c3)
            rw [hb1, hb2] at HSj
            go_wp2_with ((go_at_call 87; ((with_reducible refine (HSj.out).mono ?_); rintro e w9 ⟨rfl, hb9⟩); obtain ⟨hc9, hf9⟩ := bcell hb9))
            refine ⟨?_, ?_⟩
            · iterate 25 (apply Exists.intro)
              refine ⟨?_, rfl⟩
              exact ⟨j + 1, by omega, by go_num, rfl, by rw [hb2], by rw [h3j] <;> first | rfl | (push_cast; rfl), below_step hBl hb9⟩
            · simp [intOf]; omega
      · have : j = n := by omega
        subst this
        go_wp2
        refine bodyPost_ret (results_tmp4 rfl _ _ _) rfl ⟨rfl, ?_⟩
        exact (below_new (Below.refl _ _) _).trans (hBl.mono (by simp))
  · have hR : Hid (warmX l h p k o x on n (coolerB l h p k) (isPart x && isPart o && stepsB n) = 0 ∧ onX l h p k o x on n (coolerB l h p k) (isPart x && isPart o && stepsB n) = false ∧ countX l h p k o x on n (coolerB l h p k) (isPart x && isPart o && stepsB n) = 0 ∧ asked (coolerB l h p k) (isPart x && isPart o && stepsB n) ≠ 0) := by
      cases hV : coolerB l h p k <;> cases hP : isPart x <;> cases hQ : isPart o <;> cases hS : stepsB n <;> simp [hV, hP, hQ, hS] at hall <;> exact ⟨rfl, rfl, rfl, by decide⟩
    rw [hR.out.1, hR.out.2.1, hR.out.2.2.1]
    have hne := hR.out.2.2.2
    clear hR hall
    obtain ⟨V, hV⟩ : ∃ V, coolerB l h p k = V := ⟨_, rfl⟩
    obtain ⟨P, hP⟩ : ∃ P, isPart x = P := ⟨_, rfl⟩
    obtain ⟨Q, hQ⟩ : ∃ Q, isPart o = Q := ⟨_, rfl⟩
    obtain ⟨S, hS⟩ : ∃ S, stepsB n = S := ⟨_, rfl⟩
    rw [hV] at HC hne
    rw [hP] at H1 hne
    rw [hQ] at H2 hne
    rw [hS] at H3 hne
    rw [hV, hP, hQ, hS]
    clear hV hP hQ hS bp bk bx bo
    cases V <;> cases P <;> cases Q <;> cases S
    all_goals first
      | exact absurd rfl hne
      | (clear hne
         go_enter Try.func44, Try.ntmps44
         go_wp2_with (first | (go_at_call 66; ((with_reducible refine (H1.out _).mono ?_); rintro e w' ⟨rfl, rfl⟩)) | (go_at_call 66; ((with_reducible refine (H2.out _).mono ?_); rintro e w' ⟨rfl, rfl⟩)) | (go_at_call 89; ((with_reducible refine (H3.out _).mono ?_); rintro e w' ⟨rfl, rfl⟩)) | (go_at_call 86; ((with_reducible refine (HC.out _).mono ?_); rintro e w1 ⟨rfl, hb1⟩); obtain ⟨hc1, hf1⟩ := bcell hb1))
         refine bodyPost_ret (results_tmp4 rfl _ _ _) rfl ⟨rfl, ?_⟩; (repeat (first | exact Below.refl _ _ | assumption | refine below_new ?_ _ | refine below_step ?_ (by assumption) | refine Below.drew ?_ | refine below_dn ?_ _ | refine Below.setCell ?_ (by simp <;> omega) _)))
set_option maxRecDepth 100000 in
set_option maxHeartbeats 2000000 in
theorem impl_CoolSteps (l h p k x o : Nat) (on : Bool) (n : Int) (bp : p < 4294967296) (bk : k < 4294967296) (bx : x < 4294967296) (bo : o < 4294967296) (w : World) :
    Calls Try.prog 45 #[.agg #[.float .f32 l, .float .f32 h, .float .f32 p, .float .f32 k], .float .f32 x, .float .f32 o, .bool on, .int .i64 n] w
      (Ret (.tuple #[.float .f32 (warmX l h p k o x on n (coolerB l h p k) (isPart x && isPart o && stepsB n)), .bool (onX l h p k o x on n (coolerB l h p k) (isPart x && isPart o && stepsB n)), .int .i64 (countX l h p k o x on n (coolerB l h p k) (isPart x && isPart o && stepsB n)), .int .i64 (asked (coolerB l h p k) (isPart x && isPart o && stepsB n))]) w) := by
  have HC := Lib.hid (fun w => impl_ValidCooler l h p k w)
  have HD : Hid (coolerB l h p k = (isPart l && isPart h && isPart p && isPart k && fle l h)) := rfl
  simp only [← HD.out] at HC
  have H3 := Lib.hid (fun w => impl_isSteps n w)
  have HA : Hid (∀ b c (w : World), w.cell? ⟨b, 0, none⟩ = some (.float .f32 x) → w.cell? ⟨b, 1, none⟩ = some (.float .f32 o) → Calls Try.prog 73 #[.slice (some ⟨b, 0, none⟩) 2 c] w fun e w' => e = .returned (.bool (isPart x && isPart o)) ∧ w = w') := by
    intro b c w h0 h1
    exact (areParts_n b 0 c 2 [x, o] rfl w (by decide) (by intro k hk; rcases (show k = 0 ∨ k = 1 from by omega) with rfl | rfl <;> simpa [ix])).mono fun e w' h => ⟨by rw [h.1]; simp, h.2⟩
  have HS : Hid (coolerB l h p k = true → (isPart x && isPart o) = true → stepsB n = true → ∀ w1,
      Calls Try.prog 91 #[.agg #[.float .f32 l, .float .f32 h, .float .f32 p, .float .f32 k], .float .f32 x, .float .f32 o, .bool on, .int .i64 n] w1 (Ret (.tuple #[.float .f32 (warmX l h p k o x on n true true), .bool (onX l h p k o x on n true true), .int .i64 (countX l h p k o x on n true true)]) w1)) := by
    intro hv h12 h3 w1
    rw [Bool.and_eq_true] at h12
    obtain ⟨h1, h2⟩ := h12
    obtain ⟨u1, u2⟩ := coolerB_upto hv bp bk
    obtain ⟨m, rfl, hm⟩ := stepsB_nat h3
    exact steps_any l h p k x o on u1 u2 (part_upto h2 (fin_part h2 bo)) (upto_two (part_upto h1 (fin_part h1 bx))) m hm w1
  obtain ⟨V, hV⟩ : ∃ V, coolerB l h p k = V := ⟨_, rfl⟩
  obtain ⟨P, hP⟩ : ∃ P, (isPart x && isPart o) = P := ⟨_, rfl⟩
  obtain ⟨S, hS⟩ : ∃ S, stepsB n = S := ⟨_, rfl⟩
  have hw : Hid (warmX l h p k o x on n V (P && S) = (if V && (P && S) then warmX l h p k o x on n true true else 0) ∧ onX l h p k o x on n V (P && S) = (if V && (P && S) then onX l h p k o x on n true true else false) ∧ countX l h p k o x on n V (P && S) = (if V && (P && S) then countX l h p k o x on n true true else 0)) := by
    cases V <;> cases P <;> cases S <;> exact ⟨rfl, rfl, rfl⟩
  rw [hV] at HC HS
  rw [hP, hS] at HS
  rw [hP] at HA
  rw [hS] at H3
  rw [hV, hP, hS, hw.out.1, hw.out.2.1, hw.out.2.2]
  obtain ⟨R, hR⟩ : ∃ R, warmX l h p k o x on n true true = R := ⟨_, rfl⟩
  obtain ⟨N, hN⟩ : ∃ N, onX l h p k o x on n true true = N := ⟨_, rfl⟩
  obtain ⟨C, hC⟩ : ∃ C, countX l h p k o x on n true true = C := ⟨_, rfl⟩
  rw [hR, hN, hC] at HS
  rw [hR, hN, hC]
  clear hV hR hN hP hC hS hw bp bk bx bo HD
  cases V <;> cases P <;> cases S
  all_goals
    simp only [Bool.and_self, Bool.and_true, Bool.and_false, Bool.false_eq_true, Bool.false_and, ↓reduceIte]
    go_enter Try.func45, Try.ntmps45
    go_wp2_with fail; ((with_reducible refine (HC.out _).mono ?_); rintro e w1 ⟨rfl, hb1⟩); obtain ⟨hc1, hf1⟩ := bcell hb1
    have hz1 : w.heap.size < w1.heap.size := by (have := hb1.size; simp at this; omega)
    go_wp2_with (first | (go_at_call 73; ((with_reducible refine (HA.out _ _ _ (by simp [go_sem]) (by simp [go_sem])).mono ?_); rintro e w' ⟨rfl, rfl⟩)) | (go_at_call 90; ((with_reducible refine (H3.out _).mono ?_); rintro e w' ⟨rfl, rfl⟩)) | (go_at_call 91; ((with_reducible refine (HS.out (by trivial) (by trivial) (by trivial) _).mono ?_); rintro e w2 ⟨rfl, hb2⟩); obtain ⟨hc2, hf2⟩ := bcell hb2))
    (try simp only [Exit.inBlock, Exit.then])
    all_goals (refine bodyPost_ret (results_tmp4 rfl _ _ _) rfl ⟨rfl, ?_⟩; (repeat (first | exact Below.refl _ _ | assumption | refine below_new ?_ _ | refine below_step ?_ (by assumption) | refine Below.drew ?_ | refine below_dn ?_ _ | refine Below.setCell ?_ (by simp <;> omega) _)))
end Go.Proofs.Ytldbpmpjfiglaaa
