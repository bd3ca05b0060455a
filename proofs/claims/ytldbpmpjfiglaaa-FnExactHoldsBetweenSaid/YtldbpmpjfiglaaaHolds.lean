/-
  CONTRACTS: coolers: whether the warmth stays between two bounds.
-/
import Derived.Test.YtldbpmpjfiglaaaStepsN
set_option linter.unusedVariables false
set_option linter.unusedSimpArgs false
namespace Go.Proofs.Ytldbpmpjfiglaaa
open Go.RowKit Go.FV

/-- Whether the first steps leave the warmth between two bounds. -/
def holdsTo (X : Nat → Nat) (lo hi : Nat) : Nat → Bool
  | 0 => true
  | n + 1 => holdsTo X lo hi n && !(flt (X (n + 1)) lo || fgt (X (n + 1)) hi)
theorem holdsTo_false {X : Nat → Nat} {lo hi n : Nat} (h : holdsTo X lo hi n = false) : ∀ m, n ≤ m → holdsTo X lo hi m = false := by
  intro m hm
  induction m with
  | zero => have : n = 0 := by omega
            subst this; exact h
  | succ m ih =>
    by_cases e : n = m + 1
    · subst e; exact h
    · rw [holdsTo, ih (by omega)]; rfl
theorem holdsTo_out {X : Nat → Nat} {lo hi n : Nat} (h : (flt (X (n + 1)) lo || fgt (X (n + 1)) hi) = true) (hn : n < 200) : holdsTo X lo hi 200 = false :=
  holdsTo_false (n := n + 1) (by rw [holdsTo, h]; simp) 200 (by omega)
theorem holdsTo_in {X : Nat → Nat} {lo hi n : Nat} (h : holdsTo X lo hi n = true) (h1 : flt (X (n + 1)) lo = false) (h2 : fgt (X (n + 1)) hi = false) : holdsTo X lo hi (n + 1) = true := by
  rw [holdsTo, h, h1, h2]; rfl
def holdX (l h p k o x lo hi : Nat) (V F : Bool) : Bool := if V && F then holdsTo (fun j => (coolP l h p k o x false j).1) lo hi 200 else false
set_option maxRecDepth 100000 in
set_option maxHeartbeats 2000000 in
theorem spec_HoldsBetween (l h p k x o lo hi : Nat) (bp : p < 4294967296) (bk : k < 4294967296) (bx : x < 4294967296) (bo : o < 4294967296) (w : World) :
    Calls Try.prog 42 #[.agg #[.float .f32 l, .float .f32 h, .float .f32 p, .float .f32 k], .float .f32 x, .float .f32 o, .float .f32 lo, .float .f32 hi] w
      (Ret (.tuple #[.bool (holdX l h p k o x lo hi (coolerB l h p k) (isPart x && isPart o && isPart lo && isPart hi)), .int .i64 (asked (coolerB l h p k) (isPart x && isPart o && isPart lo && isPart hi))]) w) := by
  have HC := Lib.hid (fun B => spec_l02Cooled w.heap.size l h p k B (w.alloc (.cells #[.float .f32 l, .float .f32 h, .float .f32 p, .float .f32 k] 62)) (by simp [go_sem]) (by simp [go_sem]) (by simp [go_sem]) (by simp [go_sem]))
  have H1 := Lib.hid (fun w => spec_part x (isPart x) rfl w)
  have H2 := Lib.hid (fun w => spec_part o (isPart o) rfl w)
  have H3 := Lib.hid (fun w => spec_part lo (isPart lo) rfl w)
  have H4 := Lib.hid (fun w => spec_part hi (isPart hi) rfl w)
  by_cases hall : coolerB l h p k = true ∧ isPart x = true ∧ isPart o = true ∧ isPart lo = true ∧ isPart hi = true
  · obtain ⟨hV, hP, hQ, hS, hT⟩ := hall
    obtain ⟨hp, hk⟩ := coolerB_upto hV bp bk
    have ho := part_upto hQ (fin_part hQ bo)
    have hx := upto_two (part_upto hP (fin_part hP bx))
    rw [hV] at HC
    rw [hP] at H1
    rw [hQ] at H2
    rw [hS] at H3
    rw [hT] at H4
    rw [hV, hP, hQ, hS, hT]
    simp only [Bool.and_self]
    have HS := Lib.hid (fun b j w c0 c1 c2 c3 => l02Cool_any b l h p k (coolP l h p k o x false j).1 o (coolP l h p k o x false j).2 hp hk ho (coolP_upto hp hk ho hx j) w c0 c1 c2 c3)
    have hR : Hid (holdX l h p k o x lo hi true true = holdsTo (fun j => (coolP l h p k o x false j).1) lo hi 200) := rfl
    rw [hR.out]
    clear hR
    obtain ⟨X, hX⟩ : ∃ X : Nat → Nat, ∀ j, (coolP l h p k o x false j).1 = X j := ⟨_, fun _ => rfl⟩
    obtain ⟨B, hB⟩ : ∃ B : Nat → Bool, ∀ j, (coolP l h p k o x false j).2 = B j := ⟨_, fun _ => rfl⟩
    have h1 : Hid (∀ j, coolW l h p k o (X j) (B j) = X (j + 1)) := fun j => by rw [← hX, ← hX, ← hB]; rfl
    have h2 : Hid (∀ j, onB l h (X j) (B j) = B (j + 1)) := fun j => by rw [← hX, ← hB, ← hB]; rfl
    have hX0 : Hid (X 0 = x) := (hX 0).symm
    have hB0 : Hid (B 0 = false) := (hB 0).symm
    simp only [hX, hB, h1.out, h2.out] at HS
    simp only [hX]
    obtain ⟨H, hH⟩ : ∃ H, holdsTo X lo hi 200 = H := ⟨_, rfl⟩
    have hO : Hid (∀ n, (flt (X (n + 1)) lo || fgt (X (n + 1)) hi) = true → n < 200 → H = false) := fun n h1 h2 => hH ▸ holdsTo_out h1 h2
    have hI : Hid (∀ n, holdsTo X lo hi n = true → flt (X (n + 1)) lo = false → fgt (X (n + 1)) hi = false → holdsTo X lo hi (n + 1) = true) := fun n a b c => holdsTo_in a b c
    have hE : Hid (∀ n, n = 200 → holdsTo X lo hi n = true → H = true) := fun n e h => by subst e; rw [← hH]; exact h
    rw [hH]
    clear hH hX hB hp hk ho hx h1 h2 hV hP hQ hS hT bp bk bx bo
    go_enter Try.func42, Try.ntmps42
    go_wp2_with (first | (go_at_call 66; ((with_reducible refine (H1.out _).mono ?_); rintro e w' ⟨rfl, rfl⟩)) | (go_at_call 66; ((with_reducible refine (H2.out _).mono ?_); rintro e w' ⟨rfl, rfl⟩)) | (go_at_call 66; ((with_reducible refine (H3.out _).mono ?_); rintro e w' ⟨rfl, rfl⟩)) | (go_at_call 66; ((with_reducible refine (H4.out _).mono ?_); rintro e w' ⟨rfl, rfl⟩)) | (go_at_call 86; ((with_reducible refine (HC.out _).mono ?_); rintro e w1 ⟨rfl, hb1⟩); obtain ⟨hc1, hf1⟩ := bcell hb1))
    go_loopw [1, 13, 14] (fun a b i wr => ∃ j : Nat, j ≤ 200 ∧ i = .int .i64 j ∧ a = .float .f32 (X j) ∧ b = .bool (B j) ∧ holdsTo X lo hi j = true ∧ Below (w.alloc (.cells #[.float .f32 l, .float .f32 h, .float .f32 p, .float .f32 k] 62)).heap.size (w.alloc (.cells #[.float .f32 l, .float .f32 h, .float .f32 p, .float .f32 k] 62)) wr) (fun _ _ i _ => 200 - (intOf i).toNat)
    case atStart => exact ⟨0, by omega, rfl, by rw [hX0.out], by rw [hB0.out], rfl, hb1⟩
    case round =>
      obtain ⟨j, hj, rfl, rfl, rfl, hok, hBl⟩ := hrel
      have hc := (bcell hBl).1
      have c0 : wr.cell? ⟨w.heap.size, 0, none⟩ = some (.float .f32 l) := by rw [hc _ _ (by simp [go_sem])]; simp [go_sem]
      have c1 : wr.cell? ⟨w.heap.size, 1, none⟩ = some (.float .f32 h) := by rw [hc _ _ (by simp [go_sem])]; simp [go_sem]
      have c2 : wr.cell? ⟨w.heap.size, 2, none⟩ = some (.float .f32 p) := by rw [hc _ _ (by simp [go_sem])]; simp [go_sem]
      have c3 : wr.cell? ⟨w.heap.size, 3, none⟩ = some (.float .f32 k) := by rw [hc _ _ (by simp [go_sem])]; simp [go_sem]
      clear hc
      by_cases hlt : j < 200
      · have hOj := Lib.hid (fun h => hO.out j h hlt)
        have hIj := Lib.hid (hI.out j hok)
        have HSj := Lib.hid (HS.out w.heap.size j wr c0 c1 c2 c3)
        cases q1 : flt (X (j + 1)) lo
        · cases q2 : fgt (X (j + 1)) hi
          · have hok' := Lib.hid (hIj.out q1 q2)
            unfold flt at q1; unfold fgt at q2
            go_wp2_with ((go_at_call 87; ((with_reducible refine (HSj.out).mono ?_); rintro e w9 ⟨rfl, hb9⟩); obtain ⟨hc9, hf9⟩ := bcell hb9))
            refine ⟨?_, ?_⟩
            · (repeat apply Exists.intro)
              refine ⟨?_, rfl⟩
              exact ⟨j + 1, by omega, by go_num, rfl, rfl, hok'.out, below_step hBl hb9⟩
            · simp [intOf]; omega
          · have e := Lib.hid (hOj.out (by rw [q1, q2]; rfl))
            unfold flt at q1; unfold fgt at q2
            go_wp2_with ((go_at_call 87; ((with_reducible refine (HSj.out).mono ?_); rintro e w9 ⟨rfl, hb9⟩); obtain ⟨hc9, hf9⟩ := bcell hb9))
            go_ret2; refine ⟨by rw [e.out]; rfl, ?_⟩
            exact (below_new (Below.refl _ _) _).trans ((below_step hBl hb9).mono (by simp))
        · have e := Lib.hid (hOj.out (by rw [q1]; rfl))
          unfold flt at q1
          go_wp2_with ((go_at_call 87; ((with_reducible refine (HSj.out).mono ?_); rintro e w9 ⟨rfl, hb9⟩); obtain ⟨hc9, hf9⟩ := bcell hb9))
          go_ret2; refine ⟨by rw [e.out]; rfl, ?_⟩
          exact (below_new (Below.refl _ _) _).trans ((below_step hBl hb9).mono (by simp))
      · have e := Lib.hid (hE.out j (by omega) hok)
        go_wp2
        go_ret2; refine ⟨by rw [e.out]; rfl, ?_⟩
        exact (below_new (Below.refl _ _) _).trans (hBl.mono (by simp))
  · have hR : Hid (holdX l h p k o x lo hi (coolerB l h p k) (isPart x && isPart o && isPart lo && isPart hi) = false ∧ asked (coolerB l h p k) (isPart x && isPart o && isPart lo && isPart hi) ≠ 0) := by
      cases hV : coolerB l h p k <;> cases hP : isPart x <;> cases hQ : isPart o <;> cases hS : isPart lo <;> cases hT : isPart hi <;> simp [hV, hP, hQ, hS, hT] at hall <;> exact ⟨rfl, by decide⟩
    rw [hR.out.1]
    have hne := hR.out.2
    clear hR hall
    obtain ⟨V, hV⟩ : ∃ V, coolerB l h p k = V := ⟨_, rfl⟩
    obtain ⟨P, hP⟩ : ∃ P, isPart x = P := ⟨_, rfl⟩
    obtain ⟨Q, hQ⟩ : ∃ Q, isPart o = Q := ⟨_, rfl⟩
    obtain ⟨S, hS⟩ : ∃ S, isPart lo = S := ⟨_, rfl⟩
    obtain ⟨T, hT⟩ : ∃ T, isPart hi = T := ⟨_, rfl⟩
    rw [hV] at HC hne
    rw [hP] at H1 hne
    rw [hQ] at H2 hne
    rw [hS] at H3 hne
    rw [hT] at H4 hne
    rw [hV, hP, hQ, hS, hT]
    clear hV hP hQ hS hT bp bk bx bo
    cases V <;> cases P <;> cases Q <;> cases S <;> cases T
    all_goals first
      | exact absurd rfl hne
      | (clear hne
         go_enter Try.func42, Try.ntmps42
         go_wp2_with (first | (go_at_call 66; ((with_reducible refine (H1.out _).mono ?_); rintro e w' ⟨rfl, rfl⟩)) | (go_at_call 66; ((with_reducible refine (H2.out _).mono ?_); rintro e w' ⟨rfl, rfl⟩)) | (go_at_call 66; ((with_reducible refine (H3.out _).mono ?_); rintro e w' ⟨rfl, rfl⟩)) | (go_at_call 66; ((with_reducible refine (H4.out _).mono ?_); rintro e w' ⟨rfl, rfl⟩)) | (go_at_call 86; ((with_reducible refine (HC.out _).mono ?_); rintro e w1 ⟨rfl, hb1⟩); obtain ⟨hc1, hf1⟩ := bcell hb1))
         go_ret2; refine ⟨rfl, ?_⟩; (repeat (first | exact Below.refl _ _ | assumption | refine below_new ?_ _ | refine below_step ?_ (by assumption) | refine Below.drew ?_ | refine below_dn ?_ _ | refine Below.setCell ?_ (by simp <;> omega) _)))
set_option maxRecDepth 100000 in
set_option maxHeartbeats 2000000 in
theorem impl_HoldsBetween (l h p k x o lo hi : Nat) (bp : p < 4294967296) (bk : k < 4294967296) (bx : x < 4294967296) (bo : o < 4294967296) (w : World) :
    Calls Try.prog 43 #[.agg #[.float .f32 l, .float .f32 h, .float .f32 p, .float .f32 k], .float .f32 x, .float .f32 o, .float .f32 lo, .float .f32 hi] w
      (Ret (.tuple #[.bool (holdX l h p k o x lo hi (coolerB l h p k) (isPart x && isPart o && isPart lo && isPart hi)), .int .i64 (asked (coolerB l h p k) (isPart x && isPart o && isPart lo && isPart hi))]) w) := by
  have HC := Lib.hid (fun w => impl_ValidCooler l h p k w)
  have HD : Hid (coolerB l h p k = (isPart l && isPart h && isPart p && isPart k && fle l h)) := rfl
  simp only [← HD.out] at HC
  have HA : Hid (∀ b c (w : World), w.cell? ⟨b, 0, none⟩ = some (.float .f32 x) → w.cell? ⟨b, 1, none⟩ = some (.float .f32 o) → w.cell? ⟨b, 2, none⟩ = some (.float .f32 lo) → w.cell? ⟨b, 3, none⟩ = some (.float .f32 hi) → Calls Try.prog 73 #[.slice (some ⟨b, 0, none⟩) 4 c] w fun e w' => e = .returned (.bool (isPart x && isPart o && isPart lo && isPart hi)) ∧ w = w') := by
    intro b c w h0 h1 h2 h3
    exact (areParts_n b 0 c 4 [x, o, lo, hi] rfl w (by decide) (by intro k hk; rcases (show k = 0 ∨ k = 1 ∨ k = 2 ∨ k = 3 from by omega) with rfl | rfl | rfl | rfl <;> simpa [ix])).mono fun e w' h => ⟨by rw [h.1]; simp [Bool.and_assoc], h.2⟩
  by_cases hall : coolerB l h p k = true ∧ (isPart x && isPart o && isPart lo && isPart hi) = true
  · obtain ⟨hV, hF⟩ := hall
    have hF' := hF
    simp only [Bool.and_eq_true] at hF'
    obtain ⟨⟨⟨hP, hQ⟩, -⟩, -⟩ := hF'
    obtain ⟨hp, hk⟩ := coolerB_upto hV bp bk
    have ho := part_upto hQ (fin_part hQ bo)
    have hx := upto_two (part_upto hP (fin_part hP bx))
    rw [hV] at HC
    rw [hF] at HA
    rw [hV, hF]
    have HS := Lib.hid (fun j w => step_any l h p k (coolP l h p k o x false j).1 o (coolP l h p k o x false j).2 hp hk ho (coolP_upto hp hk ho hx j) w)
    have hR : Hid (holdX l h p k o x lo hi true true = holdsTo (fun j => (coolP l h p k o x false j).1) lo hi 200) := rfl
    rw [hR.out]
    clear hR
    obtain ⟨X, hX⟩ : ∃ X : Nat → Nat, ∀ j, (coolP l h p k o x false j).1 = X j := ⟨_, fun _ => rfl⟩
    obtain ⟨B, hB⟩ : ∃ B : Nat → Bool, ∀ j, (coolP l h p k o x false j).2 = B j := ⟨_, fun _ => rfl⟩
    have h1 : Hid (∀ j, coolW l h p k o (X j) (B j) = X (j + 1)) := fun j => by rw [← hX, ← hX, ← hB]; rfl
    have h2 : Hid (∀ j, onB l h (X j) (B j) = B (j + 1)) := fun j => by rw [← hX, ← hB, ← hB]; rfl
    have hX0 : Hid (X 0 = x) := (hX 0).symm
    have hB0 : Hid (B 0 = false) := (hB 0).symm
    simp only [hX, hB, h1.out, h2.out] at HS
    simp only [hX]
    obtain ⟨H, hH⟩ : ∃ H, holdsTo X lo hi 200 = H := ⟨_, rfl⟩
    have hO : Hid (∀ n, (flt (X (n + 1)) lo || fgt (X (n + 1)) hi) = true → n < 200 → H = false) := fun n h1 h2 => hH ▸ holdsTo_out h1 h2
    have hI : Hid (∀ n, holdsTo X lo hi n = true → flt (X (n + 1)) lo = false → fgt (X (n + 1)) hi = false → holdsTo X lo hi (n + 1) = true) := fun n a b c => holdsTo_in a b c
    have hE : Hid (∀ n, n = 200 → holdsTo X lo hi n = true → H = true) := fun n e h => by subst e; rw [← hH]; exact h
    rw [hH]
    clear hH hX hB hp hk ho hx h1 h2 hV hF hP hQ bp bk bx bo
    clear HD
    go_enter Try.func43, Try.ntmps43
    go_wp2_with fail; ((with_reducible refine (HC.out _).mono ?_); rintro e w1 ⟨rfl, hb1⟩); obtain ⟨hc1, hf1⟩ := bcell hb1
    have hz1 : w.heap.size < w1.heap.size := by (have := hb1.size; simp at this; omega)
    go_wp2_with (go_at_call 73; ((with_reducible refine (HA.out _ _ _ (by simp [go_sem]) (by simp [go_sem]) (by simp [go_sem]) (by simp [go_sem])).mono ?_); rintro e w' ⟨rfl, rfl⟩))
    go_loopw [1, 12, 25] (fun a b i wr => ∃ j : Nat, j ≤ 200 ∧ i = .int .i64 j ∧ a = .float .f32 (X j) ∧ b = .bool (B j) ∧ holdsTo X lo hi j = true ∧ Below (w.alloc (.cells #[.float .f32 l, .float .f32 h, .float .f32 p, .float .f32 k] 62)).heap.size (w.alloc (.cells #[.float .f32 l, .float .f32 h, .float .f32 p, .float .f32 k] 62)) wr) (fun _ _ i _ => 200 - (intOf i).toNat)
    case atStart => exact ⟨0, by omega, rfl, by rw [hX0.out], by rw [hB0.out], rfl, (by (repeat (first | exact Below.refl _ _ | assumption | refine below_new ?_ _ | refine below_step ?_ (by assumption) | refine Below.drew ?_ | refine below_dn ?_ _ | refine Below.setCell ?_ (by simp <;> omega) _)))⟩
    case round =>
      obtain ⟨j, hj, rfl, rfl, rfl, hok, hBl⟩ := hrel
      have hc := (bcell hBl).1
      have c0 : wr.cell? ⟨w.heap.size, 0, none⟩ = some (.float .f32 l) := by rw [hc _ _ (by simp [go_sem])]; simp [go_sem]
      have c1 : wr.cell? ⟨w.heap.size, 1, none⟩ = some (.float .f32 h) := by rw [hc _ _ (by simp [go_sem])]; simp [go_sem]
      have c2 : wr.cell? ⟨w.heap.size, 2, none⟩ = some (.float .f32 p) := by rw [hc _ _ (by simp [go_sem])]; simp [go_sem]
      have c3 : wr.cell? ⟨w.heap.size, 3, none⟩ = some (.float .f32 k) := by rw [hc _ _ (by simp [go_sem])]; simp [go_sem]
      clear hc
      by_cases hlt : j < 200
      · have hOj := Lib.hid (fun h => hO.out j h hlt)
        have hIj := Lib.hid (hI.out j hok)
        have HSj := Lib.hid (HS.out j)
        cases q1 : flt (X (j + 1)) lo
        · cases q2 : fgt (X (j + 1)) hi
          · have hok' := Lib.hid (hIj.out q1 q2)
            unfold flt at q1; unfold fgt at q2
            go_wp2_with ((go_at_call 88; ((with_reducible refine (HSj.out _).mono ?_); rintro e w9 ⟨rfl, hb9⟩); obtain ⟨hc9, hf9⟩ := bcell hb9))
            refine ⟨?_, ?_⟩
            · exact ⟨j + 1, by omega, by go_num, rfl, rfl, hok'.out, below_step hBl hb9⟩
            · simp [intOf]; omega
          · have e := Lib.hid (hOj.out (by rw [q1, q2]; rfl))
            unfold flt at q1; unfold fgt at q2
            go_wp2_with ((go_at_call 88; ((with_reducible refine (HSj.out _).mono ?_); rintro e w9 ⟨rfl, hb9⟩); obtain ⟨hc9, hf9⟩ := bcell hb9))
            go_ret2; refine ⟨by rw [e.out]; rfl, ?_⟩
            exact (below_new (Below.refl _ _) _).trans ((below_step hBl hb9).mono (by simp))
        · have e := Lib.hid (hOj.out (by rw [q1]; rfl))
          unfold flt at q1
          go_wp2_with ((go_at_call 88; ((with_reducible refine (HSj.out _).mono ?_); rintro e w9 ⟨rfl, hb9⟩); obtain ⟨hc9, hf9⟩ := bcell hb9))
          go_ret2; refine ⟨by rw [e.out]; rfl, ?_⟩
          exact (below_new (Below.refl _ _) _).trans ((below_step hBl hb9).mono (by simp))
      · have e := Lib.hid (hE.out j (by omega) hok)
        go_wp2
        go_ret2; refine ⟨by rw [e.out]; rfl, ?_⟩
        exact (below_new (Below.refl _ _) _).trans (hBl.mono (by simp))
  · have hR : Hid (holdX l h p k o x lo hi (coolerB l h p k) (isPart x && isPart o && isPart lo && isPart hi) = false) := by
      have hb : (coolerB l h p k && (isPart x && isPart o && isPart lo && isPart hi)) = false := Bool.eq_false_iff.2 fun hb => hall ((Bool.and_eq_true _ _).mp hb)
      unfold holdX; rw [hb]; rfl
    rw [hR.out]
    clear hR
    obtain ⟨V, hV⟩ : ∃ V, coolerB l h p k = V := ⟨_, rfl⟩
    obtain ⟨F, hF⟩ : ∃ F, (isPart x && isPart o && isPart lo && isPart hi) = F := ⟨_, rfl⟩
    rw [hV, hF] at hall
    rw [hV] at HC
    rw [hF] at HA
    rw [hV, hF]
    clear hV hF HD bp bk bx bo
    cases V <;> cases F
    all_goals first
      | exact absurd ⟨rfl, rfl⟩ hall
      | (clear hall
         go_enter Try.func43, Try.ntmps43
         go_wp2_with fail; ((with_reducible refine (HC.out _).mono ?_); rintro e w1 ⟨rfl, hb1⟩); obtain ⟨hc1, hf1⟩ := bcell hb1
         have hz1 : w.heap.size < w1.heap.size := by (have := hb1.size; simp at this; omega)
         go_wp2_with (go_at_call 73; ((with_reducible refine (HA.out _ _ _ (by simp [go_sem]) (by simp [go_sem]) (by simp [go_sem]) (by simp [go_sem])).mono ?_); rintro e w' ⟨rfl, rfl⟩))
         go_ret2; refine ⟨rfl, ?_⟩; (repeat (first | exact Below.refl _ _ | assumption | refine below_new ?_ _ | refine below_step ?_ (by assumption) | refine Below.drew ?_ | refine below_dn ?_ _ | refine Below.setCell ?_ (by simp <;> omega) _)))
end Go.Proofs.Ytldbpmpjfiglaaa
