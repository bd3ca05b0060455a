/-
  CONTRACTS: ripeness behind days; the warmth that is enough.
-/
import Derived.Test.YtldbpmpjfiglaaaStepsN
import Derived.Test.YtldbpmpjfiglaaaHalve
import Derived.Deep.RegionHeld3
set_option linter.unusedVariables false
set_option linter.unusedSimpArgs false
namespace Go.Proofs.Ytldbpmpjfiglaaa
open Go.RowKit Go.FV

theorem rateW_ok {x y : Nat} (hx : FL.upto 1 x) (hy : FL.upto 1 y) : rateOk (rateW x y) := rateW_le hx hy
theorem spec_l01Grown (x r : Nat) (hr : rateOk r) (hx : FL.upto 1 x) (w : World) : Calls Try.prog 100 #[.float .f32 x, .float .f32 r] w fun e w' => e = .returned (.float .f32 (grownW x r)) ∧ w = w' := by
  obtain ⟨r1, r2, r3, -⟩ := run_grown hr hx 23
  go_enter Try.func100, Try.ntmps100
  go_wp2
  go_ret; exact ⟨rfl, rfl⟩
theorem impl_grown (x r : Nat) (hr : rateOk r) (hx : FL.upto 1 x) (w : World) : Calls Try.prog 101 #[.float .f32 x, .float .f32 r] w fun e w' => e = .returned (.float .f32 (grownW x r)) ∧ w = w' := by
  obtain ⟨r1, r2, r3, -⟩ := run_grown hr hx 23
  go_enter Try.func101, Try.ntmps101
  go_wp2
  go_ret; exact ⟨rfl, rfl⟩
theorem spec_l01Days (n : Int) (w : World) : Calls Try.prog 64 #[.int .i64 n] w fun e w' => e = .returned (.bool (stepsB n)) ∧ w = w' := by
  go_enter Try.func64, Try.ntmps64
  go_wp2_with (go_at_call 102; ((with_reducible refine (spec_l00In _ _ _ _).mono ?_); rintro e w' ⟨rfl, rfl⟩))
  go_ret; exact ⟨rfl, rfl⟩
theorem impl_isDays (n : Int) (w : World) : Calls Try.prog 65 #[.int .i64 n] w fun e w' => e = .returned (.bool (stepsB n)) ∧ w = w' := by
  go_enter Try.func65, Try.ntmps65
  go_wp2_with (go_at_call 83; ((with_reducible refine (impl_within _ _ _ _).mono ?_); rintro e w' ⟨rfl, rfl⟩))
  go_ret; exact ⟨rfl, rfl⟩
set_option maxHeartbeats 1000000 in
theorem l01After_any (x y g n : Nat) (hx : FL.upto 1 x) (hy : FL.upto 1 y) (hg : FL.upto 1 g) (hn : n ≤ 200) (w : World) :
    Calls Try.prog 72 #[.float .f32 x, .float .f32 y, .float .f32 g, .int .i64 n] w (Ret (.float .f32 (grownN (rateW y g) x n)) w) := by
  have HR := Lib.hid (fun w c0 c1 => l01Rate_any w.heap.size y g hy hg w c0 c1)
  have HR := Lib.hid (fun b w c0 c1 => l01Rate_any b y g hy hg w c0 c1)
  have HG := Lib.hid (fun j w => spec_l01Grown (grownN (rateW y g) x j) (rateW y g) (rateW_ok hy hg) (grownN_upto (rateW_ok hy hg) hx j) w)
  obtain ⟨X, hX⟩ : ∃ X : Nat → Nat, ∀ j, grownN (rateW y g) x j = X j := ⟨_, fun _ => rfl⟩
  have h1 : Hid (∀ j, grownW (X j) (rateW y g) = X (j + 1)) := fun j => by rw [← hX, ← hX]; rfl
  have hX0 : Hid (X 0 = x) := (hX 0).symm
  simp only [hX, h1.out] at HG
  rw [hX]
  obtain ⟨r, hr⟩ : ∃ r, rateW y g = r := ⟨_, rfl⟩
  rw [hr] at HR HG
  clear hX hr h1 hx hy hg
  go_enter Try.func72, Try.ntmps72
  go_wp2_with (go_at_call 60; ((with_reducible refine (HR.out _ _ (by simp [go_sem]) (by simp [go_sem])).mono ?_); rintro e w1 ⟨rfl, m, rfl⟩))
  go_loopw [0, 11] (fun a i wr => ∃ j : Nat, j ≤ n ∧ i = .int .i64 j ∧ a = .float .f32 (X j) ∧ Below w.heap.size w wr) (fun _ i _ => 200 - (intOf i).toNat)
  case atStart => exact ⟨0, by omega, rfl, by rw [hX0.out], by (repeat (first | exact Below.refl _ _ | assumption | refine below_new ?_ _ | refine below_step ?_ (by assumption) | refine Below.drew ?_ | refine below_dn ?_ _ | refine Below.setCell ?_ (by simp <;> omega) _))⟩
  case round =>
    obtain ⟨j, hj, rfl, rfl, hBl⟩ := hrel
    by_cases hlt : j < n
    · go_wp2_with ((go_at_call 100; ((with_reducible refine (HG.out j _).mono ?_); rintro e w' ⟨rfl, rfl⟩)))
      go_roundw
      case rel => exact ⟨j + 1, by omega, by go_num, rfl, hBl⟩
      case measure => simp [intOf]; omega
    · have : j = n := by omega
      subst this
      go_wp2
      go_ret; exact ⟨rfl, hBl⟩
set_option maxHeartbeats 1000000 in
theorem ripened_any (x y g n : Nat) (hx : FL.upto 1 x) (hy : FL.upto 1 y) (hg : FL.upto 1 g) (hn : n ≤ 200) (w : World) :
    Calls Try.prog 75 #[.float .f32 x, .agg #[.float .f32 y, .float .f32 g], .int .i64 n] w (Ret (.float .f32 (grownN (rateW y g) x n)) w) := by
  have HR := Lib.hid (fun w => rate_any y g hy hg w)
  have HG := Lib.hid (fun j w => impl_grown (grownN (rateW y g) x j) (rateW y g) (rateW_ok hy hg) (grownN_upto (rateW_ok hy hg) hx j) w)
  obtain ⟨X, hX⟩ : ∃ X : Nat → Nat, ∀ j, grownN (rateW y g) x j = X j := ⟨_, fun _ => rfl⟩
  have h1 : Hid (∀ j, grownW (X j) (rateW y g) = X (j + 1)) := fun j => by rw [← hX, ← hX]; rfl
  have hX0 : Hid (X 0 = x) := (hX 0).symm
  simp only [hX, h1.out] at HG
  rw [hX]
  obtain ⟨r, hr⟩ : ∃ r, rateW y g = r := ⟨_, rfl⟩
  rw [hr] at HR HG
  clear hX hr h1 hx hy hg
  go_enter Try.func75, Try.ntmps75
  go_wp2
  go_loopw [0, 8] (fun a i wr => ∃ j : Nat, j ≤ n ∧ i = .int .i64 j ∧ a = .float .f32 (X j) ∧ Below (w.alloc (.cells #[.float .f32 y, .float .f32 g] 33)).heap.size (w.alloc (.cells #[.float .f32 y, .float .f32 g] 33)) wr) (fun _ i _ => 200 - (intOf i).toNat)
  case atStart => exact ⟨0, by omega, rfl, by rw [hX0.out], Below.refl _ _⟩
  case round =>
    obtain ⟨j, hj, rfl, rfl, hBl⟩ := hrel
    have hc := (bcell hBl).1
    have c0 : wr.cell? ⟨w.heap.size, 0, none⟩ = some (.float .f32 y) := by rw [hc _ _ (by simp [go_sem])]; simp [go_sem]
    have c1 : wr.cell? ⟨w.heap.size, 1, none⟩ = some (.float .f32 g) := by rw [hc _ _ (by simp [go_sem])]; simp [go_sem]
    clear hc
    by_cases hlt : j < n
    · go_wp2_with (first | (go_at_call 80; ((with_reducible refine (HR.out _).mono ?_); rintro e w9 ⟨rfl, hb9⟩); obtain ⟨hc9, hf9⟩ := bcell hb9) | (go_at_call 101; ((with_reducible refine (HG.out j _).mono ?_); rintro e w' ⟨rfl, rfl⟩)))
      go_roundw
      case rel => exact ⟨j + 1, by omega, by go_num, rfl, below_step hBl hb9⟩
      case measure => simp [intOf]; omega
    · have : j = n := by omega
      subst this
      go_wp2
      go_ret; exact ⟨rfl, (below_new (Below.refl _ _) _).trans (hBl.mono (by simp))⟩
def enoughR (x to g n m : Nat) : Bool := !flt (grownN (rateW m g) x n) to
def warmthX (x to g : Nat) (n : Int) (F : Bool) : Nat := if F && enoughR x to g n.toNat 1065353216 then (halves (enoughR x to g n.toNat) 30).2 else 0
def warmthE (x to g : Nat) (n : Int) (F : Bool) : Int := if F then (if enoughR x to g n.toNat 1065353216 then 0 else 6) else 2
set_option maxRecDepth 100000 in
set_option maxHeartbeats 2000000 in
theorem spec_WarmthFor (x to g : Nat) (n : Int) (bx : x < 4294967296) (bg : g < 4294967296) (w : World) :
    Calls Try.prog 24 #[.float .f32 x, .float .f32 to, .float .f32 g, .int .i64 n] w
      (Ret (.tuple #[.float .f32 (warmthX x to g n (isPart x && isPart to && isPart g && stepsB n)), .int .i64 (warmthE x to g n (isPart x && isPart to && isPart g && stepsB n))]) w) := by
  have H1 := Lib.hid (fun w => spec_l01Part x w)
  have H2 := Lib.hid (fun w => spec_l01Part to w)
  have H3 := Lib.hid (fun w => spec_l01Part g w)
  have H4 := Lib.hid (fun w => spec_l01Days n w)
  by_cases hall : isPart x = true ∧ isPart to = true ∧ isPart g = true ∧ stepsB n = true
  · obtain ⟨hP, hQ, hS, hT⟩ := hall
    have hx := part_upto hP (fin_part hP bx)
    have hg := part_upto hS (fin_part hS bg)
    obtain ⟨n, rfl, hn⟩ := stepsB_nat hT
    rw [hP] at H1
    rw [hQ] at H2
    rw [hS] at H3
    rw [hT] at H4
    rw [hP, hQ, hS, hT]
    simp only [Bool.and_self]
    have HS := Lib.hid (fun m w (hm : FL.upto 1 m) => l01After_any x m g n hx hm hg hn w)
    have hX : Hid (warmthX x to g n true = (if enoughR x to g n 1065353216 then (halves (enoughR x to g n) 30).2 else 0)) := by unfold warmthX; rw [Bool.true_and, Int.toNat_natCast]; rfl
    have hY : Hid (warmthE x to g n true = (if enoughR x to g n 1065353216 then 0 else 6)) := by unfold warmthE; rw [Int.toNat_natCast]; rfl
    obtain ⟨Y, hYY⟩ : ∃ Y : Nat → Nat, ∀ m, grownN (rateW m g) x n = Y m := ⟨_, fun _ => rfl⟩
    have hF : Hid (∀ m, flt (Y m) to = !enoughR x to g n m) := fun m => by rw [← hYY]; unfold enoughR; rw [Bool.not_not]
    simp only [hYY] at HS
    rw [hX.out, hY.out]
    clear hP hQ hS hT bx bg hX hY hx hg hYY
    obtain ⟨E, hE⟩ : ∃ E, enoughR x to g n = E := ⟨_, rfl⟩
    rw [hE] at hF
    rw [hE]
    clear hE
    have hG1 := hF.out 1065353216
    have hS1 := Lib.hid (fun w => HS.out 1065353216 w FL.upto_one)
    cases q : E 1065353216
    · rw [q] at hG1
      unfold flt at hG1
      go_enter Try.func24, Try.ntmps24
      go_wp2_with (first | (go_at_call 66; ((with_reducible refine (H1.out _).mono ?_); rintro e w' ⟨rfl, rfl⟩)) | (go_at_call 66; ((with_reducible refine (H2.out _).mono ?_); rintro e w' ⟨rfl, rfl⟩)) | (go_at_call 66; ((with_reducible refine (H3.out _).mono ?_); rintro e w' ⟨rfl, rfl⟩)) | (go_at_call 64; ((with_reducible refine (H4.out _).mono ?_); rintro e w' ⟨rfl, rfl⟩)) | (go_at_call 72; ((with_reducible refine (hS1.out _).mono ?_); rintro e w2 ⟨rfl, hb2⟩); obtain ⟨hc2, hf2⟩ := bcell hb2))
      all_goals (go_ret2; refine ⟨rfl, ?_⟩; (repeat (first | exact Below.refl _ _ | assumption | refine below_new ?_ _ | refine below_step ?_ (by assumption) | refine Below.drew ?_ | refine below_dn ?_ _ | refine Below.setCell ?_ (by simp <;> omega) _)))
    · rw [q] at hG1
      unfold flt at hG1
      go_enter Try.func24, Try.ntmps24
      go_wp2_with (first | (go_at_call 66; ((with_reducible refine (H1.out _).mono ?_); rintro e w' ⟨rfl, rfl⟩)) | (go_at_call 66; ((with_reducible refine (H2.out _).mono ?_); rintro e w' ⟨rfl, rfl⟩)) | (go_at_call 66; ((with_reducible refine (H3.out _).mono ?_); rintro e w' ⟨rfl, rfl⟩)) | (go_at_call 64; ((with_reducible refine (H4.out _).mono ?_); rintro e w' ⟨rfl, rfl⟩)) | (go_at_call 72; ((with_reducible refine (hS1.out _).mono ?_); rintro e w2 ⟨rfl, hb2⟩); obtain ⟨hc2, hf2⟩ := bcell hb2))
      go_loopw [10, 11, 12] (fun a b i wr => ∃ j : Nat, j ≤ 30 ∧ i = .int .i64 j ∧ a = .float .f32 (halves E j).1 ∧ b = .float .f32 (halves E j).2 ∧ Below w.heap.size w wr) (fun _ _ i _ => 30 - (intOf i).toNat)
      case atStart => exact ⟨0, by omega, rfl, rfl, rfl, hb2⟩
      case round =>
        obtain ⟨j, hj, rfl, rfl, rfl, hBl⟩ := hrel
        by_cases hlt : j < 30
        · obtain ⟨ua, ub⟩ := halves_upto E j
          have hy := Lib.hid (fun a b => @halves_yes E j a b)
          have hn := Lib.hid (fun a b => @halves_no E j a b)
          obtain ⟨a, ha⟩ : ∃ a, (halves E j).1 = a := ⟨_, rfl⟩
          obtain ⟨b, hb⟩ : ∃ b, (halves E j).2 = b := ⟨_, rfl⟩
          have hab : Hid (halves E j = (a, b)) := by rw [← ha, ← hb]; rfl
          rw [ha] at ua
          rw [hb] at ub
          rw [ha, hb]
          clear ha hb
          have r1 := run_addW ua ub (by omega) 23
          have hm := (run_half (addW_spec ua ub (by omega)).2 23)
          have r2 := hm.2.1
          have um := hm.2.2
          have hy := Lib.hid (hy.out a b hab.out)
          have hn := Lib.hid (hn.out a b hab.out)
          clear hm ua ub hab
          obtain ⟨m, hm⟩ : ∃ m, halfW (addW a b) = m := ⟨_, rfl⟩
          rw [hm] at um r2 hy hn
          clear hm
          have HPm := Lib.hid (HS.out m wr um)
          have hFm := hF.out m
          clear um
          cases q2 : E m
          · rw [q2] at hFm
            unfold flt at hFm
            have hn2 := Lib.hid (hn.out q2)
            clear hn q2
            go_wp2_with ((go_at_call 72; ((with_reducible refine (HPm.out).mono ?_); rintro e w9 ⟨rfl, hb9⟩); obtain ⟨hc9, hf9⟩ := bcell hb9))
            refine ⟨?_, ?_⟩
            · first | exact ⟨j + 1, by omega, by go_num, by rw [hn2.out], by rw [hn2.out], below_step hBl hb9⟩ | ((repeat apply Exists.intro); refine ⟨?_, rfl⟩; exact ⟨j + 1, by omega, by go_num, by rw [hn2.out], by rw [hn2.out], below_step hBl hb9⟩)
            · simp [intOf]; omega
          · rw [q2] at hFm
            unfold flt at hFm
            have hy2 := Lib.hid (hy.out q2)
            clear hy q2
            go_wp2_with ((go_at_call 72; ((with_reducible refine (HPm.out).mono ?_); rintro e w9 ⟨rfl, hb9⟩); obtain ⟨hc9, hf9⟩ := bcell hb9))
            refine ⟨?_, ?_⟩
            · first | exact ⟨j + 1, by omega, by go_num, by rw [hy2.out], by rw [hy2.out], below_step hBl hb9⟩ | ((repeat apply Exists.intro); refine ⟨?_, rfl⟩; exact ⟨j + 1, by omega, by go_num, by rw [hy2.out], by rw [hy2.out], below_step hBl hb9⟩)
            · simp [intOf]; omega
        · have : j = 30 := by omega
          subst this
          go_wp2
          go_ret2; exact ⟨rfl, hBl⟩
  · have hR : Hid (warmthX x to g n (isPart x && isPart to && isPart g && stepsB n) = 0 ∧ warmthE x to g n (isPart x && isPart to && isPart g && stepsB n) = 2) := by
      cases hP : isPart x <;> cases hQ : isPart to <;> cases hS : isPart g <;> cases hT : stepsB n <;> simp [hP, hQ, hS, hT] at hall <;> exact ⟨rfl, rfl⟩
    rw [hR.out.1, hR.out.2]
    clear hR
    obtain ⟨P, hP⟩ : ∃ P, isPart x = P := ⟨_, rfl⟩
    obtain ⟨Q, hQ⟩ : ∃ Q, isPart to = Q := ⟨_, rfl⟩
    obtain ⟨S, hS⟩ : ∃ S, isPart g = S := ⟨_, rfl⟩
    obtain ⟨T, hT⟩ : ∃ T, stepsB n = T := ⟨_, rfl⟩
    rw [hP, hQ, hS, hT] at hall
    rw [hP] at H1
    rw [hQ] at H2
    rw [hS] at H3
    rw [hT] at H4
    clear hP hQ hS hT bx bg
    cases P <;> cases Q <;> cases S <;> cases T
    all_goals first
      | exact absurd ⟨rfl, rfl, rfl, rfl⟩ hall
      | (clear hall
         go_enter Try.func24, Try.ntmps24
         go_wp2_with (first | (go_at_call 66; ((with_reducible refine (H1.out _).mono ?_); rintro e w' ⟨rfl, rfl⟩)) | (go_at_call 66; ((with_reducible refine (H2.out _).mono ?_); rintro e w' ⟨rfl, rfl⟩)) | (go_at_call 66; ((with_reducible refine (H3.out _).mono ?_); rintro e w' ⟨rfl, rfl⟩)) | (go_at_call 64; ((with_reducible refine (H4.out _).mono ?_); rintro e w' ⟨rfl, rfl⟩)))
         go_ret2; refine ⟨rfl, ?_⟩; (repeat (first | exact Below.refl _ _ | assumption | refine below_new ?_ _ | refine below_step ?_ (by assumption) | refine Below.drew ?_ | refine below_dn ?_ _ | refine Below.setCell ?_ (by simp <;> omega) _)))
end Go.Proofs.Ytldbpmpjfiglaaa
