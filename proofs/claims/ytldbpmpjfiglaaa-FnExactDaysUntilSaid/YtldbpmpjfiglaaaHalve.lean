/-
  CONTRACTS: halving between 0 and 1.
-/
import Derived.Test.YtldbpmpjfiglaaaGrown
set_option linter.unusedVariables false
set_option linter.unusedSimpArgs false
namespace Go.FL
open Ieee
theorem upto_half {x : Nat} (hx : upto 2 x) : ∃ z, single.mul 1056964608 x = some z ∧ upto 1 z := by
  have e5 : rg 1056964608 = 1056964608 := by decide
  have h5 : upto 1 1056964608 := ⟨⟨by decide, by decide⟩, by rw [sv_of_rv (by omega)]; omega, by rw [sv_of_rv (by omega), rv_half]; decide⟩
  have hb : rv (rg 1056964608) * rv (rg x) ≤ rv 1065353216 * 2 ^ 149 := by
    rw [e5, rv_half, rv_one]
    have := upto_rv hx
    have e : (2 : Nat) ^ 149 * 2 ^ 149 = 2 ^ 148 * (2 * 2 ^ 149) := by decide
    rw [e]; exact Nat.mul_le_mul_left _ this
  obtain ⟨z, h1, h2, _⟩ := mul_spec h5.1 hx.1 (show 1065353216 < 2139095040 by omega) hb
  have e : sv 1056964608 * sv x = ((rv (rg 1056964608) * rv (rg x) : Nat) : Int) := by rw [rv_rg h5, rv_rg hx]; simp
  refine ⟨z, h1, h2.fin, ?_, ?_⟩
  · have := h2.lo 0 (by rw [e]; exact zero_le_cast _ _); simpa [rv] using this
  · have := h2.hi 1065353216 (by
      rw [e]
      have : ((rv 1065353216 * 2 ^ 149 : Nat) : Int) = (rv 1065353216 : Int) * 2 ^ 149 := by simp
      omega)
    rw [rv_one] at this; simpa using this
end Go.FL
namespace Go.Proofs.Ytldbpmpjfiglaaa
open Go.RowKit Go.FV
def halfW (x : Nat) : Nat := mulW 1056964608 x
theorem run_half {x : Nat} (hx : FL.upto 2 x) (t : TypeId) :
    (∀ w, (binOp .mul t (.float .f32 1056964608) (.float .f32 x)).run Try.prog w = .ok (.float .f32 (halfW x)) w) ∧
    (∀ w, (binOp .quo t (.float .f32 x) (.float .f32 1073741824)).run Try.prog w = .ok (.float .f32 (halfW x)) w) ∧ FL.upto 1 (halfW x) := by
  obtain ⟨z, h1, h2⟩ := FL.upto_half hx
  have e1 : halfW x = z := by unfold halfW mulW; rw [h1]; rfl
  rw [e1]
  exact ⟨run_fmul t h1, run_fdiv t ((FL.half_eq hx.1).1.trans h1), h2⟩
/-- What halving has found behind so many rounds: the lower and the upper bound. -/
def halves (p : Nat → Bool) : Nat → Nat × Nat
  | 0 => (0, 1065353216)
  | k + 1 => if p (halfW (addW (halves p k).1 (halves p k).2)) then ((halves p k).1, halfW (addW (halves p k).1 (halves p k).2)) else (halfW (addW (halves p k).1 (halves p k).2), (halves p k).2)
theorem upto_zero : FL.upto 1 0 := ⟨⟨by decide, by decide⟩, by decide, by rw [show FL.sv 0 = 0 by decide]; omega⟩
theorem halves_upto (p : Nat → Bool) : ∀ k, FL.upto 1 (halves p k).1 ∧ FL.upto 1 (halves p k).2
  | 0 => ⟨upto_zero, FL.upto_one⟩
  | k + 1 => by
    have h := halves_upto p k
    have hm := (run_half (addW_spec h.1 h.2 (by omega)).2 0).2.2
    unfold halves
    split
    · exact ⟨h.1, hm⟩
    · exact ⟨hm, h.2⟩
theorem halves_yes {p : Nat → Bool} {k a b : Nat} (h : halves p k = (a, b)) (hp : p (halfW (addW a b)) = true) : halves p (k + 1) = (a, halfW (addW a b)) := by
  rw [halves, h]; simp only []; rw [hp]; rfl
theorem halves_no {p : Nat → Bool} {k a b : Nat} (h : halves p k = (a, b)) (hp : p (halfW (addW a b)) = false) : halves p (k + 1) = (halfW (addW a b), b) := by
  rw [halves, h]; simp only []; rw [hp]; rfl
set_option maxRecDepth 100000 in
set_option maxHeartbeats 1000000 in
/-- Halving with a function value that answers 'p' and keeps 'I'. -/
theorem halve_any (F : Nat) (cap : Array Value) (p : Nat → Bool) (I : World → Prop) (w : World) (hI : I w)
    (hF : ∀ x w, (callFunc F (#[.float .f32 x] ++ cap)).run Try.prog w = .ok (.enter F (#[.float .f32 x] ++ cap)) w)
    (hp : ∀ x w, FL.upto 1 x → I w → Calls Try.prog F (#[.float .f32 x] ++ cap) w fun e w' => e = .returned (.bool (p x)) ∧ I w') :
    Calls Try.prog 76 #[.func (.func F) #[] cap] w fun e w' => e = .returned (.float .f32 (halves p 30).2) ∧ I w' := by
  have HP := Lib.hid hp; clear hp
  have HF := Lib.hid hF; clear hF
  have HI0 := Lib.hid hI; clear hI
  obtain ⟨H, hH⟩ : ∃ H, (halves p 30).2 = H := ⟨_, rfl⟩
  have HE : Hid (∀ j, j = 30 → (halves p j).2 = H) := fun j e => by subst e; exact hH
  rw [hH]
  clear hH
  go_enter Try.func76, Try.ntmps76
  go_wp2
  go_loopw [3, 4, 6] (fun lo hi i wr => ∃ j : Nat, j ≤ 30 ∧ i = .int .i64 j ∧ lo = .float .f32 (halves p j).1 ∧ hi = .float .f32 (halves p j).2 ∧ Hid (I wr)) (fun _ _ i _ => 30 - (intOf i).toNat)
  case atStart => exact ⟨0, by omega, rfl, rfl, rfl, HI0⟩
  case round =>
    obtain ⟨j, hj, rfl, rfl, rfl, hIr⟩ := hrel
    by_cases hlt : j < 30
    · obtain ⟨ua, ub⟩ := halves_upto p j
      have hy := Lib.hid (fun a b => @halves_yes p j a b)
      have hn := Lib.hid (fun a b => @halves_no p j a b)
      obtain ⟨a, ha⟩ : ∃ a, (halves p j).1 = a := ⟨_, rfl⟩
      obtain ⟨b, hb⟩ : ∃ b, (halves p j).2 = b := ⟨_, rfl⟩
      have hab : Hid (halves p j = (a, b)) := by rw [← ha, ← hb]; rfl
      rw [ha] at ua
      rw [hb] at ub
      rw [ha, hb]
      clear ha hb
      have r1 := run_addW ua ub (by omega) 23
      have hm := (run_half (addW_spec ua ub (by omega)).2 23)
      have r2 := hm.1
      have um := hm.2.2
      have hy := Lib.hid (hy.out a b hab.out)
      have hn := Lib.hid (hn.out a b hab.out)
      clear hm ua ub hab
      obtain ⟨m, hm⟩ : ∃ m, halfW (addW a b) = m := ⟨_, rfl⟩
      rw [hm] at um r2 hy hn
      clear hm
      have HPm := Lib.hid (HP.out m wr um hIr.out)
      have hFm := HF.out m wr
      clear um hIr
      cases q : p m
      · rw [q] at HPm hn
        have hn2 := Lib.hid (hn.out rfl)
        clear hn
        go_wp2_with ((with_reducible refine (HPm.out).mono ?_); rintro e w9 ⟨rfl, hI9⟩; have hI9 := Lib.hid hI9)
        go_roundw
        case rel => exact ⟨j + 1, by omega, by go_num, by rw [hn2.out], by rw [hn2.out], hI9⟩
        case measure => simp [intOf]; omega
      · rw [q] at HPm hy
        have hy2 := Lib.hid (hy.out rfl)
        clear hy
        go_wp2_with ((with_reducible refine (HPm.out).mono ?_); rintro e w9 ⟨rfl, hI9⟩; have hI9 := Lib.hid hI9)
        go_roundw
        case rel => exact ⟨j + 1, by omega, by go_num, by rw [hy2.out], by rw [hy2.out], hI9⟩
        case measure => simp [intOf]; omega
    · have e := Lib.hid (HE.out j (by omega))
      go_wp2
      go_ret
      exact ⟨by rw [← e.out]; rfl, hIr.out⟩
end Go.Proofs.Ytldbpmpjfiglaaa
