/-
  CONTRACTS: a step of a cooler.
-/
import Derived.Test.YtckapidlhhjipaaParts
import Derived.Test.YtckapidlhhjipaaWords
import Derived.Test.YtckapidlhhjipaaHalf
set_option linter.unusedVariables false
set_option linter.unusedSimpArgs false
namespace Go.FL
open Ieee
/-- A difference of two such numbers. -/
theorem upto_sub {i j x y : Nat} (hx : upto i x) (hy : upto j y) (hi : i ≤ 16777216) (hj : j ≤ 16777216) :
    ∃ z, single.sub x y = some z ∧ Near (sv x - sv y) 0 z ∧ sv z ≤ sv x ∧ -sv y ≤ sv z ∧ (sv x ≤ sv y → sv z ≤ 0) ∧ (sv y ≤ sv x → 0 ≤ sv z) := by
  obtain ⟨s, h1, h2⟩ := two149_rep i hi
  obtain ⟨t, h3, h4⟩ := two149_rep j hj
  obtain ⟨R, hR1, hR2⟩ : ∃ R, R < 2139095040 ∧ rv s ≤ rv R ∧ rv t ≤ rv R := by
    by_cases h : s ≤ t
    · exact ⟨t, h4, rv_mono h, Nat.le_refl _⟩
    · exact ⟨s, h2, Nat.le_refl _, rv_mono (by omega)⟩
  have ex := rv_rg hx
  have ey := rv_rg hy
  have hx2 := hx.2.2
  have hy2 := hy.2.2
  rw [← h1] at hx2
  rw [← h3] at hy2
  obtain ⟨z, hz, hn, _⟩ := sub_spec (R := R) hx.1 hy.1 hR1 (by have := hx.2.1; have := hy.2.1; omega) (by have := hx.2.1; have := hy.2.1; omega)
  refine ⟨z, hz, hn, ?_, ?_, fun h => ?_, fun h => ?_⟩
  · have := hn.hi (rg x) (by have := hy.2.1; omega); omega
  · have := hn.nlo (rg y) (by have := hx.2.1; omega); omega
  · have := hn.hi 0 (by simp only [rv]; simp; omega); simpa [rv] using this
  · have := hn.lo 0 (by simp only [rv]; simp; omega); simpa [rv] using this
/-- A part of a number lies between it and zero. -/
theorem part_mul {k d : Nat} (hk : upto 1 k) (hd : fin d) : ∃ p, single.mul k d = some p ∧ fin p ∧ (0 ≤ sv d → 0 ≤ sv p ∧ sv p ≤ sv d) ∧ (sv d ≤ 0 → sv d ≤ sv p ∧ sv p ≤ 0) := by
  have hk2 : rv (rg k) ≤ 2 ^ 149 := by have := upto_rv hk; omega
  have ek := rv_rg hk
  have hb : rv (rg k) * rv (rg d) ≤ rv (rg d) * 2 ^ 149 := by rw [Nat.mul_comm]; exact Nat.mul_le_mul_left _ hk2
  obtain ⟨p, hp, hn, _⟩ := mul_spec hk.1 hd hd.1 hb
  have hbz : ((rv (rg k) * rv (rg d) : Nat) : Int) ≤ (rv (rg d) : Int) * 2 ^ 149 := by
    have : ((rv (rg d) * 2 ^ 149 : Nat) : Int) = (rv (rg d) : Int) * 2 ^ 149 := by simp
    omega
  have e1 : ((rv (rg k) * rv (rg d) : Nat) : Int) = (rv (rg k) : Int) * (rv (rg d) : Int) := by simp
  refine ⟨p, hp, hn.fin, fun h => ?_, fun h => ?_⟩
  · have ed := rv_rg_pos h
    have e : sv k * sv d = ((rv (rg k) * rv (rg d) : Nat) : Int) := by rw [ek, ed, e1]
    rw [e] at hn
    constructor
    · have := hn.lo 0 (zero_le_cast _ _); simpa [rv] using this
    · have := hn.hi (rg d) hbz; omega
  · have ed := rv_rg_neg h
    have e : sv k * sv d = -((rv (rg k) * rv (rg d) : Nat) : Int) := by rw [ek, ed, e1, Int.mul_neg]
    rw [e] at hn
    constructor
    · have := hn.nlo (rg d) (by rw [Int.neg_mul]; omega); omega
    · have := hn.hi 0 (cast_le_zero _ _); simpa [rv] using this
theorem warm_step {k o x : Nat} (hk : upto 1 k) (ho : upto 1 o) (hx : upto 2 x) :
    ∃ d p z, single.sub o x = some d ∧ single.mul k d = some p ∧ single.add x p = some z ∧ upto 2 z := by
  obtain ⟨d, h1, h2, h3, h4, h5, h6⟩ := upto_sub ho hx (by omega) (by omega)
  obtain ⟨p, p1, p2, p3, p4⟩ := part_mul hk h2.fin
  obtain ⟨s, s1, s2⟩ := two149_rep 2 (by omega)
  have hb : 0 ≤ sv x + sv p ∧ sv x + sv p ≤ (rv s : Int) := by
    have b1 := hx.2.2; have b2 := ho.2.2; have b3 := hx.2.1; have b4 := ho.2.1
    rw [s1]
    by_cases h : 0 ≤ sv d
    · have h7 := p3 h
      by_cases h8 : sv o ≤ sv x
      · have := h5 h8; omega
      · omega
    · have := p4 (by omega); omega
  obtain ⟨z, z1, z2, _⟩ := add_spec hx.1 p2 s2 hb.2 (by omega)
  refine ⟨d, p, z, h1, p1, z1, z2.fin, ?_, ?_⟩
  · have := z2.lo 0 (by simp [rv]; omega); simpa [rv] using this
  · have := z2.hi s (by simpa using hb.2); rw [s1] at this; exact this
theorem cold_step {i x y : Nat} (hx : upto i x) (hy : upto 1 y) (hi : i ≤ 16777216) : ∃ z, single.sub x y = some z ∧ fin z ∧ (single.order z 0 = some .gt ∨ single.order z 0 = some .lt ∨ single.order z 0 = some .eq) ∧ (single.order z 0 = some .gt → upto i z) := by
  obtain ⟨z, h1, h2, h3, h4, h5, h6⟩ := upto_sub hx hy hi (by omega)
  have ho : single.order z 0 = some (compare (sv z) (sv 0)) := order_fin h2.fin.1 (by decide)
  have e0 : sv 0 = 0 := by decide
  rw [e0] at ho
  refine ⟨z, h1, h2.fin, ?_, ?_⟩
  · rw [ho]; rcases compare (sv z) 0 with _ | _ | _ <;> simp
  · intro h
    rw [ho] at h
    have hgt : ¬ sv z < 0 := fun h' => by simp [compare, compareOfLessAndEq, h'] at h
    exact ⟨h2.fin, by omega, by have := hx.2.2; omega⟩
end Go.FL
namespace Go.Proofs.Ytckapidlhhjipaa
open Go.RowKit Go.FV

/-- The warmth behind a step without the cooler. -/
def warmW (k o x : Nat) : Nat := addW x (mulW k (subW o x))
/-- The warmth that a cooler leaves. -/
def coldW (p x : Nat) : Nat := if fle (subW x p) 0 then 0 else subW x p
/-- Whether a cooler is on. -/
def onB (l h x : Nat) (on : Bool) : Bool := if fgt x h then true else if flt x l then false else on
/-- The warmth behind a step. -/
def coolW (l h p k o x : Nat) (on : Bool) : Nat := if onB l h x on then coldW p (warmW k o x) else warmW k o x
theorem run_warm {k o x : Nat} (hk : FL.upto 1 k) (ho : FL.upto 1 o) (hx : FL.upto 2 x) (t : TypeId) :
    (∀ w, (binOp .sub t (.float .f32 o) (.float .f32 x)).run Try.prog w = .ok (.float .f32 (subW o x)) w) ∧
    (∀ w, (binOp .mul t (.float .f32 k) (.float .f32 (subW o x))).run Try.prog w = .ok (.float .f32 (mulW k (subW o x))) w) ∧
    (∀ w, (binOp .add t (.float .f32 x) (.float .f32 (mulW k (subW o x)))).run Try.prog w = .ok (.float .f32 (warmW k o x)) w) ∧ FL.upto 2 (warmW k o x) := by
  obtain ⟨d, p, z, h1, h2, h3, h4⟩ := FL.warm_step hk ho hx
  have e1 : subW o x = d := by unfold subW; rw [h1]; rfl
  have e2 : mulW k d = p := by unfold mulW; rw [h2]; rfl
  have e3 : warmW k o x = z := by unfold warmW; rw [e1, e2]; unfold addW; rw [h3]; rfl
  rw [e3, e1, e2]
  exact ⟨run_fsub t h1, run_fmul t h2, run_fadd t h3, h4⟩
theorem run_cold {i p x : Nat} (hi : i ≤ 16777216) (hp : FL.upto 1 p) (hx : FL.upto i x) (t : TypeId) :
    (∀ w, (binOp .sub t (.float .f32 x) (.float .f32 p)).run Try.prog w = .ok (.float .f32 (subW x p)) w) ∧ FL.upto i (coldW p x) ∧ fle (subW x p) 0 = !fgt (subW x p) 0 := by
  obtain ⟨z, h1, h2, h3, h4⟩ := FL.cold_step hx hp hi
  have e1 : subW x p = z := by unfold subW; rw [h1]; rfl
  unfold coldW
  rw [e1]
  refine ⟨run_fsub t h1, ?_, ?_⟩
  · split
    · exact ⟨⟨by decide, by decide⟩, by decide, by rw [show FL.sv 0 = 0 by decide]; omega⟩
    case isFalse h =>
      refine h4 ?_
      rcases h3 with h3 | h3 | h3
      · exact h3
      · exact absurd (by simp [fle, ord, show FloatKind.f32.format = Ieee.single from rfl, h3]) h
      · exact absurd (by simp [fle, ord, show FloatKind.f32.format = Ieee.single from rfl, h3]) h
  · unfold fle fgt ord
    rw [show FloatKind.f32.format = Ieee.single from rfl]
    rcases h3 with h3 | h3 | h3 <;> rw [h3] <;> rfl
theorem coolW_upto {l h p k o x : Nat} {on : Bool} (hp : FL.upto 1 p) (hk : FL.upto 1 k) (ho : FL.upto 1 o) (hx : FL.upto 2 x) : FL.upto 2 (coolW l h p k o x on) := by
  have h1 := (run_warm hk ho hx 0).2.2.2
  unfold coolW
  split
  · exact (run_cold (by omega) hp h1 0).2.1
  · exact h1
theorem onB_1 {l h x : Nat} {on : Bool} (h1 : fgt x h = true) : onB l h x on = true := by simp [onB, h1]
theorem onB_2 {l h x : Nat} {on : Bool} (h1 : fgt x h = false) (h2 : flt x l = true) : onB l h x on = false := by simp [onB, h1, h2]
theorem onB_3 {l h x : Nat} {on : Bool} (h1 : fgt x h = false) (h2 : flt x l = false) : onB l h x on = on := by simp [onB, h1, h2]
end Go.Proofs.Ytckapidlhhjipaa
