/-
  CONTRACTS: by how much two looks are apart.
-/
import Derived.Test.YtckapidlhhjipaaCool
set_option linter.unusedVariables false
set_option linter.unusedSimpArgs false
namespace Go.FL
open Ieee
theorem upto_sq {x y : Nat} (hx : upto 1 x) (hy : upto 1 y) : ∃ d z, single.sub x y = some d ∧ single.mul d d = some z ∧ upto 1 z := by
  obtain ⟨d, h1, h2, h3, h4, _, _⟩ := upto_sub hx hy (by omega) (by omega)
  have hd : rv (rg d) ≤ 2 ^ 149 := by
    have a := sv_abs d
    have b := hx.2.2
    have c := hy.2.2
    omega
  have hb : rv (rg d) * rv (rg d) ≤ rv 1065353216 * 2 ^ 149 := by
    rw [rv_one]; exact Nat.mul_le_mul hd hd
  obtain ⟨z, z1, z2, _⟩ := mul_spec h2.fin h2.fin (show 1065353216 < 2139095040 by omega) hb
  have e : sv d * sv d = ((rv (rg d) * rv (rg d) : Nat) : Int) := by
    have a := sv_abs d
    rw [← a]
    exact Int.natAbs_mul_self.symm
  refine ⟨d, z, h1, z1, z2.fin, ?_, ?_⟩
  · have := z2.lo 0 (by rw [e]; exact zero_le_cast _ _); simpa [rv] using this
  · have := z2.hi 1065353216 (by
      rw [e]
      have : ((rv 1065353216 * 2 ^ 149 : Nat) : Int) = (rv 1065353216 : Int) * 2 ^ 149 := by simp
      omega)
    rw [rv_one] at this; simpa using this
end Go.FL
namespace Go.Proofs.Ytckapidlhhjipaa
open Go.RowKit Go.FV

def sqW (x y : Nat) : Nat := mulW (subW x y) (subW x y)
theorem run_sq {x y : Nat} (hx : FL.upto 1 x) (hy : FL.upto 1 y) (t : TypeId) :
    (∀ w, (binOp .sub t (.float .f32 x) (.float .f32 y)).run Try.prog w = .ok (.float .f32 (subW x y)) w) ∧ (∀ w, (binOp .mul t (.float .f32 (subW x y)) (.float .f32 (subW x y))).run Try.prog w = .ok (.float .f32 (sqW x y)) w) ∧ FL.upto 1 (sqW x y) := by
  obtain ⟨d, z, h1, h2, h3⟩ := FL.upto_sq hx hy
  have e1 : subW x y = d := by unfold subW; rw [h1]; rfl
  have e2 : sqW x y = z := by unfold sqW mulW; rw [e1, h2]; rfl
  rw [e2, e1]
  exact ⟨run_fsub t h1, run_fmul t h2, h3⟩
def apartW (x y z x' y' z' : Nat) : Nat := addW (addW (sqW x x') (sqW y y')) (sqW z z')
def lookB (x y z : Nat) : Bool := isPart x && isPart y && isPart z
theorem look_upto {x y z : Nat} (h : lookB x y z = true) (hx : x < 4294967296) (hy : y < 4294967296) (hz : z < 4294967296) : FL.upto 1 x ∧ FL.upto 1 y ∧ FL.upto 1 z := by
  unfold lookB at h
  simp only [Bool.and_eq_true] at h
  exact ⟨part_upto h.1.1 (fin_part h.1.1 hx), part_upto h.1.2 (fin_part h.1.2 hy), part_upto h.2 (fin_part h.2 hz)⟩
theorem apart_upto {x y z x' y' z' : Nat} (h : FL.upto 1 x ∧ FL.upto 1 y ∧ FL.upto 1 z) (h' : FL.upto 1 x' ∧ FL.upto 1 y' ∧ FL.upto 1 z') : FL.upto 3 (apartW x y z x' y' z') :=
  (addW_spec (addW_spec (run_sq h.1 h'.1 0).2.2 (run_sq h.2.1 h'.2.1 0).2.2 (by omega)).2 (run_sq h.2.2 h'.2.2 0).2.2 (by omega)).2
theorem l03Square_any (x y : Nat) (hx : FL.upto 1 x) (hy : FL.upto 1 y) (w : World) : Calls Try.prog 84 #[.float .f32 x, .float .f32 y] w fun e w' => e = .returned (.float .f32 (sqW x y)) ∧ w' = w := by
  obtain ⟨r1, r2, -⟩ := run_sq hx hy 22
  go_enter Try.func84, Try.ntmps84
  go_wp2
  go_ret; exact ⟨rfl, rfl⟩
set_option maxHeartbeats 1000000 in
theorem l03Apart_any (b b' x y z x' y' z' : Nat) (h : FL.upto 1 x ∧ FL.upto 1 y ∧ FL.upto 1 z) (h' : FL.upto 1 x' ∧ FL.upto 1 y' ∧ FL.upto 1 z') (w : World)
    (c0 : w.cell? ⟨b, 0, none⟩ = some (.float .f32 x)) (c1 : w.cell? ⟨b, 1, none⟩ = some (.float .f32 y)) (c2 : w.cell? ⟨b, 2, none⟩ = some (.float .f32 z))
    (d0 : w.cell? ⟨b', 0, none⟩ = some (.float .f32 x')) (d1 : w.cell? ⟨b', 1, none⟩ = some (.float .f32 y')) (d2 : w.cell? ⟨b', 2, none⟩ = some (.float .f32 z')) :
    Calls Try.prog 75 #[.pointer (some ⟨b, 0, none⟩), .pointer (some ⟨b', 0, none⟩)] w fun e w' => e = .returned (.float .f32 (apartW x y z x' y' z')) ∧ ∃ m, w.drewN m = w' := by
  have Q1 := Lib.hid (fun w => l03Square_any x x' h.1 h'.1 w)
  have Q2 := Lib.hid (fun w => l03Square_any y y' h.2.1 h'.2.1 w)
  have Q3 := Lib.hid (fun w => l03Square_any z z' h.2.2 h'.2.2 w)
  have u1 := (run_sq h.1 h'.1 0).2.2
  have u2 := (run_sq h.2.1 h'.2.1 0).2.2
  have u3 := (run_sq h.2.2 h'.2.2 0).2.2
  have r1 := run_addW u1 u2 (by omega) 22
  have r2 := run_addW (addW_spec u1 u2 (by omega)).2 u3 (by omega) 22
  have hA : Hid (addW (addW (sqW x x') (sqW y y')) (sqW z z') = apartW x y z x' y' z') := rfl
  rw [hA.out] at r2
  obtain ⟨R, hR⟩ : ∃ R, apartW x y z x' y' z' = R := ⟨_, rfl⟩
  rw [hR] at r2
  rw [hR]
  clear hA hR u1 u2 u3 h h'
  go_enter Try.func75, Try.ntmps75
  go_wp2
  go_quiet ((first | (go_at_call 84; with_reducible exact Calls.quiet_of_same (Q1.out _)) | (go_at_call 84; with_reducible exact Calls.quiet_of_same (Q2.out _)) | (go_at_call 84; with_reducible exact Calls.quiet_of_same (Q3.out _))))
  go_wp2
  go_ret; exact ⟨rfl, _, rfl⟩
set_option maxHeartbeats 1000000 in
theorem apart_any (x y z x' y' z' : Nat) (h : FL.upto 1 x ∧ FL.upto 1 y ∧ FL.upto 1 z) (h' : FL.upto 1 x' ∧ FL.upto 1 y' ∧ FL.upto 1 z') (w : World) :
    Calls Try.prog 77 #[.agg #[.float .f32 x, .float .f32 y, .float .f32 z], .agg #[.float .f32 x', .float .f32 y', .float .f32 z']] w (Ret (.float .f32 (apartW x y z x' y' z')) w) := by
  obtain ⟨s1, m1, u1⟩ := run_sq h.1 h'.1 22
  obtain ⟨s2, m2, u2⟩ := run_sq h.2.1 h'.2.1 22
  obtain ⟨s3, m3, u3⟩ := run_sq h.2.2 h'.2.2 22
  have r1 := run_addW u1 u2 (by omega) 22
  have r2 := run_addW (addW_spec u1 u2 (by omega)).2 u3 (by omega) 22
  have hA : Hid (addW (addW (sqW x x') (sqW y y')) (sqW z z') = apartW x y z x' y' z') := rfl
  rw [hA.out] at r2
  obtain ⟨R, hR⟩ : ∃ R, apartW x y z x' y' z' = R := ⟨_, rfl⟩
  rw [hR] at r2
  rw [hR]
  clear hA hR u1 u2 u3 h h'
  go_enter Try.func77, Try.ntmps77
  go_wp2
  go_quiet (fail)
  go_wp2
  go_ret; refine ⟨rfl, ?_⟩; (repeat (first | exact Below.refl _ _ | assumption | refine below_new ?_ _ | refine below_step ?_ (by assumption) | refine Below.drew ?_ | refine below_dn ?_ _ | refine Below.setCell ?_ (by simp <;> omega) _))
def apartX (x y z x' y' z' : Nat) (V : Bool) : Nat := if V then apartW x y z x' y' z' else 0
set_option maxHeartbeats 1000000 in
theorem spec_LooksApart (x y z x' y' z' : Nat) (hb : x < 4294967296 ∧ y < 4294967296 ∧ z < 4294967296) (hb' : x' < 4294967296 ∧ y' < 4294967296 ∧ z' < 4294967296) (w : World) :
    Calls Try.prog 41 #[.agg #[.float .f32 x, .float .f32 y, .float .f32 z], .agg #[.float .f32 x', .float .f32 y', .float .f32 z']] w (Ret (.tuple #[.float .f32 (apartX x y z x' y' z' (lookB x y z && lookB x' y' z')), .int .i64 (if lookB x y z && lookB x' y' z' then 0 else 1)]) w) := by
  have H1 := Lib.hid (fun W c0 c1 c2 => spec_l03Look w.heap.size x y z W c0 c1 c2)
  have H2 := Lib.hid (fun W c0 c1 c2 => spec_l03Look (w.heap.size + 1) x' y' z' W c0 c1 c2)
  have HD : Hid (∀ x y z, (isPart x && isPart y && isPart z) = lookB x y z) := fun _ _ _ => rfl
  simp only [HD.out] at H1 H2
  have HU := Lib.hid (fun h => look_upto (x := x) (y := y) (z := z) h hb.1 hb.2.1 hb.2.2)
  have HU' := Lib.hid (fun h => look_upto (x := x') (y := y') (z := z') h hb'.1 hb'.2.1 hb'.2.2)
  cases hV : lookB x y z
  · rw [hV] at H1
    clear HU HU' hV HD hb hb'
    have hR : Hid (apartX x y z x' y' z' (false && lookB x' y' z') = 0) := rfl
    rw [hR.out]
    go_enter Try.func41, Try.ntmps41
    go_wp2_with (go_at_call 74; ((with_reducible refine (H1.out _ (by simp [go_sem]) (by simp [go_sem]) (by simp [go_sem])).mono ?_); rintro e w' ⟨rfl, rfl⟩))
    go_ret2; refine ⟨rfl, ?_⟩; (repeat (first | exact Below.refl _ _ | assumption | refine below_new ?_ _ | refine below_step ?_ (by assumption) | refine Below.drew ?_ | refine below_dn ?_ _ | refine Below.setCell ?_ (by simp <;> omega) _))
  · cases hV' : lookB x' y' z'
    · rw [hV] at H1
      rw [hV'] at H2
      clear HU HU' hV hV' HD hb hb'
      have hR : Hid (apartX x y z x' y' z' (true && false) = 0) := rfl
      rw [hR.out]
      go_enter Try.func41, Try.ntmps41
      go_wp2_with (first | (go_at_call 74; ((with_reducible refine (H1.out _ (by simp [go_sem]) (by simp [go_sem]) (by simp [go_sem])).mono ?_); rintro e w' ⟨rfl, rfl⟩)) | (go_at_call 74; ((with_reducible refine (H2.out _ (by simp [go_sem]) (by simp [go_sem]) (by simp [go_sem])).mono ?_); rintro e w' ⟨rfl, rfl⟩)))
      go_ret2; refine ⟨rfl, ?_⟩; (repeat (first | exact Below.refl _ _ | assumption | refine below_new ?_ _ | refine below_step ?_ (by assumption) | refine Below.drew ?_ | refine below_dn ?_ _ | refine Below.setCell ?_ (by simp <;> omega) _))
    · have HA := Lib.hid (fun b b' w c0 c1 c2 d0 d1 d2 => l03Apart_any b b' x y z x' y' z' (HU.out hV) (HU'.out hV') w c0 c1 c2 d0 d1 d2)
      rw [hV] at H1
      rw [hV'] at H2
      have hR : Hid (apartX x y z x' y' z' (true && true) = apartW x y z x' y' z') := rfl
      rw [hR.out]
      obtain ⟨R, hRR⟩ : ∃ R, apartW x y z x' y' z' = R := ⟨_, rfl⟩
      rw [hRR] at HA
      rw [hRR]
      clear HU HU' hV hV' HD hb hb' hR hRR
      go_enter Try.func41, Try.ntmps41
      go_wp2_with (first | (go_at_call 74; ((with_reducible refine (H1.out _ (by simp [go_sem]) (by simp [go_sem]) (by simp [go_sem])).mono ?_); rintro e w' ⟨rfl, rfl⟩)) | (go_at_call 74; ((with_reducible refine (H2.out _ (by simp [go_sem]) (by simp [go_sem]) (by simp [go_sem])).mono ?_); rintro e w' ⟨rfl, rfl⟩)) | (go_at_call 75; ((with_reducible refine (HA.out _ _ _ (by simp [go_sem]) (by simp [go_sem]) (by simp [go_sem]) (by simp [go_sem]) (by simp [go_sem]) (by simp [go_sem])).mono ?_); rintro e w' ⟨rfl, m, rfl⟩)))
      go_ret2; refine ⟨rfl, ?_⟩; (repeat (first | exact Below.refl _ _ | assumption | refine below_new ?_ _ | refine below_step ?_ (by assumption) | refine Below.drew ?_ | refine below_dn ?_ _ | refine Below.setCell ?_ (by simp <;> omega) _))
set_option maxHeartbeats 1000000 in
theorem impl_LooksApart (x y z x' y' z' : Nat) (hb : x < 4294967296 ∧ y < 4294967296 ∧ z < 4294967296) (hb' : x' < 4294967296 ∧ y' < 4294967296 ∧ z' < 4294967296) (w : World) :
    Calls Try.prog 43 #[.agg #[.float .f32 x, .float .f32 y, .float .f32 z], .agg #[.float .f32 x', .float .f32 y', .float .f32 z']] w (Ret (.tuple #[.float .f32 (apartX x y z x' y' z' (lookB x y z && lookB x' y' z')), .int .i64 (if lookB x y z && lookB x' y' z' then 0 else 1)]) w) := by
  have H1 := Lib.hid (fun w => impl_ValidLook x y z w)
  have H2 := Lib.hid (fun w => impl_ValidLook x' y' z' w)
  have HD : Hid (∀ x y z, (isPart x && isPart y && isPart z) = lookB x y z) := fun _ _ _ => rfl
  simp only [HD.out] at H1 H2
  have HU := Lib.hid (fun h => look_upto (x := x) (y := y) (z := z) h hb.1 hb.2.1 hb.2.2)
  have HU' := Lib.hid (fun h => look_upto (x := x') (y := y') (z := z') h hb'.1 hb'.2.1 hb'.2.2)
  cases hV : lookB x y z
  · rw [hV] at H1
    clear HU HU' hV HD hb hb'
    have hR : Hid (apartX x y z x' y' z' (false && lookB x' y' z') = 0) := rfl
    rw [hR.out]
    go_enter Try.func43, Try.ntmps43
    go_wp2_with fail; ((with_reducible refine (H1.out _).mono ?_); rintro e w1 ⟨rfl, hb1⟩); obtain ⟨hc1, hf1⟩ := bcell hb1
    go_wp2
    go_ret2; refine ⟨rfl, ?_⟩; (repeat (first | exact Below.refl _ _ | assumption | refine below_new ?_ _ | refine below_step ?_ (by assumption) | refine Below.drew ?_ | refine below_dn ?_ _ | refine Below.setCell ?_ (by simp <;> omega) _))
  · cases hV' : lookB x' y' z'
    · rw [hV] at H1
      rw [hV'] at H2
      clear HU HU' hV hV' HD hb hb'
      have hR : Hid (apartX x y z x' y' z' (true && false) = 0) := rfl
      rw [hR.out]
      go_enter Try.func43, Try.ntmps43
      go_wp2_with fail; ((with_reducible refine (H1.out _).mono ?_); rintro e w1 ⟨rfl, hb1⟩); obtain ⟨hc1, hf1⟩ := bcell hb1
      have hz1 : w.heap.size + 1 < w1.heap.size := by (have := hb1.size; simp at this; omega)
      go_wp2_with fail; ((with_reducible refine (H2.out _).mono ?_); rintro e w2 ⟨rfl, hb2⟩); obtain ⟨hc2, hf2⟩ := bcell hb2
      go_wp2
      go_ret2; refine ⟨rfl, ?_⟩; (repeat (first | exact Below.refl _ _ | assumption | refine below_new ?_ _ | refine below_step ?_ (by assumption) | refine Below.drew ?_ | refine below_dn ?_ _ | refine Below.setCell ?_ (by simp <;> omega) _))
    · have HA := Lib.hid (fun w => apart_any x y z x' y' z' (HU.out hV) (HU'.out hV') w)
      rw [hV] at H1
      rw [hV'] at H2
      have hR : Hid (apartX x y z x' y' z' (true && true) = apartW x y z x' y' z') := rfl
      rw [hR.out]
      obtain ⟨R, hRR⟩ : ∃ R, apartW x y z x' y' z' = R := ⟨_, rfl⟩
      rw [hRR] at HA
      rw [hRR]
      clear HU HU' hV hV' HD hb hb' hR hRR
      go_enter Try.func43, Try.ntmps43
      go_wp2_with fail; ((with_reducible refine (H1.out _).mono ?_); rintro e w1 ⟨rfl, hb1⟩); obtain ⟨hc1, hf1⟩ := bcell hb1
      have hz1 : w.heap.size + 1 < w1.heap.size := by (have := hb1.size; simp at this; omega)
      go_wp2_with fail; ((with_reducible refine (H2.out _).mono ?_); rintro e w2 ⟨rfl, hb2⟩); obtain ⟨hc2, hf2⟩ := bcell hb2
      have hz2 : w.heap.size + 1 < w2.heap.size := Nat.lt_of_lt_of_le hz1 hb2.size
      have hz1' : w.heap.size < w1.heap.size := by omega
      go_wp2_with fail; ((with_reducible refine (HA.out _).mono ?_); rintro e w3 ⟨rfl, hb3⟩); obtain ⟨hc3, hf3⟩ := bcell hb3
      go_wp2
      go_ret2; refine ⟨rfl, ?_⟩; (repeat (first | exact Below.refl _ _ | assumption | refine below_new ?_ _ | refine below_step ?_ (by assumption) | refine Below.drew ?_ | refine below_dn ?_ _ | refine Below.setCell ?_ (by simp <;> omega) _))
end Go.Proofs.Ytckapidlhhjipaa
