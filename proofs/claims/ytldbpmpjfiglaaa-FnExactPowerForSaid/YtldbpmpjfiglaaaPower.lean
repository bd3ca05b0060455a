/-
  CONTRACTS: coolers: the power that is enough.
-/
import Derived.Test.YtldbpmpjfiglaaaStepsN
import Derived.Test.YtldbpmpjfiglaaaHalve
set_option linter.unusedVariables false
set_option linter.unusedSimpArgs false
namespace Go.FL
open Ieee
/-- Finite words: at most, or greater. -/
theorem le_or_gt {x y : Nat} (hx : fin x) (hy : fin y) : (single.order x y = some .lt ∨ single.order x y = some .eq ∨ single.order x y = some .gt) := by
  rw [order_fin hx.1 hy.1]
  rcases compare (sv x) (sv y) with _ | _ | _ <;> simp
end Go.FL
namespace Go.Proofs.Ytldbpmpjfiglaaa
open Go.RowKit Go.FV

theorem fgt_not {x y : Nat} (hx : FL.fin x) (hy : FL.fin y) : fgt x y = !fle x y := by
  unfold fle fgt ord
  rw [show FloatKind.f32.format = Ieee.single from rfl]
  rcases FL.le_or_gt hx hy with h | h | h <;> rw [h] <;> rfl
/-- The warmth behind steps with a power. -/
def behindW (l h k o x n pw : Nat) : Nat := (coolP l h pw k o x false n).1
theorem behindW_upto {l h k o x n pw : Nat} (hp : FL.upto 1 pw) (hk : FL.upto 1 k) (ho : FL.upto 1 o) (hx : FL.upto 2 x) : FL.upto 2 (behindW l h k o x n pw) := coolP_upto hp hk ho hx n
def enoughB (l h k o x wt n pw : Nat) : Bool := fle (behindW l h k o x n pw) wt
def powerX (l h k o x wt : Nat) (n : Int) (V F : Bool) : Nat := if V && F && enoughB l h k o x wt n.toNat 1065353216 then (halves (enoughB l h k o x wt n.toNat) 30).2 else 0
def powerE (l h k o x wt : Nat) (n : Int) (V F : Bool) : Int := if V then (if F then (if enoughB l h k o x wt n.toNat 1065353216 then 0 else 6) else 2) else 1
set_option maxRecDepth 100000 in
set_option maxHeartbeats 1000000 in
theorem l02Behind_any (l h p k pw x o : Nat) (hp : FL.upto 1 pw) (hk : FL.upto 1 k) (ho : FL.upto 1 o) (hx : FL.upto 2 x) (n : Nat) (hn : n ≤ 200) (w : World) :
    Calls Try.prog 92 #[.agg #[.float .f32 l, .float .f32 h, .float .f32 p, .float .f32 k], .float .f32 pw, .float .f32 x, .float .f32 o, .int .i64 n] w (Ret (.float .f32 (behindW l h k o x n pw)) w) := by
  have HS := Lib.hid (fun b j w c0 c1 c2 c3 => l02Cool_any b l h pw k (coolP l h pw k o x false j).1 o (coolP l h pw k o x false j).2 hp hk ho (coolP_upto hp hk ho hx j) w c0 c1 c2 c3)
  obtain ⟨X, hX⟩ : ∃ X : Nat → Nat, ∀ j, (coolP l h pw k o x false j).1 = X j := ⟨_, fun _ => rfl⟩
  obtain ⟨B, hB⟩ : ∃ B : Nat → Bool, ∀ j, (coolP l h pw k o x false j).2 = B j := ⟨_, fun _ => rfl⟩
  have h1 : Hid (∀ j, coolW l h pw k o (X j) (B j) = X (j + 1)) := fun j => by rw [← hX, ← hX, ← hB]; rfl
  have h2 : Hid (∀ j, onB l h (X j) (B j) = B (j + 1)) := fun j => by rw [← hX, ← hB, ← hB]; rfl
  have hX0 : Hid (X 0 = x) := (hX 0).symm
  have hB0 : Hid (B 0 = false) := (hB 0).symm
  simp only [hX, hB, h1.out, h2.out] at HS
  have hE : Hid (behindW l h k o x n pw = X n) := hX n
  rw [hE.out]
  clear hX hB hp hk ho hx h1 h2 hE
  go_enter Try.func92, Try.ntmps92
  go_wp2
  go_loopw [2, 11, 12] (fun a b i wr => ∃ j : Nat, j ≤ n ∧ i = .int .i64 j ∧ a = .float .f32 (X j) ∧ b = .bool (B j) ∧ Below w.heap.size w wr ∧ w.heap.size < wr.heap.size ∧ wr.cell? ⟨w.heap.size, 0, none⟩ = some (.float .f32 l) ∧ wr.cell? ⟨w.heap.size, 1, none⟩ = some (.float .f32 h) ∧ wr.cell? ⟨w.heap.size, 2, none⟩ = some (.float .f32 pw) ∧ wr.cell? ⟨w.heap.size, 3, none⟩ = some (.float .f32 k)) (fun _ _ i _ => 200 - (intOf i).toNat)
  case atStart => exact ⟨0, by omega, rfl, by rw [hX0.out], by rw [hB0.out], by (repeat (first | exact Below.refl _ _ | assumption | refine below_new ?_ _ | refine below_step ?_ (by assumption) | refine Below.drew ?_ | refine below_dn ?_ _ | refine Below.setCell ?_ (by simp <;> omega) _)), by simp [go_sem], by simp [go_sem], by simp [go_sem], by simp [go_sem], by simp [go_sem]⟩
  case round =>
    obtain ⟨j, hj, rfl, rfl, rfl, hBl, hsz, c0, c1, c2, c3⟩ := hrel
    by_cases hlt : j < n
    · have HSj := Lib.hid (HS.out w.heap.size j wr c0 c1 c2 c3)
      have C0 := Lib.hid c0
      have C1 := Lib.hid c1
      have C2 := Lib.hid c2
      have C3 := Lib.hid c3
      go_wp2_with ((go_at_call 87; ((with_reducible refine (HSj.out).mono ?_); rintro e w9 ⟨rfl, hb9⟩); obtain ⟨hc9, hf9⟩ := bcell hb9))
      go_roundw
      case rel => exact ⟨j + 1, by omega, by go_num, rfl, rfl, below_step hBl hb9, Nat.lt_of_lt_of_le hsz hb9.size, (hc9 _ _ hsz).trans C0.out, (hc9 _ _ hsz).trans C1.out, (hc9 _ _ hsz).trans C2.out, (hc9 _ _ hsz).trans C3.out⟩
      case measure => simp [intOf]; omega
    · have : j = n := by omega
      subst this
      go_wp2
      go_ret; exact ⟨rfl, hBl⟩
set_option maxRecDepth 100000 in
set_option maxHeartbeats 2000000 in
theorem spec_PowerFor (l u p k x o wt : Nat) (n : Int) (bp : p < 4294967296) (bk : k < 4294967296) (bx : x < 4294967296) (bo : o < 4294967296) (bt : wt < 4294967296) (w : World) :
    Calls Try.prog 46 #[.agg #[.float .f32 l, .float .f32 u, .float .f32 p, .float .f32 k], .float .f32 x, .float .f32 o, .float .f32 wt, .int .i64 n] w
      (Ret (.tuple #[.float .f32 (powerX l u k o x wt n (coolerB l u p k) (isPart x && isPart o && isPart wt && stepsB n)), .int .i64 (powerE l u k o x wt n (coolerB l u p k) (isPart x && isPart o && isPart wt && stepsB n))]) w) := by
  have HC := Lib.hid (fun B => spec_l02Cooled w.heap.size l u p k B (w.alloc (.cells #[.float .f32 l, .float .f32 u, .float .f32 p, .float .f32 k] 62)) (by simp [go_sem]) (by simp [go_sem]) (by simp [go_sem]) (by simp [go_sem]))
  have H1 := Lib.hid (fun w => spec_part x (isPart x) rfl w)
  have H2 := Lib.hid (fun w => spec_part o (isPart o) rfl w)
  have H3 := Lib.hid (fun w => spec_part wt (isPart wt) rfl w)
  have H4 := Lib.hid (fun w => spec_l02Steps n w)
  by_cases hall : coolerB l u p k = true ∧ isPart x = true ∧ isPart o = true ∧ isPart wt = true ∧ stepsB n = true
  · obtain ⟨hV, hP, hQ, hS, hT⟩ := hall
    obtain ⟨hp, hk⟩ := coolerB_upto hV bp bk
    have ho := part_upto hQ (fin_part hQ bo)
    have hx := upto_two (part_upto hP (fin_part hP bx))
    have hwt := fin_part hS bt
    obtain ⟨n, rfl, hn⟩ := stepsB_nat hT
    rw [hV] at HC
    rw [hP] at H1
    rw [hQ] at H2
    rw [hS] at H3
    rw [hT] at H4
    rw [hV, hP, hQ, hS, hT]
    simp only [Bool.and_self]
    have HS := Lib.hid (fun pw w (hp : FL.upto 1 pw) => l02Behind_any l u p k pw x o hp hk ho hx n hn w)
    have HG := Lib.hid (fun pw (hp : FL.upto 1 pw) => fgt_not (behindW_upto (l := l) (h := u) (n := n) hp hk ho hx).1 hwt)
    have hX : Hid (powerX l u k o x wt n true true = (if enoughB l u k o x wt n 1065353216 then (halves (enoughB l u k o x wt n) 30).2 else 0)) := by unfold powerX; rw [Bool.and_self, Bool.true_and, Int.toNat_natCast]; rfl
    have hY : Hid (powerE l u k o x wt n true true = (if enoughB l u k o x wt n 1065353216 then 0 else 6)) := by unfold powerE; rw [Int.toNat_natCast]; rfl
    have hF : Hid (∀ pw, fle (behindW l u k o x n pw) wt = enoughB l u k o x wt n pw) := fun _ => rfl
    simp only [hF.out] at HG
    rw [hX.out, hY.out]
    clear hV hP hQ hS hT bp bk bx bo bt hX hY hp hk ho hx hwt
    obtain ⟨E, hE⟩ : ∃ E, enoughB l u k o x wt n = E := ⟨_, rfl⟩
    obtain ⟨Y, hY⟩ : ∃ Y, behindW l u k o x n = Y := ⟨_, rfl⟩
    rw [hE] at HG hF
    rw [hY] at HS HG hF
    rw [hE]
    clear hE hY
    have hG1 := HG.out 1065353216 FL.upto_one
    have hS1 := Lib.hid (fun w => HS.out 1065353216 w FL.upto_one)
    cases q : E 1065353216
    · rw [q] at hG1
      unfold fgt at hG1
      go_enter Try.func46, Try.ntmps46
      go_wp2_with (first | (go_at_call 66; ((with_reducible refine (H1.out _).mono ?_); rintro e w' ⟨rfl, rfl⟩)) | (go_at_call 66; ((with_reducible refine (H2.out _).mono ?_); rintro e w' ⟨rfl, rfl⟩)) | (go_at_call 66; ((with_reducible refine (H3.out _).mono ?_); rintro e w' ⟨rfl, rfl⟩)) | (go_at_call 89; ((with_reducible refine (H4.out _).mono ?_); rintro e w' ⟨rfl, rfl⟩)) | ((go_at_call 86; ((with_reducible refine (HC.out _).mono ?_); rintro e w1 ⟨rfl, hb1⟩); obtain ⟨hc1, hf1⟩ := bcell hb1); have hz1 : w.heap.size < w1.heap.size := by (have := hb1.size; simp at this; omega)) | (go_at_call 92; ((with_reducible refine (hS1.out _).mono ?_); rintro e w2 ⟨rfl, hb2⟩); obtain ⟨hc2, hf2⟩ := bcell hb2))
      all_goals (go_ret2; refine ⟨rfl, ?_⟩; (repeat (first | exact Below.refl _ _ | assumption | refine below_new ?_ _ | refine below_step ?_ (by assumption) | refine Below.drew ?_ | refine below_dn ?_ _ | refine Below.setCell ?_ (by simp <;> omega) _)))
    · rw [q] at hG1
      unfold fgt at hG1
      go_enter Try.func46, Try.ntmps46
      go_wp2_with (first | (go_at_call 66; ((with_reducible refine (H1.out _).mono ?_); rintro e w' ⟨rfl, rfl⟩)) | (go_at_call 66; ((with_reducible refine (H2.out _).mono ?_); rintro e w' ⟨rfl, rfl⟩)) | (go_at_call 66; ((with_reducible refine (H3.out _).mono ?_); rintro e w' ⟨rfl, rfl⟩)) | (go_at_call 89; ((with_reducible refine (H4.out _).mono ?_); rintro e w' ⟨rfl, rfl⟩)) | ((go_at_call 86; ((with_reducible refine (HC.out _).mono ?_); rintro e w1 ⟨rfl, hb1⟩); obtain ⟨hc1, hf1⟩ := bcell hb1); have hz1 : w.heap.size < w1.heap.size := by (have := hb1.size; simp at this; omega)) | (go_at_call 92; ((with_reducible refine (hS1.out _).mono ?_); rintro e w2 ⟨rfl, hb2⟩); obtain ⟨hc2, hf2⟩ := bcell hb2))
      go_loopw [13, 14, 15] (fun a b i wr => ∃ j : Nat, j ≤ 30 ∧ i = .int .i64 j ∧ a = .float .f32 (halves E j).1 ∧ b = .float .f32 (halves E j).2 ∧ Below (w.alloc (.cells #[.float .f32 l, .float .f32 u, .float .f32 p, .float .f32 k] 62)).heap.size (w.alloc (.cells #[.float .f32 l, .float .f32 u, .float .f32 p, .float .f32 k] 62)) wr) (fun _ _ i _ => 30 - (intOf i).toNat)
      case atStart => exact ⟨0, by omega, rfl, rfl, rfl, below_step hb1 hb2⟩
      case round =>
        obtain ⟨j, hj, rfl, rfl, rfl, hBl⟩ := hrel
        have hc := (bcell hBl).1
        have c0 : wr.cell? ⟨w.heap.size, 0, none⟩ = some (.float .f32 l) := by rw [hc _ _ (by simp [go_sem])]; simp [go_sem]
        have c1 : wr.cell? ⟨w.heap.size, 1, none⟩ = some (.float .f32 u) := by rw [hc _ _ (by simp [go_sem])]; simp [go_sem]
        have c2 : wr.cell? ⟨w.heap.size, 2, none⟩ = some (.float .f32 p) := by rw [hc _ _ (by simp [go_sem])]; simp [go_sem]
        have c3 : wr.cell? ⟨w.heap.size, 3, none⟩ = some (.float .f32 k) := by rw [hc _ _ (by simp [go_sem])]; simp [go_sem]
        clear hc
        by_cases hlt : j < 30
        · obtain ⟨ua, ub⟩ := halves_upto E j
          have hy := Lib.hid (fun a b => @halves_yes E j a b)
          have hn := Lib.hid (fun a b => @halves_no E j a b)
          obtain ⟨a, ha⟩ : ∃ a, (halves E j).1 = a := ⟨_, rfl⟩
          obtain ⟨b, hb⟩ : ∃ b, (halves E j).2 = b := ⟨_, rfl⟩
          have hab : Hid (halves E j = (a, b)) := by rw [← ha, ← hb]; rfl
          rw [ha] at ua
          rw [hb] at ub
          rw [ha, hb]
          clear ha hb
          have r1 := run_addW ua ub (by omega) 23
          have hm := (run_half (addW_spec ua ub (by omega)).2 23)
          have r2 := hm.2.1
          have um := hm.2.2
          have hy := Lib.hid (hy.out a b hab.out)
          have hn := Lib.hid (hn.out a b hab.out)
          clear hm ua ub hab
          obtain ⟨m, hm⟩ : ∃ m, halfW (addW a b) = m := ⟨_, rfl⟩
          rw [hm] at um r2 hy hn
          clear hm
          have HPm := Lib.hid (HS.out m wr um)
          have hFm := hF.out m
          clear um
          cases q2 : E m
          · rw [q2] at hFm
            unfold fle at hFm
            have hn2 := Lib.hid (hn.out q2)
            clear hn q2
            go_wp2_with ((go_at_call 92; ((with_reducible refine (HPm.out).mono ?_); rintro e w9 ⟨rfl, hb9⟩); obtain ⟨hc9, hf9⟩ := bcell hb9))
            refine ⟨?_, ?_⟩
            · first | exact ⟨j + 1, by omega, by go_num, by rw [hn2.out], by rw [hn2.out], below_step hBl hb9⟩ | ((repeat apply Exists.intro); refine ⟨?_, rfl⟩; exact ⟨j + 1, by omega, by go_num, by rw [hn2.out], by rw [hn2.out], below_step hBl hb9⟩)
            · simp [intOf]; omega
          · rw [q2] at hFm
            unfold fle at hFm
            have hy2 := Lib.hid (hy.out q2)
            clear hy q2
            go_wp2_with ((go_at_call 92; ((with_reducible refine (HPm.out).mono ?_); rintro e w9 ⟨rfl, hb9⟩); obtain ⟨hc9, hf9⟩ := bcell hb9))
            refine ⟨?_, ?_⟩
            · first | exact ⟨j + 1, by omega, by go_num, by rw [hy2.out], by rw [hy2.out], below_step hBl hb9⟩ | ((repeat apply Exists.intro); refine ⟨?_, rfl⟩; exact ⟨j + 1, by omega, by go_num, by rw [hy2.out], by rw [hy2.out], below_step hBl hb9⟩)
            · simp [intOf]; omega
        · have : j = 30 := by omega
          subst this
          go_wp2
          go_ret2; refine ⟨rfl, ?_⟩
          exact (below_new (Below.refl _ _) _).trans (hBl.mono (by simp))
  · have hR : Hid (powerX l u k o x wt n (coolerB l u p k) (isPart x && isPart o && isPart wt && stepsB n) = 0 ∧ powerE l u k o x wt n (coolerB l u p k) (isPart x && isPart o && isPart wt && stepsB n) = asked (coolerB l u p k) (isPart x && isPart o && isPart wt && stepsB n) ∧ asked (coolerB l u p k) (isPart x && isPart o && isPart wt && stepsB n) ≠ 0) := by
      cases hV : coolerB l u p k <;> cases hP : isPart x <;> cases hQ : isPart o <;> cases hS : isPart wt <;> cases hT : stepsB n <;> simp [hV, hP, hQ, hS, hT] at hall <;> exact ⟨rfl, rfl, by decide⟩
    rw [hR.out.1, hR.out.2.1]
    have hne := hR.out.2.2
    clear hR hall
    obtain ⟨V, hV⟩ : ∃ V, coolerB l u p k = V := ⟨_, rfl⟩
    obtain ⟨P, hP⟩ : ∃ P, isPart x = P := ⟨_, rfl⟩
    obtain ⟨Q, hQ⟩ : ∃ Q, isPart o = Q := ⟨_, rfl⟩
    obtain ⟨S, hS⟩ : ∃ S, isPart wt = S := ⟨_, rfl⟩
    obtain ⟨T, hT⟩ : ∃ T, stepsB n = T := ⟨_, rfl⟩
    rw [hV] at HC hne
    rw [hP] at H1 hne
    rw [hQ] at H2 hne
    rw [hS] at H3 hne
    rw [hT] at H4 hne
    rw [hV, hP, hQ, hS, hT]
    clear hV hP hQ hS hT bp bk bx bo
    cases V <;> cases P <;> cases Q <;> cases S <;> cases T
    all_goals first
      | exact absurd rfl hne
      | (clear hne
         go_enter Try.func46, Try.ntmps46
         go_wp2_with (first | (go_at_call 66; ((with_reducible refine (H1.out _).mono ?_); rintro e w' ⟨rfl, rfl⟩)) | (go_at_call 66; ((with_reducible refine (H2.out _).mono ?_); rintro e w' ⟨rfl, rfl⟩)) | (go_at_call 66; ((with_reducible refine (H3.out _).mono ?_); rintro e w' ⟨rfl, rfl⟩)) | (go_at_call 89; ((with_reducible refine (H4.out _).mono ?_); rintro e w' ⟨rfl, rfl⟩)) | (go_at_call 86; ((with_reducible refine (HC.out _).mono ?_); rintro e w1 ⟨rfl, hb1⟩); obtain ⟨hc1, hf1⟩ := bcell hb1))
         go_ret2; refine ⟨rfl, ?_⟩; (repeat (first | exact Below.refl _ _ | assumption | refine below_new ?_ _ | refine below_step ?_ (by assumption) | refine Below.drew ?_ | refine below_dn ?_ _ | refine Below.setCell ?_ (by simp <;> omega) _)))
end Go.Proofs.Ytldbpmpjfiglaaa
