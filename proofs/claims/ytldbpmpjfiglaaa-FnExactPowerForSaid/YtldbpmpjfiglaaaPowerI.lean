/-
  CONTRACTS: coolers: the power that is enough, the program's own search.
-/
import Derived.Test.YtldbpmpjfiglaaaPower
set_option linter.unusedVariables false
set_option linter.unusedSimpArgs false
namespace Go.Proofs.Ytldbpmpjfiglaaa
open Go.RowKit Go.FV

/-- The five variables that the search keeps, in blocks of their own from 'b' on. -/
def PInv (l u k x o wt : Nat) (n b : Nat) (w wr : World) : Prop :=
  Below b w wr ∧ b + 4 < wr.heap.size ∧ (∃ q : Nat, wr.heap[b]? = some (.cells #[.float .f32 l, .float .f32 u, .float .f32 q, .float .f32 k] 62 (0, 0))) ∧
    wr.heap[b + 1]? = some (.cells #[.float .f32 x] 23 (0, 0)) ∧ wr.heap[b + 1 + 1]? = some (.cells #[.float .f32 o] 23 (0, 0)) ∧
    wr.heap[b + 1 + 1 + 1]? = some (.cells #[.float .f32 wt] 23 (0, 0)) ∧ wr.heap[b + 1 + 1 + 1 + 1]? = some (.cells #[.int .i64 n] 2 (0, 0))
theorem PInv_start (l u p k x o wt n : Nat) (w : World) : PInv l u k x o wt n w.heap.size w (((((w.alloc (.cells #[.float .f32 l, .float .f32 u, .float .f32 p, .float .f32 k] 62)).alloc (.cells #[.float .f32 x] 23)).alloc (.cells #[.float .f32 o] 23)).alloc (.cells #[.float .f32 wt] 23)).alloc (.cells #[.int .i64 n] 2)) := by
  refine ⟨by (repeat (first | exact Below.refl _ _ | assumption | refine below_new ?_ _ | refine below_step ?_ (by assumption) | refine Below.drew ?_ | refine below_dn ?_ _ | refine Below.setCell ?_ (by simp <;> omega) _)), by simp [size_al], ⟨p, ?_⟩, ?_, ?_, ?_, ?_⟩
  all_goals (show (((((w.heap.push _).push _).push _).push _).push _)[_]? = _; simp only [Array.getElem?_push, Array.size_push]; repeat (first | rw [if_pos trivial] | rw [if_pos (by omega)] | rw [if_neg (by omega)]))
theorem PInv_below {l u k x o wt n b : Nat} {w wa wb : World} (hI : PInv l u k x o wt n b w wa) (hb : Below wa.heap.size wa wb) : PInv l u k x o wt n b w wb := by
  obtain ⟨hB, hsz, ⟨q, g0⟩, g1, g2, g3, g4⟩ := hI
  exact ⟨hB.trans (hb.mono (by omega)), Nat.lt_of_lt_of_le hsz hb.size, ⟨q, below_heap hb g0⟩, below_heap hb g1, below_heap hb g2, below_heap hb g3, below_heap hb g4⟩
set_option maxRecDepth 100000 in
set_option maxHeartbeats 1000000 in
theorem PowerFor_1 (l u k x o wt pw : Nat) (hp : FL.upto 1 pw) (hk : FL.upto 1 k) (ho : FL.upto 1 o) (hx : FL.upto 2 x) (n : Nat) (hn : n ≤ 200) (b : Nat) (w wr : World) (hI : PInv l u k x o wt n b w wr) :
    Calls Try.prog 93 #[.float .f32 pw, .pointer (some ⟨b, 0, none⟩), .pointer (some ⟨b + 1, 0, none⟩), .pointer (some ⟨b + 1 + 1, 0, none⟩), .pointer (some ⟨b + 1 + 1 + 1 + 1, 0, none⟩), .pointer (some ⟨b + 1 + 1 + 1, 0, none⟩)] wr
      fun e w' => e = .returned (.bool (enoughB l u k o x wt n pw)) ∧ PInv l u k x o wt n b w w' := by
  obtain ⟨hB, hsz, ⟨q, g0⟩, g1, g2, g3, g4⟩ := hI
  have HS := Lib.hid (fun w => steps_any l u pw k x o false hp hk ho hx n hn w)
  have c0 : wr.cell? ⟨b, 0, none⟩ = some (.float .f32 l) := cell_of_row _ _ _ _ _ _ g0
  have c1 : wr.cell? ⟨b, 1, none⟩ = some (.float .f32 u) := cell_of_row _ _ _ _ _ _ g0
  have c2 : wr.cell? ⟨b, 2, none⟩ = some (.float .f32 q) := cell_of_row _ _ _ _ _ _ g0
  have c3 : wr.cell? ⟨b, 3, none⟩ = some (.float .f32 k) := cell_of_row _ _ _ _ _ _ g0
  have f2 : wr.frozen? ⟨b, 2, none⟩ = false := frozen_of_row _ _ _ _ _ g0
  have d1 : wr.cell? ⟨b + 1, 0, none⟩ = some (.float .f32 x) := cell_of_row _ _ _ _ _ _ g1
  have d2 : wr.cell? ⟨b + 1 + 1, 0, none⟩ = some (.float .f32 o) := cell_of_row _ _ _ _ _ _ g2
  have d3 : wr.cell? ⟨b + 1 + 1 + 1, 0, none⟩ = some (.float .f32 wt) := cell_of_row _ _ _ _ _ _ g3
  have d4 : wr.cell? ⟨b + 1 + 1 + 1 + 1, 0, none⟩ = some (.int .i64 n) := cell_of_row _ _ _ _ _ _ g4
  have hsz' : Hid (b + 1 + 1 + 1 < (wr.setCell ⟨b, 2, none⟩ (.float .f32 pw)).heap.size) := by
    show b + 1 + 1 + 1 < _
    simp [go_sem]; omega
  have e3 : Hid ((wr.setCell ⟨b, 2, none⟩ (.float .f32 pw)).cell? ⟨b + 1 + 1 + 1, 0, none⟩ = some (.float .f32 wt)) := by
    rw [cell_of_row _ _ _ _ _ _ (by rw [heap_setCell_other _ _ _ _ (by simp; omega)]; exact g3)]; rfl
  have G : Hid (PInv l u k x o wt n b w (wr.setCell ⟨b, 2, none⟩ (.float .f32 pw))) := by
    refine ⟨Below.setCell hB (by simp) _, by simp [go_sem]; omega, ⟨pw, by rw [heap_setCell_same _ _ _ _ _ _ g0]; rfl⟩, ?_, ?_, ?_, ?_⟩
    all_goals (rw [heap_setCell_other _ _ _ _ (by simp <;> omega)]; assumption)
  have hE : Hid (∀ a, a = (coolP l u pw k o x false n).1 → fle a wt = enoughB l u k o x wt n pw) := fun a h => by subst h; rfl
  obtain ⟨R, hR⟩ : ∃ R, (coolP l u pw k o x false n).1 = R := ⟨_, rfl⟩
  have hF := hE.out R hR.symm
  rw [hR] at HS
  unfold fle at hF
  clear g0 g1 g2 g3 g4 hB hE hR hp hk ho hx
  go_enter Try.func93, Try.ntmps93
  go_wp2_with ((go_at_call 91; ((with_reducible refine (HS.out _).mono ?_); rintro e w9 ⟨rfl, hb9⟩); obtain ⟨hc9, hf9⟩ := bcell hb9); have e9 := (hc9 _ 0 hsz'.out).trans e3.out)
  go_ret; refine ⟨by rw [← hF]; rfl, ?_⟩
  obtain ⟨hB, hsz, ⟨q, g0⟩, g1, g2, g3, g4⟩ := G.out
  exact ⟨hB.trans (hb9.mono (by omega)), Nat.lt_of_lt_of_le hsz hb9.size, ⟨q, below_heap hb9 g0⟩, below_heap hb9 g1, below_heap hb9 g2, below_heap hb9 g3, below_heap hb9 g4⟩
theorem enter_PowerFor_1 (x : Nat) (a b c d e : Option Addr) (w : World) : (callFunc 93 (#[.float .f32 x] ++ #[.pointer a, .pointer b, .pointer c, .pointer d, .pointer e])).run Try.prog w = .ok (.enter 93 (#[.float .f32 x] ++ #[.pointer a, .pointer b, .pointer c, .pointer d, .pointer e])) w := by kernel_rfl
set_option maxRecDepth 100000 in
set_option maxHeartbeats 2000000 in
theorem impl_PowerFor (l u p k x o wt : Nat) (n : Int) (bp : p < 4294967296) (bk : k < 4294967296) (bx : x < 4294967296) (bo : o < 4294967296) (w : World) :
    Calls Try.prog 47 #[.agg #[.float .f32 l, .float .f32 u, .float .f32 p, .float .f32 k], .float .f32 x, .float .f32 o, .float .f32 wt, .int .i64 n] w
      (Ret (.tuple #[.float .f32 (powerX l u k o x wt n (coolerB l u p k) (isPart x && isPart o && isPart wt && stepsB n)), .int .i64 (powerE l u k o x wt n (coolerB l u p k) (isPart x && isPart o && isPart wt && stepsB n))]) w) := by
  have HC := Lib.hid (fun w => impl_ValidCooler l u p k w)
  have HD : Hid (coolerB l u p k = (isPart l && isPart u && isPart p && isPart k && fle l u)) := rfl
  simp only [← HD.out] at HC
  have H3 := Lib.hid (fun w => impl_isSteps n w)
  have HA : Hid (∀ b c (w : World), w.cell? ⟨b, 0, none⟩ = some (.float .f32 x) → w.cell? ⟨b, 1, none⟩ = some (.float .f32 o) → w.cell? ⟨b, 2, none⟩ = some (.float .f32 wt) → Calls Try.prog 73 #[.slice (some ⟨b, 0, none⟩) 3 c] w fun e w' => e = .returned (.bool (isPart x && isPart o && isPart wt)) ∧ w = w') := by
    intro b c w h0 h1 h2
    exact (areParts_n b 0 c 3 [x, o, wt] rfl w (by decide) (by intro k hk; rcases (show k = 0 ∨ k = 1 ∨ k = 2 from by omega) with rfl | rfl | rfl <;> simpa [ix])).mono fun e w' h => ⟨by rw [h.1]; simp [Bool.and_assoc], h.2⟩
  by_cases hall : coolerB l u p k = true ∧ (isPart x && isPart o && isPart wt) = true ∧ stepsB n = true
  · obtain ⟨hV, hF, hT⟩ := hall
    have hF' := hF
    simp only [Bool.and_eq_true] at hF'
    obtain ⟨⟨hP, hQ⟩, -⟩ := hF'
    obtain ⟨hp, hk⟩ := coolerB_upto hV bp bk
    have ho := part_upto hQ (fin_part hQ bo)
    have hx := upto_two (part_upto hP (fin_part hP bx))
    obtain ⟨n, rfl, hn⟩ := stepsB_nat hT
    rw [hV] at HC
    rw [hF] at HA
    rw [hT] at H3
    rw [hV, hF, hT]
    simp only [Bool.and_self]
    have HS := Lib.hid (fun pw b w wr (hp : FL.upto 1 pw) (hI : PInv l u k x o wt n b w wr) => PowerFor_1 l u k x o wt pw hp hk ho hx n hn b w wr hI)
    have hX : Hid (powerX l u k o x wt n true true = (if enoughB l u k o x wt n 1065353216 then (halves (enoughB l u k o x wt n) 30).2 else 0)) := by unfold powerX; rw [Bool.and_self, Bool.true_and, Int.toNat_natCast]; rfl
    have hY : Hid (powerE l u k o x wt n true true = (if enoughB l u k o x wt n 1065353216 then 0 else 6)) := by unfold powerE; rw [Int.toNat_natCast]; rfl
    rw [hX.out, hY.out]
    clear hV hF hP hQ hT bp bk bx bo hX hY hp hk ho hx HD
    obtain ⟨E, hE⟩ : ∃ E, enoughB l u k o x wt n = E := ⟨_, rfl⟩
    rw [hE] at HS
    rw [hE]
    clear hE
    have HH : Hid (∀ b wr, PInv l u k x o wt n b w wr → Calls Try.prog 76 #[.func (.func 93) #[] #[.pointer (some ⟨b, 0, none⟩), .pointer (some ⟨b + 1, 0, none⟩), .pointer (some ⟨b + 1 + 1, 0, none⟩), .pointer (some ⟨b + 1 + 1 + 1 + 1, 0, none⟩), .pointer (some ⟨b + 1 + 1 + 1, 0, none⟩)]] wr fun e w' => e = .returned (.float .f32 (halves E 30).2) ∧ PInv l u k x o wt n b w w') := fun b wr hI =>
      halve_any 93 _ E (PInv l u k x o wt n b w) wr hI (fun x w => enter_PowerFor_1 x _ _ _ _ _ w) (fun x' w' hx' hI' => HS.out x' b w w' hx' hI')
    have hEn := enter_PowerFor_1 1065353216
    have G0 := Lib.hid (PInv_start l u p k x o wt n w)
    cases q : E 1065353216
    · simp only [Bool.false_eq_true, ↓reduceIte]
      have HS1 := Lib.hid (fun b w wr hI => HS.out 1065353216 b w wr FL.upto_one hI)
      rw [q] at HS1
      go_enter Try.func47, Try.ntmps47
      go_wp2_with fail; ((with_reducible refine (HC.out _).mono ?_); rintro e w1 ⟨rfl, hb1⟩); obtain ⟨hc1, hf1⟩ := bcell hb1
      have hz1 : w.heap.size + 1 + 1 + 1 + 1 < w1.heap.size := by (have := hb1.size; simp at this; omega)
      have G1 := Lib.hid (fun o => PInv_below (G0.out) (below_new hb1 o))
      clear G0
      go_wp2_with (first | (go_at_call 73; ((with_reducible refine (HA.out _ _ _ (by simp [go_sem]) (by simp [go_sem]) (by simp [go_sem])).mono ?_); rintro e w' ⟨rfl, rfl⟩)) | (go_at_call 90; ((with_reducible refine (H3.out _).mono ?_); rintro e w' ⟨rfl, rfl⟩)) | (go_at_call 93; ((with_reducible refine (HS1.out _ w _ (G1.out _)).mono ?_); rintro e w2 ⟨rfl, G2⟩; have G2 := Lib.hid G2)) | (go_at_call 76; ((with_reducible refine (HH.out _ _ G2.out).mono ?_); rintro e w3 ⟨rfl, G3⟩; have G3 := Lib.hid G3)))
      go_ret2; exact ⟨rfl, G2.out.1⟩
    · simp only [↓reduceIte]
      have HS1 := Lib.hid (fun b w wr hI => HS.out 1065353216 b w wr FL.upto_one hI)
      rw [q] at HS1
      go_enter Try.func47, Try.ntmps47
      go_wp2_with fail; ((with_reducible refine (HC.out _).mono ?_); rintro e w1 ⟨rfl, hb1⟩); obtain ⟨hc1, hf1⟩ := bcell hb1
      have hz1 : w.heap.size + 1 + 1 + 1 + 1 < w1.heap.size := by (have := hb1.size; simp at this; omega)
      have G1 := Lib.hid (fun o => PInv_below (G0.out) (below_new hb1 o))
      clear G0
      go_wp2_with (first | (go_at_call 73; ((with_reducible refine (HA.out _ _ _ (by simp [go_sem]) (by simp [go_sem]) (by simp [go_sem])).mono ?_); rintro e w' ⟨rfl, rfl⟩)) | (go_at_call 90; ((with_reducible refine (H3.out _).mono ?_); rintro e w' ⟨rfl, rfl⟩)) | (go_at_call 93; ((with_reducible refine (HS1.out _ w _ (G1.out _)).mono ?_); rintro e w2 ⟨rfl, G2⟩; have G2 := Lib.hid G2)) | (go_at_call 76; ((with_reducible refine (HH.out _ _ G2.out).mono ?_); rintro e w3 ⟨rfl, G3⟩; have G3 := Lib.hid G3)))
      go_ret2; exact ⟨rfl, G3.out.1⟩
  · have hb : (coolerB l u p k && (isPart x && isPart o && isPart wt && stepsB n)) = false := Bool.eq_false_iff.2 fun hb => hall (by
      rw [Bool.and_eq_true, Bool.and_eq_true] at hb
      exact hb)
    have hR : Hid (powerX l u k o x wt n (coolerB l u p k) (isPart x && isPart o && isPart wt && stepsB n) = 0 ∧ powerE l u k o x wt n (coolerB l u p k) (isPart x && isPart o && isPart wt && stepsB n) = asked (coolerB l u p k) (isPart x && isPart o && isPart wt && stepsB n)) := by
      constructor
      · unfold powerX; rw [hb]; rfl
      · unfold powerE asked
        cases hV : coolerB l u p k
        · rfl
        · rw [hV, Bool.true_and] at hb
          rw [hb]; rfl
    rw [hR.out.1, hR.out.2]
    clear hR hb
    obtain ⟨V, hV⟩ : ∃ V, coolerB l u p k = V := ⟨_, rfl⟩
    obtain ⟨F, hF⟩ : ∃ F, (isPart x && isPart o && isPart wt) = F := ⟨_, rfl⟩
    obtain ⟨S, hS⟩ : ∃ S, stepsB n = S := ⟨_, rfl⟩
    rw [hV, hF, hS] at hall
    rw [hV] at HC
    rw [hF] at HA
    rw [hS] at H3
    rw [hV, hF, hS]
    clear hV hF hS HD bp bk bx bo
    cases V <;> cases F <;> cases S
    all_goals first
      | exact absurd ⟨rfl, rfl, rfl⟩ hall
      | (clear hall
         simp only [Bool.and_self, Bool.and_false, Bool.false_and]
         go_enter Try.func47, Try.ntmps47
         go_wp2_with fail; ((with_reducible refine (HC.out _).mono ?_); rintro e w1 ⟨rfl, hb1⟩); obtain ⟨hc1, hf1⟩ := bcell hb1
         have hz1 : w.heap.size + 1 + 1 + 1 + 1 < w1.heap.size := by (have := hb1.size; simp at this; omega)
         go_wp2_with (first | (go_at_call 73; ((with_reducible refine (HA.out _ _ _ (by simp [go_sem]) (by simp [go_sem]) (by simp [go_sem])).mono ?_); rintro e w' ⟨rfl, rfl⟩)) | (go_at_call 90; ((with_reducible refine (H3.out _).mono ?_); rintro e w' ⟨rfl, rfl⟩)))
         go_ret2; refine ⟨rfl, ?_⟩; (repeat (first | exact Below.refl _ _ | assumption | refine below_new ?_ _ | refine below_step ?_ (by assumption) | refine Below.drew ?_ | refine below_dn ?_ _ | refine Below.setCell ?_ (by simp <;> omega) _)))
end Go.Proofs.Ytldbpmpjfiglaaa
