/-
  CONTRACTS: the warmth that is enough, the program's own search.
-/
import Derived.Test.YtldbpmpjfiglaaaWarmth
set_option linter.unusedVariables false
set_option linter.unusedSimpArgs false
namespace Go.Proofs.Ytldbpmpjfiglaaa
open Go.RowKit Go.FV

/-- The four variables that the search keeps, in blocks of their own from 'b' on. -/
def WInv (x to g n b : Nat) (w wr : World) : Prop :=
  Below b w wr ∧ b + 3 < wr.heap.size ∧ wr.cell? ⟨b, 0, none⟩ = some (.float .f32 x) ∧ wr.cell? ⟨b + 1, 0, none⟩ = some (.float .f32 to) ∧
    wr.cell? ⟨b + 1 + 1, 0, none⟩ = some (.float .f32 g) ∧ wr.cell? ⟨b + 1 + 1 + 1, 0, none⟩ = some (.int .i64 n)
theorem WInv_below {x to g n b : Nat} {w wa wb : World} (hI : WInv x to g n b w wa) (hb : Below wa.heap.size wa wb) : WInv x to g n b w wb := by
  obtain ⟨hB, hsz, g1, g2, g3, g4⟩ := hI
  have hc := (bcell hb).1
  exact ⟨hB.trans (hb.mono (by omega)), Nat.lt_of_lt_of_le hsz hb.size, (hc _ _ (by omega)).trans g1, (hc _ _ (by omega)).trans g2, (hc _ _ (by omega)).trans g3, (hc _ _ (by omega)).trans g4⟩
theorem WInv_start (x to g n : Nat) (w : World) : WInv x to g n w.heap.size w ((((w.alloc (.cells #[.float .f32 x] 23)).alloc (.cells #[.float .f32 to] 23)).alloc (.cells #[.float .f32 g] 23)).alloc (.cells #[.int .i64 n] 2)) := by
  exact ⟨by (repeat (first | exact Below.refl _ _ | assumption | refine below_new ?_ _ | refine below_step ?_ (by assumption) | refine Below.drew ?_ | refine below_dn ?_ _ | refine Below.setCell ?_ (by simp <;> omega) _)), by simp [size_al], (cell_of_row _ _ _ #[.float .f32 x] 23 (0, 0) (by show ((((w.heap.push _).push _).push _).push _)[_]? = _; simp only [Array.getElem?_push, Array.size_push]; repeat (first | rw [if_pos trivial] | rw [if_pos (by omega)] | rw [if_neg (by omega)]))).trans rfl, (cell_of_row _ _ _ #[.float .f32 to] 23 (0, 0) (by show ((((w.heap.push _).push _).push _).push _)[_]? = _; simp only [Array.getElem?_push, Array.size_push]; repeat (first | rw [if_pos trivial] | rw [if_pos (by omega)] | rw [if_neg (by omega)]))).trans rfl, (cell_of_row _ _ _ #[.float .f32 g] 23 (0, 0) (by show ((((w.heap.push _).push _).push _).push _)[_]? = _; simp only [Array.getElem?_push, Array.size_push]; repeat (first | rw [if_pos trivial] | rw [if_pos (by omega)] | rw [if_neg (by omega)]))).trans rfl, (cell_of_row _ _ _ #[.int .i64 n] 2 (0, 0) (by show ((((w.heap.push _).push _).push _).push _)[_]? = _; simp only [Array.getElem?_push, Array.size_push]; repeat (first | rw [if_pos trivial] | rw [if_pos (by omega)] | rw [if_neg (by omega)]))).trans rfl⟩
set_option maxRecDepth 100000 in
set_option maxHeartbeats 2000000 in
theorem WarmthFor_1 (x to g m : Nat) (hx : FL.upto 1 x) (hm : FL.upto 1 m) (hg : FL.upto 1 g) (n : Nat) (hn : n ≤ 200) (b : Nat) (w wr : World) (hI : WInv x to g n b w wr) :
    Calls Try.prog 74 #[.float .f32 m, .pointer (some ⟨b, 0, none⟩), .pointer (some ⟨b + 1 + 1, 0, none⟩), .pointer (some ⟨b + 1 + 1 + 1, 0, none⟩), .pointer (some ⟨b + 1, 0, none⟩)] wr
      fun e w' => e = .returned (.bool (enoughR x to g n m)) ∧ WInv x to g n b w w' := by
  have HR := Lib.hid (fun w => ripened_any x m g n hx hm hg hn w)
  have hE : Hid (∀ a, a = grownN (rateW m g) x n → (!flt a to) = enoughR x to g n m) := fun a h => by subst h; rfl
  obtain ⟨R, hR⟩ : ∃ R, grownN (rateW m g) x n = R := ⟨_, rfl⟩
  have hF := hE.out R hR.symm
  rw [hR] at HR
  unfold flt at hF
  clear hE hR hx hm hg
  obtain ⟨hB, hsz, g1, g2, g3, g4⟩ := hI
  go_enter Try.func74, Try.ntmps74
  go_wp2_with fail
  go_region_held3 (fun W => (b + 3 < W.heap.size ∧ Below b w W) ∧ W.cell? ⟨b, 0, none⟩ = some (.float .f32 x) ∧ W.cell? ⟨b + 1, 0, none⟩ = some (.float .f32 to) ∧ W.cell? ⟨b + 1 + 1, 0, none⟩ = some (.float .f32 g) ∧ W.cell? ⟨b + 1 + 1 + 1, 0, none⟩ = some (.int .i64 n))
    (first | (go_keep; done) | ((try go_split_ands); exact ⟨⟨by first | assumption | (simp [go_sem]; omega), by first | assumption | exact Below.drew (by assumption)⟩, by assumption, by assumption, by assumption, by assumption⟩) | ((try go_split_ands); refine ⟨⟨?_, ?_⟩, ?_, ?_, ?_, ?_⟩; (focus (have := hb.size; omega)); (focus (refine Below.trans (by assumption) (hb.mono (by omega)))); (focus (rw [hb.cell (by simp; omega)]; assumption)); (focus (rw [hb.cell (by simp; omega)]; assumption)); (focus (rw [hb.cell (by simp; omega)]; assumption)); (focus (rw [hb.cell (by simp; omega)]; assumption))))
    (first | (go_at_call 75; (with_reducible refine (HR.out _).mono ?_); rintro e w1 ⟨rfl, hb⟩))
  rename_i hH
  go_wp2
  go_ret; refine ⟨by rw [← hF]; rfl, ?_⟩
  exact ⟨hH.1.2, hH.1.1, hH.2⟩
theorem enter_WarmthFor_1 (x : Nat) (a b c d : Option Addr) (w : World) : (callFunc 74 (#[.float .f32 x] ++ #[.pointer a, .pointer b, .pointer c, .pointer d])).run Try.prog w = .ok (.enter 74 (#[.float .f32 x] ++ #[.pointer a, .pointer b, .pointer c, .pointer d])) w := by kernel_rfl
set_option maxRecDepth 100000 in
set_option maxHeartbeats 2000000 in
theorem impl_WarmthFor (x to g : Nat) (n : Int) (bx : x < 4294967296) (bg : g < 4294967296) (w : World) :
    Calls Try.prog 25 #[.float .f32 x, .float .f32 to, .float .f32 g, .int .i64 n] w
      (Ret (.tuple #[.float .f32 (warmthX x to g n (isPart x && isPart to && isPart g && stepsB n)), .int .i64 (warmthE x to g n (isPart x && isPart to && isPart g && stepsB n))]) w) := by
  have H3 := Lib.hid (fun w => impl_isDays n w)
  have HA : Hid (∀ b c (w : World), w.cell? ⟨b, 0, none⟩ = some (.float .f32 x) → w.cell? ⟨b, 1, none⟩ = some (.float .f32 to) → w.cell? ⟨b, 2, none⟩ = some (.float .f32 g) → Calls Try.prog 73 #[.slice (some ⟨b, 0, none⟩) 3 c] w fun e w' => e = .returned (.bool (isPart x && isPart to && isPart g)) ∧ w = w') := by
    intro b c w h0 h1 h2
    exact (areParts_n b 0 c 3 [x, to, g] rfl w (by decide) (by intro k hk; rcases (show k = 0 ∨ k = 1 ∨ k = 2 from by omega) with rfl | rfl | rfl <;> simpa [ix])).mono fun e w' h => ⟨by rw [h.1]; simp [Bool.and_assoc], h.2⟩
  by_cases hall : (isPart x && isPart to && isPart g) = true ∧ stepsB n = true
  · obtain ⟨hF, hT⟩ := hall
    have hF' := hF
    simp only [Bool.and_eq_true] at hF'
    obtain ⟨⟨hP, hQ⟩, hS⟩ := hF'
    have hx := part_upto hP (fin_part hP bx)
    have hg := part_upto hS (fin_part hS bg)
    obtain ⟨n, rfl, hn⟩ := stepsB_nat hT
    rw [hF] at HA
    rw [hT] at H3
    rw [hF, hT]
    simp only [Bool.and_self]
    have HS := Lib.hid (fun m b w wr (hm : FL.upto 1 m) (hI : WInv x to g n b w wr) => WarmthFor_1 x to g m hx hm hg n hn b w wr hI)
    have hX : Hid (warmthX x to g n true = (if enoughR x to g n 1065353216 then (halves (enoughR x to g n) 30).2 else 0)) := by unfold warmthX; rw [Bool.true_and, Int.toNat_natCast]; rfl
    have hY : Hid (warmthE x to g n true = (if enoughR x to g n 1065353216 then 0 else 6)) := by unfold warmthE; rw [Int.toNat_natCast]; rfl
    rw [hX.out, hY.out]
    clear hF hP hQ hS hT bx bg hX hY hx hg
    obtain ⟨E, hE⟩ : ∃ E, enoughR x to g n = E := ⟨_, rfl⟩
    rw [hE] at HS
    rw [hE]
    clear hE
    have HH : Hid (∀ b wr, WInv x to g n b w wr → Calls Try.prog 76 #[.func (.func 74) #[] #[.pointer (some ⟨b, 0, none⟩), .pointer (some ⟨b + 1 + 1, 0, none⟩), .pointer (some ⟨b + 1 + 1 + 1, 0, none⟩), .pointer (some ⟨b + 1, 0, none⟩)]] wr fun e w' => e = .returned (.float .f32 (halves E 30).2) ∧ WInv x to g n b w w') := fun b wr hI =>
      halve_any 74 _ E (WInv x to g n b w) wr hI (fun x w => enter_WarmthFor_1 x _ _ _ _ w) (fun x' w' hx' hI' => HS.out x' b w w' hx' hI')
    have hEn := enter_WarmthFor_1 1065353216
    have G0 := Lib.hid (WInv_start x to g n w)
    have HS1 := Lib.hid (fun b w wr hI => HS.out 1065353216 b w wr FL.upto_one hI)
    have G1 := Lib.hid (fun o => WInv_below G0.out (below_new (Below.refl _ _) o))
    clear G0
    cases q : E 1065353216
    · simp only [Bool.false_eq_true, ↓reduceIte]
      rw [q] at HS1
      go_enter Try.func25, Try.ntmps25
      go_wp2_with (first | (go_at_call 73; ((with_reducible refine (HA.out _ _ _ (by simp [go_sem]) (by simp [go_sem]) (by simp [go_sem])).mono ?_); rintro e w' ⟨rfl, rfl⟩)) | (go_at_call 65; ((with_reducible refine (H3.out _).mono ?_); rintro e w' ⟨rfl, rfl⟩)) | (go_at_call 74; ((with_reducible refine (HS1.out _ w _ (G1.out _)).mono ?_); rintro e w2 ⟨rfl, G2⟩; have G2 := Lib.hid G2)))
      go_ret2; exact ⟨rfl, G2.out.1⟩
    · simp only [↓reduceIte]
      rw [q] at HS1
      go_enter Try.func25, Try.ntmps25
      go_wp2_with (first | (go_at_call 73; ((with_reducible refine (HA.out _ _ _ (by simp [go_sem]) (by simp [go_sem]) (by simp [go_sem])).mono ?_); rintro e w' ⟨rfl, rfl⟩)) | (go_at_call 65; ((with_reducible refine (H3.out _).mono ?_); rintro e w' ⟨rfl, rfl⟩)) | (go_at_call 74; ((with_reducible refine (HS1.out _ w _ (G1.out _)).mono ?_); rintro e w2 ⟨rfl, G2⟩; have G2 := Lib.hid G2)) | (go_at_call 76; ((with_reducible refine (HH.out _ _ G2.out).mono ?_); rintro e w3 ⟨rfl, G3⟩; have G3 := Lib.hid G3)))
      go_ret2; exact ⟨rfl, G3.out.1⟩
  · have hb : (isPart x && isPart to && isPart g && stepsB n) = false := Bool.eq_false_iff.2 fun hb => hall (by
      rw [Bool.and_eq_true] at hb
      exact hb)
    have hR : Hid (warmthX x to g n (isPart x && isPart to && isPart g && stepsB n) = 0 ∧ warmthE x to g n (isPart x && isPart to && isPart g && stepsB n) = 2) := by
      rw [hb]; exact ⟨rfl, rfl⟩
    rw [hR.out.1, hR.out.2]
    clear hR hb
    obtain ⟨F, hF⟩ : ∃ F, (isPart x && isPart to && isPart g) = F := ⟨_, rfl⟩
    obtain ⟨S, hS⟩ : ∃ S, stepsB n = S := ⟨_, rfl⟩
    rw [hF, hS] at hall
    rw [hF] at HA
    rw [hS] at H3
    clear hF hS bx bg
    cases F <;> cases S
    all_goals first
      | exact absurd ⟨rfl, rfl⟩ hall
      | (clear hall
         go_enter Try.func25, Try.ntmps25
         go_wp2_with (first | (go_at_call 73; ((with_reducible refine (HA.out _ _ _ (by simp [go_sem]) (by simp [go_sem]) (by simp [go_sem])).mono ?_); rintro e w' ⟨rfl, rfl⟩)) | (go_at_call 65; ((with_reducible refine (H3.out _).mono ?_); rintro e w' ⟨rfl, rfl⟩)))
         go_ret2; refine ⟨rfl, ?_⟩; (repeat (first | exact Below.refl _ _ | assumption | refine below_new ?_ _ | refine below_step ?_ (by assumption) | refine Below.drew ?_ | refine below_dn ?_ _ | refine Below.setCell ?_ (by simp <;> omega) _)))
end Go.Proofs.Ytldbpmpjfiglaaa
