/-
  CONTRACTS: a slice of floats, all of them parts.
-/
import Derived.Test.YtejipgofbefbjaaStruct
set_option linter.unusedVariables false
set_option linter.unusedSimpArgs false
namespace Go.Proofs.Ytejipgofbefbjaa
open Go.RowKit Go.FV

/-- The place of the first element that passes; -1 if none does. -/
def idxP (p : Nat → Bool) (l : List Nat) : Int := match l.findIdx? p with | some i => i | none => -1
theorem idxP_hit {p : Nat → Bool} {l : List Nat} {k : Nat} (hk : k < l.length) (h : ∀ j, j < k → p (ix l j) = false) (hp : p (ix l k) = true) : idxP p l = k := by
  unfold idxP
  have : l.findIdx? p = some k := by
    rw [List.findIdx?_eq_some_iff_getElem]
    refine ⟨hk, by simpa [ix, hk] using hp, fun j hj => ?_⟩
    have := h j hj
    have hl : j < l.length := by omega
    simpa [ix, hl] using this
  rw [this]
theorem idxP_none {p : Nat → Bool} {l : List Nat} (h : ∀ j, j < l.length → p (ix l j) = false) : idxP p l = -1 := by
  unfold idxP
  have : l.findIdx? p = none := by
    rw [List.findIdx?_eq_none_iff]
    intro x hx
    obtain ⟨j, hj, rfl⟩ := List.getElem_of_mem hx
    have := h j hj
    simpa [ix, hj] using this
  rw [this]
theorem idxP_any (p : Nat → Bool) (l : List Nat) : decide (0 ≤ idxP p l) = l.any p := by
  unfold idxP
  cases h : l.findIdx? p with
  | none =>
    rw [List.findIdx?_eq_none_iff] at h
    have : l.any p = false := by simp only [List.any_eq_false]; intro x hx; simpa using h x hx
    rw [this]; simp
  | some i =>
    rw [List.findIdx?_eq_some_iff_getElem] at h
    obtain ⟨h1, h2, _⟩ := h
    have : l.any p = true := by simp only [List.any_eq_true]; exact ⟨l[i], List.getElem_mem h1, h2⟩
    rw [this]; simp

theorem areParts_1 (a : Nat) (w : World) : Calls Try.prog 87 #[.float .f32 a] w fun e w' => e = .returned (.bool (!isPart a)) ∧ w = w' := by
  go_enter Try.func87, Try.ntmps87
  go_wp2_with (go_at_call 47; ((with_reducible refine (impl_IsPart _ _).mono ?_); rintro e w' ⟨rfl, rfl⟩))
  go_ret; exact ⟨rfl, rfl⟩
/-- The loop of IndexFunc, for a function value that answers 'p'. -/
theorem indexFunc (F : Nat) (cap : Array Value) (p : Nat → Bool) (b off c : Nat) (l : List Nat) (w : World)
    (hF : ∀ x, (callFunc F (#[.float .f32 x] ++ cap)).run Try.prog w = .ok (.enter F (#[.float .f32 x] ++ cap)) w)
    (hp : ∀ x, Calls Try.prog F (#[.float .f32 x] ++ cap) w fun e w' => e = .returned (.bool (p x)) ∧ w = w')
    (hl : l.length ≤ 9223372036854775807) (hc : ∀ k, k < l.length → w.cell? ⟨b, off + k, none⟩ = some (.float .f32 (ix l k))) :
    Calls Try.prog 88 #[.slice (some ⟨b, off, none⟩) l.length c, .func (.func F) #[] cap] w fun e w' => e = .returned (.int .i64 (idxP p l)) ∧ w = w' := by
  go_enter Try.func88, Try.ntmps88
  go_wp2
  go_loop [8] (fun i => ∃ k : Nat, k ≤ l.length ∧ i = .int .i64 k ∧ ∀ j, j < k → p (ix l j) = false) (fun i => l.length - (intOf i).toNat)
  case atStart => exact ⟨0, Nat.zero_le _, rfl, fun j hj => absurd hj (by omega)⟩
  case round =>
    obtain ⟨k, hk, rfl, hbefore⟩ := hrel
    have hck : k < l.length → w.cell? ⟨b, off + k, none⟩ = some (.float .f32 (ix l k)) := fun h => hc k h
    have HP := Lib.hid hp; clear hp
    have HB := Lib.hid hbefore; clear hbefore
    clear hc
    go_wp2_with ((with_reducible refine (HP.out _).mono ?_); rintro e w' ⟨rfl, rfl⟩)
    all_goals first
      | (go_round
         case rel => exact ⟨k + 1, by omega, by go_num, fun j hj => by
           by_cases e : j = k
           · subst e; simp_all
           · exact HB.out j (by omega)⟩
         case measure => simp [intOf]; omega)
      | (go_ret; exact ⟨by first | (rw [idxP_hit (by assumption) HB.out (by assumption)]; rfl) | (rw [idxP_none (fun j hj => HB.out j (by omega))]; rfl), rfl⟩)
theorem containsFunc (F : Nat) (cap : Array Value) (p : Nat → Bool) (b off c : Nat) (l : List Nat) (w : World)
    (hF : ∀ x, (callFunc F (#[.float .f32 x] ++ cap)).run Try.prog w = .ok (.enter F (#[.float .f32 x] ++ cap)) w)
    (hp : ∀ x, Calls Try.prog F (#[.float .f32 x] ++ cap) w fun e w' => e = .returned (.bool (p x)) ∧ w = w')
    (hl : l.length ≤ 9223372036854775807) (hc : ∀ k, k < l.length → w.cell? ⟨b, off + k, none⟩ = some (.float .f32 (ix l k))) :
    Calls Try.prog 76 #[.slice (some ⟨b, off, none⟩) l.length c, .func (.func F) #[] cap] w fun e w' => e = .returned (.bool (l.any p)) ∧ w = w' := by
  have HI := Lib.hid (indexFunc F cap p b off c l w hF hp hl hc)
  clear hF hp hc
  go_enter Try.func76, Try.ntmps76
  go_wp2_with (go_at_call 88; ((with_reducible refine (HI.out).mono ?_); rintro e w' ⟨rfl, rfl⟩))
  go_ret; exact ⟨by rw [← idxP_any]; rfl, rfl⟩
theorem enter_areParts_1 (x : Nat) (w : World) : (callFunc 87 #[.float .f32 x]).run Try.prog w = .ok (.enter 87 #[.float .f32 x]) w := by kernel_rfl
theorem areParts_any (b off c : Nat) (l : List Nat) (w : World) (hl : l.length ≤ 9223372036854775807) (hc : ∀ k, k < l.length → w.cell? ⟨b, off + k, none⟩ = some (.float .f32 (ix l k))) :
    Calls Try.prog 75 #[.slice (some ⟨b, off, none⟩) l.length c] w fun e w' => e = .returned (.bool (l.all isPart)) ∧ w = w' := by
  have HI := Lib.hid (containsFunc 87 #[] (fun x => !isPart x) b off c l w (fun x => enter_areParts_1 x w) (fun x => areParts_1 x w) hl hc)
  clear hc
  go_enter Try.func75, Try.ntmps75
  go_wp2_with (go_at_call 76; ((with_reducible refine (HI.out).mono ?_); rintro e w' ⟨rfl, rfl⟩))
  go_ret; exact ⟨by simp [List.any_eq_not_all_not], rfl⟩
theorem areParts_n (b off c n : Nat) (l : List Nat) (hn : l.length = n) (w : World) (hl : n ≤ 9223372036854775807) (hc : ∀ k, k < n → w.cell? ⟨b, off + k, none⟩ = some (.float .f32 (ix l k))) :
    Calls Try.prog 75 #[.slice (some ⟨b, off, none⟩) n c] w fun e w' => e = .returned (.bool (l.all isPart)) ∧ w = w' := by
  subst hn; exact areParts_any b off c l w hl hc
end Go.Proofs.Ytejipgofbefbjaa
