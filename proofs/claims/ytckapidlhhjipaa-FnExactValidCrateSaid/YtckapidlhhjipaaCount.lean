/-
  CONTRACTS: fruits, codes, counting.
-/
import Derived.Test.YtckapidlhhjipaaValid
set_option linter.unusedVariables false
set_option linter.unusedSimpArgs false
namespace Go.Proofs.Ytckapidlhhjipaa
open Go.RowKit Go.FV

def told (v fine : Bool) : Int := if v then (if fine then 0 else 2) else 1
theorem spec_l01Told (b : Nat) (n : Int) (l : List Nat) (fine : Bool) (w : World) (h1 : -128 ≤ n) (h2 : n ≤ 127) (c0 : w.cell? ⟨b, 0, none⟩ = some (.int .i8 n)) (cv : ∀ k, k < 16 → w.cell? ⟨b, 1 + k, none⟩ = some (.float .f32 (ix l k))) :
    Calls Try.prog 57 #[.pointer (some ⟨b, 0, none⟩), .bool fine] w fun e w' => e = .returned (.int .i64 (told (validCrate n l) fine)) ∧ w = w' := by
  have HC := Lib.hid (spec_l01Crate b n l w h1 h2 c0 cv)
  clear cv c0
  cases hv : validCrate n l <;> cases fine
  all_goals
    rw [hv] at HC
    go_enter Try.func57, Try.ntmps57
    go_wp2_with (go_at_call 51; ((with_reducible refine (HC.out).mono ?_); rintro e w' ⟨rfl, rfl⟩))
    go_ret; exact ⟨by simp [told], rfl⟩
set_option maxRecDepth 10000 in
theorem fruits_any (b k : Nat) (hk : k ≤ 16) (w : World) (c0 : w.cell? ⟨b, 0, none⟩ = some (.int .i8 k)) :
    Calls Try.prog 60 #[.pointer (some ⟨b, 0, none⟩)] w fun e w' => e = .returned (.slice (some ⟨b, 1, none⟩) k 16) ∧ ∃ m, w.drewN m = w' := by
  have hs := sl_hi b 1 k hk
  go_enter Try.func60, Try.ntmps60
  go_wp2
  go_quiet (fail)
  go_wp2
  go_ret; exact ⟨rfl, _, rfl⟩
end Go.Proofs.Ytckapidlhhjipaa
