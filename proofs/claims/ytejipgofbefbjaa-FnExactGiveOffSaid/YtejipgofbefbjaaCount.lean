/-
  CONTRACTS: fruits, codes, counting.
-/
import Derived.Test.YtejipgofbefbjaaValid
set_option linter.unusedVariables false
set_option linter.unusedSimpArgs false
namespace Go.Proofs.Ytejipgofbefbjaa
open Go.RowKit Go.FV

def told (v fine : Bool) : Int := if v then (if fine then 0 else 2) else 1
set_option maxRecDepth 10000 in
theorem fruits_any (b k : Nat) (hk : k ≤ 16) (w : World) (c0 : w.cell? ⟨b, 0, none⟩ = some (.int .i8 k)) :
    Calls Try.prog 78 #[.pointer (some ⟨b, 0, none⟩)] w fun e w' => e = .returned (.slice (some ⟨b, 1, none⟩) k 16) ∧ ∃ m, w.drewN m = w' := by
  have hs := sl_hi b 1 k hk
  go_enter Try.func78, Try.ntmps78
  go_wp2
  go_quiet (fail)
  go_wp2
  go_ret; exact ⟨rfl, _, rfl⟩

/-- How many of the first places hold at least so much. -/
def cnt (b : Nat) (l : List Nat) : Nat → Int
  | 0 => 0
  | k + 1 => if fge (ix l k) b then cnt b l k + 1 else cnt b l k
theorem cnt_yes {b : Nat} {l : List Nat} {k : Nat} (h : fge (ix l k) b = true) : cnt b l (k + 1) = cnt b l k + 1 := by simp [cnt, h]
theorem cnt_no {b : Nat} {l : List Nat} {k : Nat} (h : fge (ix l k) b = false) : cnt b l (k + 1) = cnt b l k := by simp [cnt, h]
theorem cnt_bd (b : Nat) (l : List Nat) : ∀ k : Nat, 0 ≤ cnt b l k ∧ cnt b l k ≤ k
  | 0 => by simp [cnt]
  | k + 1 => by
    have := cnt_bd b l k
    unfold cnt; split <;> omega
theorem valid_count {n : Int} {l : List Nat} (h : validCrate n l = true) : ∃ k : Nat, n = k ∧ k ≤ 16 := by
  unfold validCrate at h
  simp only [Bool.and_eq_true, decide_eq_true_eq] at h
  exact ⟨n.toNat, by omega, by omega⟩
def countAbove (n : Int) (l : List Nat) (b : Nat) : Int := if validCrate n l && isPart b then cnt b l n.toNat else 0

end Go.Proofs.Ytejipgofbefbjaa
