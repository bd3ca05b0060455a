/-
  THREE CLOSED FACTS OF THE PROGRAM, which cost the kernel most, proved once for all rows.
-/
import Derived.Test.YtejipgofbefbjaaRows
namespace Go.Proofs.Ytejipgofbefbjaa

theorem facts3 : (Try.pinned.checked.prog.mayEnter && (Try.pinned.checked.prog.liftsFinal == false) && (Try.pinned.checked.prog.make == some .cut)) = true := by kernel_rfl
theorem fact_enter : Try.pinned.checked.prog.mayEnter = true := by
  have h := facts3
  rw [Bool.and_eq_true, Bool.and_eq_true] at h
  exact h.1.1
theorem fact_lifts : Try.pinned.checked.prog.liftsFinal = false := by
  have h := facts3
  rw [Bool.and_eq_true, Bool.and_eq_true, beq_iff_eq] at h
  exact h.1.2
theorem fact_make : (Try.pinned.checked.prog.make == some .cut) = true := by
  have h := facts3
  rw [Bool.and_eq_true] at h
  exact h.2
end Go.Proofs.Ytejipgofbefbjaa
