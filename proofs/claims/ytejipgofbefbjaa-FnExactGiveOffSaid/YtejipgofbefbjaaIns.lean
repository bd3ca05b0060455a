/-
  PLAIN LEAN: worlds that hold a law's arguments in blocks of their own, and new blocks behind them.
-/
import Derived.Test.YtejipgofbefbjaaBase
set_option linter.unusedVariables false
set_option linter.unusedSimpArgs false
namespace Go.Proofs.Ytejipgofbefbjaa
open Go.RowKit Go.FV

/-- The arguments lie in the blocks from the old heap's end on; nothing below has turned. -/
def Ins (w : World) (os : List Obj) (W : World) : Prop := w.heap.size + os.length ≤ W.heap.size ∧ Below w.heap.size w W ∧ ∀ i o, os[i]? = some o → W.heap[w.heap.size + i]? = some o
theorem Ins.below {w W W' : World} {os : List Obj} (h : Ins w os W) (hb : Below W.heap.size W W') : Ins w os W' :=
  ⟨Nat.le_trans h.1 hb.size, h.2.1.trans (hb.mono (by have := h.1; omega)), fun i o ho => below_heap hb (h.2.2 i o ho)⟩
theorem Ins.drew {w W : World} {os : List Obj} (h : Ins w os W) : Ins w os W.drew := ⟨h.1, Below.drew h.2.1, h.2.2⟩
theorem Ins.drewN {w W : World} {os : List Obj} (h : Ins w os W) (n : Nat) : Ins w os (W.drewN n) := ⟨h.1, below_dn h.2.1 n, h.2.2⟩
theorem Ins.alloc {w W : World} {os : List Obj} (h : Ins w os W) (o : Obj) : Ins w os (W.alloc o) :=
  h.below (below_new (Below.refl _ _) o)
/-- A new block behind the arguments. -/
def New (w : World) (k : Nat) (b : Nat) (cs : Array Value) (t : TypeId) (W : World) : Prop := w.heap.size + k ≤ b ∧ b < W.heap.size ∧ W.heap[b]? = some (.cells cs t (0, 0))
theorem New.below {w W W' : World} {k b : Nat} {cs : Array Value} {t : TypeId} (h : New w k b cs t W) (hb : Below W.heap.size W W') : New w k b cs t W' :=
  ⟨h.1, Nat.lt_of_lt_of_le h.2.1 hb.size, below_heap hb h.2.2⟩
theorem New.drewN {w W : World} {k b : Nat} {cs : Array Value} {t : TypeId} (h : New w k b cs t W) (n : Nat) : New w k b cs t (W.drewN n) := h
theorem New.drew {w W : World} {k b : Nat} {cs : Array Value} {t : TypeId} (h : New w k b cs t W) : New w k b cs t W.drew := h
theorem New.alloc {w W : World} {k b : Nat} {cs : Array Value} {t : TypeId} (h : New w k b cs t W) (o : Obj) : New w k b cs t (W.alloc o) :=
  h.below (below_new (Below.refl _ _) o)
theorem New.made {w W : World} {os : List Obj} (h : Ins w os W) (cs : Array Value) (t : TypeId) : New w os.length W.heap.size cs t (W.alloc (.cells cs t)) :=
  ⟨h.1, by rw [size_al]; omega, ha1 _ _⟩
theorem Ins.setRow {w W : World} {os : List Obj} (h : Ins w os W) {b : Nat} (hb : w.heap.size + os.length ≤ b) (cs : Array Value) : Ins w os (W.setRow b cs) :=
  ⟨by simpa [World.setRow] using h.1, below_setRow h.2.1 (by omega) _, fun i o ho => by
    have hi : i < os.length := by
      refine Nat.lt_of_not_le fun hle => ?_
      rw [List.getElem?_eq_none hle] at ho; cases ho
    rw [setRow_other _ _ _ _ (by omega)]; exact h.2.2 i o ho⟩
theorem New.setRow {w W : World} {k b : Nat} {old : Array Value} {t : TypeId} (h : New w k b old t W) (cs : Array Value) : New w k b cs t (W.setRow b cs) :=
  ⟨h.1, by simpa [World.setRow] using h.2.1, setRow_heap _ _ _ _ _ _ h.2.2⟩
theorem New.other {w W : World} {k b b' : Nat} {cs : Array Value} {t : TypeId} (h : New w k b cs t W) (hne : b ≠ b') (cs' : Array Value) : New w k b cs t (W.setRow b' cs') :=
  ⟨h.1, by simpa [World.setRow] using h.2.1, by rw [setRow_other _ _ _ _ hne]; exact h.2.2⟩
end Go.Proofs.Ytejipgofbefbjaa
