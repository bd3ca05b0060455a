/-
  CONTRACTS of the functions on small structs of floats.
-/
import Derived.Test.YtejipgofbefbjaaLeaf
set_option linter.unusedVariables false
set_option linter.unusedSimpArgs false
namespace Go.Proofs.Ytejipgofbefbjaa
open Go.RowKit Go.FV

def fle (a b : Nat) : Bool := ord a b == some .lt || ord a b == some .eq
def fge (a b : Nat) : Bool := ord a b == some .gt || ord a b == some .eq


end Go.Proofs.Ytejipgofbefbjaa
