/- What functions of the given program come to, by the abstract machine: one text of a proof. -/
import Derived.Test.YtlnflmjgnmljeaaBC8
set_option linter.unusedVariables false
set_option linter.unusedSimpArgs false
set_option maxRecDepth 8000
namespace Go.Abs
def dblLin (n : Nat) : Bool := (List.range 256).all fun m : Nat => dblLaw (ixor (n : Int) (m : Int)) == ixor (dblLaw (n : Int)) (dblLaw (m : Int))
theorem dbl_lin_tab : ((List.range 256).all dblLin) = true := by kernel_rfl
end Go.Abs
