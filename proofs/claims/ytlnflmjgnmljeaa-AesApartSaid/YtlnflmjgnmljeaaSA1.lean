/- What functions of the given program come to, by the abstract machine: one text of a proof. -/
import Derived.Test.YtlnflmjgnmljeaaTyA
import Derived.KernelRfl
set_option linter.unusedVariables false
namespace Go.Abs
noncomputable def eA (fns : List (Nat × Summary)) : Env := envOf Go.Proofs.Try.prog tysA fns (fun _ => none)
theorem hmA : Go.Proofs.Try.prog.follows .mixedOrders = true := by kernel_rfl
theorem eA0_ok : EnvOk (eA []) := envOf_ok tysA_ok trivial
end Go.Abs
