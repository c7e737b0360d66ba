/- How the arguments of the law FnSettle are read, and its pure statement. -/
import Derived.Test.YtebgaiokpncacaaFFnSettlex8
import Derived.Test.YtebgaiokpncacaaE5
import Derived.KernelRfl
namespace Go.Proofs.Ytebgaiokpncacaa.Fns
open Go.RowKit Go.WideShapes Go.Proofs.Ytebgaiokpncacaa.Eng
set_option linter.unusedVariables false

/-- The pure statement of the law. -/
def Pure : Prop := ∀ (x0 : (List Int)), (x0.length ≤ maxLen ∧ ∀ y ∈ x0, (Lit.int .u8 y).wf = true) → ∃ k, laws_FnSettle.f k x0 = some true
end Go.Proofs.Ytebgaiokpncacaa.Fns
