/- How the arguments of the law FnEnough are read, and its pure statement. -/
import Derived.Test.YtddipeelmandjaaFFnEnoughx5
import Derived.Test.YtddipeelmandjaaE5
import Derived.KernelRfl
namespace Go.Proofs.Ytddipeelmandjaa.Fns
open Go.RowKit Go.WideShapes Go.Proofs.Ytddipeelmandjaa.Eng
set_option linter.unusedVariables false

/-- The pure statement of the law. -/
def Pure : Prop := ∀ (x0 : (List Int)), (x0.length ≤ maxLen ∧ ∀ y ∈ x0, (Lit.int .u8 y).wf = true) → ∃ k, laws_FnEnough.f k x0 = some true
end Go.Proofs.Ytddipeelmandjaa.Fns
