/- How the arguments of the law FnBoard are read, and its pure statement. -/
import Derived.Test.YtoeedickghjdbaaFFnBoardx6
import Derived.Test.YtoeedickghjdbaaE5
import Derived.KernelRfl
namespace Go.Proofs.Ytoeedickghjdbaa.Fns
open Go.RowKit Go.WideShapes Go.Proofs.Ytoeedickghjdbaa.Eng
set_option linter.unusedVariables false

/-- The pure statement of the law. -/
def Pure : Prop := ∀ (x0 : (List Int)), (x0.length ≤ maxLen ∧ ∀ y ∈ x0, (Lit.int .u8 y).wf = true) → ∃ k, laws_FnBoard.f k x0 = some true
end Go.Proofs.Ytoeedickghjdbaa.Fns
