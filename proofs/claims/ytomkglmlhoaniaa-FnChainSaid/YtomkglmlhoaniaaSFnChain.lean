/- How the arguments of the law FnChain are read, and its pure statement. -/
import Derived.Test.YtomkglmlhoaniaaFFnChainx6
import Derived.Test.YtomkglmlhoaniaaE5
import Derived.KernelRfl
namespace Go.Proofs.Ytomkglmlhoaniaa.Fns
open Go.RowKit Go.WideShapes Go.Proofs.Ytomkglmlhoaniaa.Eng
set_option linter.unusedVariables false

/-- The pure statement of the law. -/
def Pure : Prop := ∀ (x0 : (List Int)), (x0.length ≤ maxLen ∧ ∀ y ∈ x0, (Lit.int .u8 y).wf = true) → ∃ k, laws_FnChain.f k x0 = some true
end Go.Proofs.Ytomkglmlhoaniaa.Fns
