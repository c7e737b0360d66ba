/- How the arguments of the law FnSooner are read, and its pure statement. -/
import Derived.Test.YtjfjifnmfnlfoaaFFnSoonerx4
import Derived.Test.YtjfjifnmfnlfoaaE5
import Derived.KernelRfl
namespace Go.Proofs.Ytjfjifnmfnlfoaa.Fns
open Go.RowKit Go.WideShapes Go.Proofs.Ytjfjifnmfnlfoaa.Eng
set_option linter.unusedVariables false

/-- The pure statement of the law. -/
def Pure : Prop := ∀ (x0 : (List Int)), (x0.length ≤ maxLen ∧ ∀ y ∈ x0, (Lit.int .u8 y).wf = true) → ∃ k, laws_FnSooner.f k x0 = some true
end Go.Proofs.Ytjfjifnmfnlfoaa.Fns
