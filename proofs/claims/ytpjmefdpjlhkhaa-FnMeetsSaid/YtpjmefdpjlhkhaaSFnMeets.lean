/- How the arguments of the law FnMeets are read, and its pure statement. -/
import Derived.Test.YtpjmefdpjlhkhaaFFnMeetsx4
import Derived.Test.YtpjmefdpjlhkhaaE5
import Derived.KernelRfl
namespace Go.Proofs.Ytpjmefdpjlhkhaa.Fns
open Go.RowKit Go.WideShapes Go.Proofs.Ytpjmefdpjlhkhaa.Eng
set_option linter.unusedVariables false

/-- The pure statement of the law. -/
def Pure : Prop := ∀ (x0 : (List Int)), (x0.length ≤ maxLen ∧ ∀ y ∈ x0, (Lit.int .u8 y).wf = true) → ∃ k, laws_FnMeets.f k x0 = some true
end Go.Proofs.Ytpjmefdpjlhkhaa.Fns
