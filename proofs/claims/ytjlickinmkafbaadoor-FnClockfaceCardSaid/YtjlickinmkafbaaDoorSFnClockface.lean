/- How the arguments of the law FnClockface are read, and its pure statement. -/
import Derived.Test.YtjlickinmkafbaaDoorFFnClockfacex3
import Derived.Test.YtjlickinmkafbaaDoorE5
import Derived.KernelRfl
namespace Go.Proofs.YtjlickinmkafbaaDoor.Fns
open Go.RowKit Go.WideShapes Go.Proofs.YtjlickinmkafbaaDoor.Eng
set_option linter.unusedVariables false

/-- The pure statement of the law. -/
def Pure : Prop := ∀ (x0 : (List Int)), (x0.length ≤ maxLen ∧ ∀ y ∈ x0, (Lit.int .u8 y).wf = true) → ∃ k, laws_FnClockface.f k x0 = some true
end Go.Proofs.YtjlickinmkafbaaDoor.Fns
