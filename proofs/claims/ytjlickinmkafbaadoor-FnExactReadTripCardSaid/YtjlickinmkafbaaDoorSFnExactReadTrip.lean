/- How the arguments of the law FnExactReadTrip are read, and its pure statement. -/
import Derived.Test.YtjlickinmkafbaaDoorFFnExactReadTripx3
import Derived.Test.YtjlickinmkafbaaDoorE5
import Derived.KernelRfl
namespace Go.Proofs.YtjlickinmkafbaaDoor.Fns
open Go.RowKit Go.WideShapes Go.Proofs.YtjlickinmkafbaaDoor.Eng
set_option linter.unusedVariables false

/-- The pure statement of the law. -/
def Pure : Prop := ∀ (x0 : ByteArray), x0.size ≤ maxLen → ∃ k, laws_FnExactReadTrip.f k x0 = some true
end Go.Proofs.YtjlickinmkafbaaDoor.Fns
