/- How the arguments of the law FnExactBaysOk are read, and its pure statement. -/
import Derived.Test.YtddipeelmandjaaPFnExactBaysOkx1
import Derived.Test.YtddipeelmandjaaTells
import Derived.KernelRfl
namespace Go.Proofs.Ytddipeelmandjaa.RFnExactBaysOk
open Go.RowKit Go.Proofs.Ytddipeelmandjaa.PFnExactBaysOk Go.Proofs.YtddipeelmandjaaW.PrintWords Go.Proofs.Ytddipeelmandjaa.Tells

/-- The pure statement of the law. -/
def Pure : Prop := ∀ (x0 : (List Int)), (x0.length ≤ maxLen ∧ ∀ y ∈ x0, (Lit.int .i64 y).wf = true) → ∃ k, laws_FnExactBaysOk.f k x0 = some true
end Go.Proofs.Ytddipeelmandjaa.RFnExactBaysOk
