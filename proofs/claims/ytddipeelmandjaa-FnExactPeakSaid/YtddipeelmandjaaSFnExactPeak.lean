/- How the arguments of the law FnExactPeak are read, and its pure statement. -/
import Derived.Test.YtddipeelmandjaaCFnExactPeakx3
import Derived.Test.YtddipeelmandjaaTellsFnExactPeak
import Derived.KernelRfl
namespace Go.Proofs.Ytddipeelmandjaa.RFnExactPeak
open Go.RowKit Go.Proofs.Ytddipeelmandjaa.PFnExactPeak Go.Proofs.YtddipeelmandjaaW.PrintWords Go.Proofs.Ytddipeelmandjaa.Tells
def ok53 (x : S53) : Prop := (Lit.int .i64 x.f0).wf = true ∧ (Lit.int .i64 x.f1).wf = true ∧ (Lit.int .i64 x.f2).wf = true
theorem tells53 : Tells Try.prog 53 k53 ok53 :=
  Tells.iso (Tells.struct Try.underlying53 (by kernel_rfl) (TellsF.cons (Tells.int Try.underlying3) rfl (by kernel_rfl) (TellsF.cons (Tells.int Try.underlying3) rfl (by kernel_rfl) (TellsF.one (Tells.int Try.underlying3) rfl (by kernel_rfl))))) (fun x : S53 => (x.f0, x.f1, x.f2)) (fun a => ⟨a.1, a.2.1, a.2.2⟩) (fun _ => rfl) ok53 (fun _ h => h)
/-- The pure statement of the law. -/
def Pure : Prop := ∀ (x0 : (List S53)) (x1 : Int), (x0.length ≤ maxLen ∧ ∀ y ∈ x0, ok53 y) → (Lit.int .i64 x1).wf = true → ∃ k, laws_FnExactPeak.f k x0 x1 = some true
end Go.Proofs.Ytddipeelmandjaa.RFnExactPeak
