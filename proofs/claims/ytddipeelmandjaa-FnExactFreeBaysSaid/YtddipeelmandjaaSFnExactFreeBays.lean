/- How the arguments of the law FnExactFreeBays are read, and its pure statement. -/
import Derived.Test.YtddipeelmandjaaCFnExactFreeBaysx8
import Derived.Test.YtddipeelmandjaaTellsFnExactFreeBays
import Derived.KernelRfl
namespace Go.Proofs.Ytddipeelmandjaa.RFnExactFreeBays
open Go.RowKit Go.Proofs.Ytddipeelmandjaa.PFnExactFreeBays Go.Proofs.YtddipeelmandjaaW.PrintWords Go.Proofs.Ytddipeelmandjaa.Tells
def ok53 (x : S53) : Prop := (Lit.int .i64 x.f0).wf = true ∧ (Lit.int .i64 x.f1).wf = true ∧ (Lit.int .i64 x.f2).wf = true
theorem tells53 : Tells Try.prog 53 k53 ok53 :=
  Tells.iso (Tells.struct Try.underlying53 (by kernel_rfl) (TellsF.cons (Tells.int Try.underlying3) rfl (by kernel_rfl) (TellsF.cons (Tells.int Try.underlying3) rfl (by kernel_rfl) (TellsF.one (Tells.int Try.underlying3) rfl (by kernel_rfl))))) (fun x : S53 => (x.f0, x.f1, x.f2)) (fun a => ⟨a.1, a.2.1, a.2.2⟩) (fun _ => rfl) ok53 (fun _ h => h)
/-- The pure statement of the law. -/
def Pure : Prop := ∀ (x0 : (List Int)) (x1 : (List S53)) (x2 : Int) (x3 : (List Int)) (x4 : Int), (x0.length ≤ maxLen ∧ ∀ y ∈ x0, (Lit.int .i64 y).wf = true) → (x1.length ≤ maxLen ∧ ∀ y ∈ x1, ok53 y) → (Lit.int .i64 x2).wf = true → (x3.length ≤ maxLen ∧ ∀ y ∈ x3, (Lit.int .i64 y).wf = true) → (Lit.int .i64 x4).wf = true → ∃ k, laws_FnExactFreeBays.f k x0 x1 x2 x3 x4 = some true
end Go.Proofs.Ytddipeelmandjaa.RFnExactFreeBays
