/- How the arguments of the law FnExactShortOf are read, and its pure statement. -/
import Derived.Test.YtddipeelmandjaaFFnExactShortOfx5
import Derived.Test.YtddipeelmandjaaE5
import Derived.KernelRfl
namespace Go.Proofs.Ytddipeelmandjaa.Fns
open Go.RowKit Go.WideShapes Go.Proofs.Ytddipeelmandjaa.Eng
set_option linter.unusedVariables false
def ok49 (x : S49) : Prop := (Lit.int .i64 x.f0).wf = true ∧ (Lit.int .i64 x.f1).wf = true ∧ (Lit.int .i64 x.f2).wf = true
theorem tells53 : Tl Try.prog 53 e49 ok49 :=
  Tl.iso (Tl.struct Try.underlying53 (by kernel_rfl) (TlF.cons (sz := 1) (Tl.int Try.underlying3) rfl (by kernel_rfl) (TlF.cons (sz := 1) (Tl.int Try.underlying3) rfl (by kernel_rfl) (TlF.one (sz := 1) (Tl.int Try.underlying3) rfl (by kernel_rfl))))) (fun a => (⟨a.1, a.2.1, a.2.2⟩ : S49)) (fun _ => rfl) ok49 (fun _ h => h)
/-- The pure statement of the law. -/
def Pure : Prop := ∀ (x0 : (List Int)) (x1 : (List S49)) (x2 : Int), (x0.length ≤ maxLen ∧ ∀ y ∈ x0, (Lit.int .i64 y).wf = true) → (x1.length ≤ maxLen ∧ ∀ y ∈ x1, ok49 y) → (Lit.int .i64 x2).wf = true → ∃ k, laws_FnExactShortOf.f k x0 x1 x2 = some true
end Go.Proofs.Ytddipeelmandjaa.Fns
