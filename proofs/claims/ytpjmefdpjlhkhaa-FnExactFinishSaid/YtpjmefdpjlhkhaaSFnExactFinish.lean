/- How the arguments of the law FnExactFinish are read, and its pure statement. -/
import Derived.Test.YtpjmefdpjlhkhaaFFnExactFinishx3
import Derived.Test.YtpjmefdpjlhkhaaE5
import Derived.KernelRfl
namespace Go.Proofs.Ytpjmefdpjlhkhaa.Fns
open Go.RowKit Go.WideShapes Go.Proofs.Ytpjmefdpjlhkhaa.Eng
set_option linter.unusedVariables false
def ok44 (x : S44) : Prop := (Lit.int .i64 x.f0).wf = true ∧ (Lit.int .i64 x.f1).wf = true
theorem tells49 : Tl Try.prog 49 e44 ok44 :=
  Tl.iso (Tl.struct Try.underlying49 (by kernel_rfl) (TlF.cons (sz := 1) (Tl.int Try.underlying3) rfl (by kernel_rfl) (TlF.one (sz := 1) (Tl.int Try.underlying3) rfl (by kernel_rfl)))) (fun a => (⟨a.1, a.2⟩ : S44)) (fun _ => rfl) ok44 (fun _ h => h)
/-- The pure statement of the law. -/
def Pure : Prop := ∀ (x0 : (List Int)) (x1 : (List S44)), (x0.length ≤ maxLen ∧ ∀ y ∈ x0, (Lit.int .i64 y).wf = true) → (x1.length ≤ maxLen ∧ ∀ y ∈ x1, ok44 y) → ∃ k, laws_FnExactFinish.f k x0 x1 = some true
end Go.Proofs.Ytpjmefdpjlhkhaa.Fns
