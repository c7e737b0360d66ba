/- How the arguments of the law FnExactDrive are read, and its pure statement. -/
import Derived.Test.YtjfjifnmfnlfoaaFFnExactDrivex3
import Derived.Test.YtjfjifnmfnlfoaaE5
import Derived.KernelRfl
namespace Go.Proofs.Ytjfjifnmfnlfoaa.Fns
open Go.RowKit Go.WideShapes Go.Proofs.Ytjfjifnmfnlfoaa.Eng
set_option linter.unusedVariables false
def ok117 (x : S117) : Prop := (Lit.int .i64 x.f0).wf = true ∧ (Lit.int .i64 x.f1).wf = true
theorem tells123 : Tl Try.prog 123 e117 ok117 :=
  Tl.iso (Tl.struct Try.underlying123 (by kernel_rfl) (TlF.cons (sz := 1) (Tl.int Try.underlying3) rfl (by kernel_rfl) (TlF.one (sz := 1) (Tl.int Try.underlying3) rfl (by kernel_rfl)))) (fun a => (⟨a.1, a.2⟩ : S117)) (fun _ => rfl) ok117 (fun _ h => h)
/-- The pure statement of the law. -/
def Pure : Prop := ∀ (x0 : Int) (x1 : (List S117)) (x2 : (List Int)) (x3 : Int), (Lit.int .i64 x0).wf = true → (x1.length ≤ maxLen ∧ ∀ y ∈ x1, ok117 y) → (x2.length ≤ maxLen ∧ ∀ y ∈ x2, (Lit.int .i64 y).wf = true) → (Lit.int .i64 x3).wf = true → ∃ k, laws_FnExactDrive.f k x0 x1 x2 x3 = some true
end Go.Proofs.Ytjfjifnmfnlfoaa.Fns
