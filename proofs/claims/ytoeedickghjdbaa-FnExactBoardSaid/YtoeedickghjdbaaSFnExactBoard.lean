/- How the arguments of the law FnExactBoard are read, and its pure statement. -/
import Derived.Test.YtoeedickghjdbaaFFnExactBoardx6
import Derived.Test.YtoeedickghjdbaaE5
import Derived.KernelRfl
namespace Go.Proofs.Ytoeedickghjdbaa.Fns
open Go.RowKit Go.WideShapes Go.Proofs.Ytoeedickghjdbaa.Eng
set_option linter.unusedVariables false
def ok54 (x : S54) : Prop := (Lit.int .i64 x.f0).wf = true ∧ (Lit.int .i64 x.f1).wf = true ∧ (Lit.int .i64 x.f2).wf = true
theorem tells83 : Tl Try.prog 83 e54 ok54 :=
  Tl.iso (Tl.struct Try.underlying83 (by kernel_rfl) (TlF.cons (sz := 1) (Tl.int Try.underlying3) rfl (by kernel_rfl) (TlF.cons (sz := 1) (Tl.int Try.underlying3) rfl (by kernel_rfl) (TlF.one (sz := 1) (Tl.int Try.underlying3) rfl (by kernel_rfl))))) (fun a => (⟨a.1, a.2.1, a.2.2⟩ : S54)) (fun _ => rfl) ok54 (fun _ h => h)
def ok23 (x : S23) : Prop := x.f0.size ≤ maxLen ∧ (x.f1.length ≤ maxLen ∧ ∀ y ∈ x.f1, ok54 y)
theorem tells24 : Tl Try.prog 24 (e23 true) ok23 :=
  Tl.iso (Tl.struct Try.underlying24 (by kernel_rfl) (TlF.cons (sz := 1) (Tl.string Try.underlying9) rfl (by kernel_rfl) (TlF.one (sz := 1) (Tl.slice true Try.underlying22 tells83 e54_ok (by kernel_rfl) (by decide)) rfl (by kernel_rfl)))) (fun a => (⟨a.1, a.2⟩ : S23)) (fun _ => rfl) ok23 (fun _ h => h)
/-- The pure statement of the law. -/
def Pure : Prop := ∀ (x0 : (List S23)) (x1 : Int) (x2 : Int) (x3 : Int), (x0.length ≤ maxLen ∧ ∀ y ∈ x0, ok23 y) → (Lit.int .i64 x1).wf = true → (Lit.int .i64 x2).wf = true → (Lit.int .i64 x3).wf = true → ∃ k, laws_FnExactBoard.f k x0 x1 x2 x3 = some true
end Go.Proofs.Ytoeedickghjdbaa.Fns
