/- How the arguments of the law FnExactLegsOk are read, and its pure statement. -/
import Derived.Test.YtjfjifnmfnlfoaaFFnExactLegsOkx3
import Derived.Test.YtjfjifnmfnlfoaaE5
import Derived.KernelRfl
namespace Go.Proofs.Ytjfjifnmfnlfoaa.Fns
open Go.RowKit Go.WideShapes Go.Proofs.Ytjfjifnmfnlfoaa.Eng
set_option linter.unusedVariables false
def ok107 (x : S107) : Prop := (Lit.int .i64 x.f0).wf = true ∧ (Lit.int .i64 x.f1).wf = true ∧ (Lit.int .i64 x.f2).wf = true
theorem tells163 : Tl Try.prog 163 e107 ok107 :=
  Tl.iso (Tl.struct Try.underlying163 (by kernel_rfl) (TlF.cons (sz := 1) (Tl.int Try.underlying3) rfl (by kernel_rfl) (TlF.cons (sz := 1) (Tl.int Try.underlying3) rfl (by kernel_rfl) (TlF.one (sz := 1) (Tl.int Try.underlying3) rfl (by kernel_rfl))))) (fun a => (⟨a.1, a.2.1, a.2.2⟩ : S107)) (fun _ => rfl) ok107 (fun _ h => h)
def ok98 (x : S98) : Prop := x.f0.size ≤ maxLen ∧ (x.f1.length ≤ maxLen ∧ ∀ y ∈ x.f1, ok107 y)
theorem tells99 : Tl Try.prog 99 (e98 true) ok98 :=
  Tl.iso (Tl.struct Try.underlying99 (by kernel_rfl) (TlF.cons (sz := 1) (Tl.string Try.underlying9) rfl (by kernel_rfl) (TlF.one (sz := 1) (Tl.slice true Try.underlying97 tells163 e107_ok (by kernel_rfl) (by decide)) rfl (by kernel_rfl)))) (fun a => (⟨a.1, a.2⟩ : S98)) (fun _ => rfl) ok98 (fun _ h => h)
def ok102 (x : S102) : Prop := (Lit.int .i64 x.f0).wf = true ∧ (Lit.int .i64 x.f1).wf = true ∧ (Lit.int .i64 x.f2).wf = true
theorem tells111 : Tl Try.prog 111 e102 ok102 :=
  Tl.iso (Tl.struct Try.underlying111 (by kernel_rfl) (TlF.cons (sz := 1) (Tl.int Try.underlying3) rfl (by kernel_rfl) (TlF.cons (sz := 1) (Tl.int Try.underlying3) rfl (by kernel_rfl) (TlF.one (sz := 1) (Tl.int Try.underlying3) rfl (by kernel_rfl))))) (fun a => (⟨a.1, a.2.1, a.2.2⟩ : S102)) (fun _ => rfl) ok102 (fun _ h => h)
/-- The pure statement of the law. -/
def Pure : Prop := ∀ (x0 : (List S98)) (x1 : (List S102)) (x2 : Int), (x0.length ≤ maxLen ∧ ∀ y ∈ x0, ok98 y) → (x1.length ≤ maxLen ∧ ∀ y ∈ x1, ok102 y) → (Lit.int .i64 x2).wf = true → ∃ k, laws_FnExactLegsOk.f k x0 x1 x2 = some true
end Go.Proofs.Ytjfjifnmfnlfoaa.Fns
