/- How the arguments of the law FnExactChain are read, and its pure statement. -/
import Derived.Test.YtomkglmlhoaniaaFFnExactChainx5
import Derived.Test.YtomkglmlhoaniaaE5
import Derived.KernelRfl
namespace Go.Proofs.Ytomkglmlhoaniaa.Fns
open Go.RowKit Go.WideShapes Go.Proofs.Ytomkglmlhoaniaa.Eng
set_option linter.unusedVariables false
def ok52 (x : S52) : Prop := (Lit.int .i64 x.f0).wf = true ∧ (Lit.int .i64 x.f1).wf = true ∧ (Lit.int .i64 x.f2).wf = true ∧ (Lit.int .i64 x.f3).wf = true
theorem tells70 : Tl Try.prog 70 e52 ok52 :=
  Tl.iso (Tl.struct Try.underlying70 (by kernel_rfl) (TlF.cons (sz := 1) (Tl.int Try.underlying3) rfl (by kernel_rfl) (TlF.cons (sz := 1) (Tl.int Try.underlying3) rfl (by kernel_rfl) (TlF.cons (sz := 1) (Tl.int Try.underlying3) rfl (by kernel_rfl) (TlF.one (sz := 1) (Tl.int Try.underlying3) rfl (by kernel_rfl)))))) (fun a => (⟨a.1, a.2.1, a.2.2.1, a.2.2.2⟩ : S52)) (fun _ => rfl) ok52 (fun _ h => h)
def ok24 (x : S24) : Prop := (x.f0.length ≤ maxLen ∧ ∀ y ∈ x.f0, (Lit.int .i64 y).wf = true) ∧ (x.f1.length ≤ maxLen ∧ ∀ y ∈ x.f1, ok52 y) ∧ (Lit.int .i64 x.f2).wf = true
theorem tells25 : Tl Try.prog 25 (e24 true) ok24 :=
  Tl.iso (Tl.struct Try.underlying25 (by kernel_rfl) (TlF.cons (sz := 1) (Tl.slice true Try.underlying22 (Tl.int Try.underlying3) encI_ok (by kernel_rfl) (by decide)) rfl (by kernel_rfl) (TlF.cons (sz := 1) (Tl.slice true Try.underlying23 tells70 e52_ok (by kernel_rfl) (by decide)) rfl (by kernel_rfl) (TlF.one (sz := 1) (Tl.int Try.underlying3) rfl (by kernel_rfl))))) (fun a => (⟨a.1, a.2.1, a.2.2⟩ : S24)) (fun _ => rfl) ok24 (fun _ h => h)
/-- The pure statement of the law. -/
def Pure : Prop := ∀ (x0 : S24) (x1 : (List Int)) (x2 : Int), ok24 x0 → (x1.length ≤ maxLen ∧ ∀ y ∈ x1, (Lit.int .i64 y).wf = true) → (Lit.int .i64 x2).wf = true → ∃ k, laws_FnExactChain.f k x0 x1 x2 = some true
end Go.Proofs.Ytomkglmlhoaniaa.Fns
