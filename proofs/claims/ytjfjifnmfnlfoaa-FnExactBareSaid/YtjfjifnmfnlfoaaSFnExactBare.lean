/- How the arguments of the law FnExactBare are read, and its pure statement. -/
import Derived.Test.YtjfjifnmfnlfoaaFFnExactBarex4
import Derived.Test.YtjfjifnmfnlfoaaE5
import Derived.KernelRfl
namespace Go.Proofs.Ytjfjifnmfnlfoaa.Fns
open Go.RowKit Go.WideShapes Go.Proofs.Ytjfjifnmfnlfoaa.Eng
set_option linter.unusedVariables false
def ok93 (x : S93) : Prop := (Lit.int .i64 x.f0).wf = true ∧ (Lit.int .i64 x.f1).wf = true
theorem tells173 : Tl Try.prog 173 e93 ok93 :=
  Tl.iso (Tl.struct Try.underlying173 (by kernel_rfl) (TlF.cons (sz := 1) (Tl.int Try.underlying3) rfl (by kernel_rfl) (TlF.one (sz := 1) (Tl.int Try.underlying3) rfl (by kernel_rfl)))) (fun a => (⟨a.1, a.2⟩ : S93)) (fun _ => rfl) ok93 (fun _ h => h)
def ok142 (x : S142) : Prop := (x.f0.length ≤ maxLen ∧ ∀ y ∈ x.f0, ok93 y) ∧ (x.f1.length ≤ maxLen ∧ ∀ y ∈ x.f1, (Lit.int .i64 y).wf = true)
theorem tells143 : Tl Try.prog 143 (e142 true) ok142 :=
  Tl.iso (Tl.struct Try.underlying143 (by kernel_rfl) (TlF.cons (sz := 1) (Tl.slice true Try.underlying141 tells173 e93_ok (by kernel_rfl) (by decide)) rfl (by kernel_rfl) (TlF.one (sz := 1) (Tl.slice true Try.underlying22 (Tl.int Try.underlying3) encI_ok (by kernel_rfl) (by decide)) rfl (by kernel_rfl)))) (fun a => (⟨a.1, a.2⟩ : S142)) (fun _ => rfl) ok142 (fun _ h => h)
def ok24 (x : S24) : Prop := (x.f0.length ≤ maxLen ∧ ∀ y ∈ x.f0, (Lit.int .i64 y).wf = true) ∧ (Lit.int .i64 x.f1).wf = true ∧ (x.f2.length ≤ maxLen ∧ ∀ y ∈ x.f2, ok142 y)
theorem tells25 : Tl Try.prog 25 (e24 true) ok24 :=
  Tl.iso (Tl.struct Try.underlying25 (by kernel_rfl) (TlF.cons (sz := 1) (Tl.slice true Try.underlying22 (Tl.int Try.underlying3) encI_ok (by kernel_rfl) (by decide)) rfl (by kernel_rfl) (TlF.cons (sz := 1) (Tl.int Try.underlying3) rfl (by kernel_rfl) (TlF.one (sz := 1) (Tl.slice true Try.underlying23 tells143 (e142_ok true) (by kernel_rfl) (by decide)) rfl (by kernel_rfl))))) (fun a => (⟨a.1, a.2.1, a.2.2⟩ : S24)) (fun _ => rfl) ok24 (fun _ h => h)
/-- The pure statement of the law. -/
def Pure : Prop := ∀ (x0 : S24), ok24 x0 → ∃ k, laws_FnExactBare.f k x0 = some true
end Go.Proofs.Ytjfjifnmfnlfoaa.Fns
