/- How the arguments of the law FnExactSettle are read, and its pure statement. -/
import Derived.Test.YtebgaiokpncacaaFFnExactSettlex8
import Derived.Test.YtebgaiokpncacaaE5
import Derived.KernelRfl
namespace Go.Proofs.Ytebgaiokpncacaa.Fns
open Go.RowKit Go.WideShapes Go.Proofs.Ytebgaiokpncacaa.Eng
set_option linter.unusedVariables false
def ok95 (x : S95) : Prop := (Lit.int .i64 x.f0).wf = true ∧ (Lit.int .i64 x.f1).wf = true ∧ (Lit.int .i64 x.f2).wf = true ∧ (Lit.int .i64 x.f3).wf = true
theorem tells114 : Tl Try.prog 114 e95 ok95 :=
  Tl.iso (Tl.struct Try.underlying114 (by kernel_rfl) (TlF.cons (sz := 1) (Tl.int Try.underlying3) rfl (by kernel_rfl) (TlF.cons (sz := 1) (Tl.int Try.underlying3) rfl (by kernel_rfl) (TlF.cons (sz := 1) (Tl.int Try.underlying3) rfl (by kernel_rfl) (TlF.one (sz := 1) (Tl.int Try.underlying3) rfl (by kernel_rfl)))))) (fun a => (⟨a.1, a.2.1, a.2.2.1, a.2.2.2⟩ : S95)) (fun _ => rfl) ok95 (fun _ h => h)
def ok39 (x : S39) : Prop := (Lit.int .i64 x.f0).wf = true ∧ (x.f1.length ≤ maxLen ∧ ∀ y ∈ x.f1, ok95 y)
theorem tells40 : Tl Try.prog 40 (e39 true) ok39 :=
  Tl.iso (Tl.struct Try.underlying40 (by kernel_rfl) (TlF.cons (sz := 1) (Tl.int Try.underlying3) rfl (by kernel_rfl) (TlF.one (sz := 1) (Tl.slice true Try.underlying38 tells114 e95_ok (by kernel_rfl) (by decide)) rfl (by kernel_rfl)))) (fun a => (⟨a.1, a.2⟩ : S39)) (fun _ => rfl) ok39 (fun _ h => h)
def ok89 (x : S89) : Prop := (Lit.int .i64 x.f0).wf = true ∧ (Lit.int .i64 x.f1).wf = true ∧ (Lit.int .i64 x.f2).wf = true
theorem tells118 : Tl Try.prog 118 e89 ok89 :=
  Tl.iso (Tl.struct Try.underlying118 (by kernel_rfl) (TlF.cons (sz := 1) (Tl.int Try.underlying3) rfl (by kernel_rfl) (TlF.cons (sz := 1) (Tl.int Try.underlying3) rfl (by kernel_rfl) (TlF.one (sz := 1) (Tl.int Try.underlying3) rfl (by kernel_rfl))))) (fun a => (⟨a.1, a.2.1, a.2.2⟩ : S89)) (fun _ => rfl) ok89 (fun _ h => h)
def ok61 (x : S61) : Prop := x.f0.size ≤ maxLen ∧ (x.f1.length ≤ maxLen ∧ ∀ y ∈ x.f1, ok89 y)
theorem tells62 : Tl Try.prog 62 (e61 true) ok61 :=
  Tl.iso (Tl.struct Try.underlying62 (by kernel_rfl) (TlF.cons (sz := 1) (Tl.string Try.underlying9) rfl (by kernel_rfl) (TlF.one (sz := 1) (Tl.slice true Try.underlying60 tells118 e89_ok (by kernel_rfl) (by decide)) rfl (by kernel_rfl)))) (fun a => (⟨a.1, a.2⟩ : S61)) (fun _ => rfl) ok61 (fun _ h => h)
/-- The pure statement of the law. -/
def Pure : Prop := ∀ (x0 : S39) (x1 : (List S61)) (x2 : Int), ok39 x0 → (x1.length ≤ maxLen ∧ ∀ y ∈ x1, ok61 y) → (Lit.int .i64 x2).wf = true → ∃ k, laws_FnExactSettle.f k x0 x1 x2 = some true
end Go.Proofs.Ytebgaiokpncacaa.Fns
