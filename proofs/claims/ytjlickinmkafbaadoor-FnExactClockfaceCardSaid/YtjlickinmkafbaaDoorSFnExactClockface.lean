/- How the arguments of the law FnExactClockface are read, and its pure statement. -/
import Derived.Test.YtjlickinmkafbaaDoorFFnExactClockfacex3
import Derived.Test.YtjlickinmkafbaaDoorE5
import Derived.KernelRfl
namespace Go.Proofs.YtjlickinmkafbaaDoor.Fns
open Go.RowKit Go.WideShapes Go.Proofs.YtjlickinmkafbaaDoor.Eng
set_option linter.unusedVariables false
def ok48 (x : S48) : Prop := (Lit.int .i64 x.f0).wf = true ∧ (Lit.int .i64 x.f1).wf = true ∧ (Lit.int .i64 x.f2).wf = true
theorem tells74 : Tl Tryd.prog 74 e48 ok48 :=
  Tl.iso (Tl.struct Tryd.underlying74 (by kernel_rfl) (TlF.cons (sz := 1) (Tl.int Tryd.underlying3) rfl (by kernel_rfl) (TlF.cons (sz := 1) (Tl.int Tryd.underlying3) rfl (by kernel_rfl) (TlF.one (sz := 1) (Tl.int Tryd.underlying3) rfl (by kernel_rfl))))) (fun a => (⟨a.1, a.2.1, a.2.2⟩ : S48)) (fun _ => rfl) ok48 (fun _ h => h)
def ok23 (x : S23) : Prop := x.f0.size ≤ maxLen ∧ (x.f1.length ≤ maxLen ∧ ∀ y ∈ x.f1, ok48 y)
theorem tells24 : Tl Tryd.prog 24 (e23 true) ok23 :=
  Tl.iso (Tl.struct Tryd.underlying24 (by kernel_rfl) (TlF.cons (sz := 1) (Tl.string Tryd.underlying9) rfl (by kernel_rfl) (TlF.one (sz := 1) (Tl.slice true Tryd.underlying22 tells74 e48_ok (by kernel_rfl) (by decide)) rfl (by kernel_rfl)))) (fun a => (⟨a.1, a.2⟩ : S23)) (fun _ => rfl) ok23 (fun _ h => h)
/-- The pure statement of the law. -/
def Pure : Prop := ∀ (x0 : S23) (x1 : Int) (x2 : Int), ok23 x0 → (Lit.int .i64 x1).wf = true → (Lit.int .i64 x2).wf = true → ∃ k, laws_FnExactClockface.f k x0 x1 x2 = some true
end Go.Proofs.YtjlickinmkafbaaDoor.Fns
