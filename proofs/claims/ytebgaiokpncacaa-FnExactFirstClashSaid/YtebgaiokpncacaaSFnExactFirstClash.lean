/- How the arguments of the law FnExactFirstClash are read, and its pure statement. -/
import Derived.Test.YtebgaiokpncacaaCFnExactFirstClashx4
import Derived.Test.YtebgaiokpncacaaTellsFnExactFirstClash
import Derived.KernelRfl
namespace Go.Proofs.Ytebgaiokpncacaa.RFnExactFirstClash
open Go.RowKit Go.Proofs.Ytebgaiokpncacaa.PFnExactFirstClash Go.Proofs.YtebgaiokpncacaaW.PrintWords Go.Proofs.Ytebgaiokpncacaa.Tells
def ok23 (x : S23) : Prop := (Lit.int .i64 x.f0).wf = true ∧ (Lit.int .i64 x.f1).wf = true ∧ (Lit.int .i64 x.f2).wf = true ∧ (Lit.int .i64 x.f3).wf = true ∧ (Lit.int .i64 x.f4).wf = true
theorem tells23 : Tells Try.prog 23 k23 ok23 :=
  Tells.iso (Tells.struct Try.underlying23 (by kernel_rfl) (TellsF.cons (Tells.int Try.underlying3) rfl (by kernel_rfl) (TellsF.cons (Tells.int Try.underlying3) rfl (by kernel_rfl) (TellsF.cons (Tells.int Try.underlying3) rfl (by kernel_rfl) (TellsF.cons (Tells.int Try.underlying3) rfl (by kernel_rfl) (TellsF.one (Tells.int Try.underlying3) rfl (by kernel_rfl))))))) (fun x : S23 => (x.f0, x.f1, x.f2, x.f3, x.f4)) (fun a => ⟨a.1, a.2.1, a.2.2.1, a.2.2.2.1, a.2.2.2.2⟩) (fun _ => rfl) ok23 (fun _ h => h)
/-- The pure statement of the law. -/
def Pure : Prop := ∀ (x0 : (List S23)) (x1 : Int), (x0.length ≤ maxLen ∧ ∀ y ∈ x0, ok23 y) → (Lit.int .i64 x1).wf = true → ∃ k, laws_FnExactFirstClash.f k x0 x1 = some true
end Go.Proofs.Ytebgaiokpncacaa.RFnExactFirstClash
