/- How the arguments of the law FnExactClash are read, and its pure statement. -/
import Derived.Test.YtebgaiokpncacaaCFnExactClashx2
import Derived.Test.YtebgaiokpncacaaTellsFnExactClash
import Derived.KernelRfl
namespace Go.Proofs.Ytebgaiokpncacaa.RFnExactClash
open Go.RowKit Go.Proofs.Ytebgaiokpncacaa.PFnExactClash Go.Proofs.YtebgaiokpncacaaW.PrintWords Go.Proofs.Ytebgaiokpncacaa.Tells
structure S23 where
  f0 : Int
  f1 : Int
  f2 : Int
  f3 : Int
  f4 : Int
def k23 : Kd S23 := Kd.iso (Kd.pair (Kd.int .i64) (Kd.pair (Kd.int .i64) (Kd.pair (Kd.int .i64) (Kd.pair (Kd.int .i64) (Kd.int .i64))))) (fun x : S23 => (x.f0, x.f1, x.f2, x.f3, x.f4))
def ok23 (x : S23) : Prop := (Lit.int .i64 x.f0).wf = true ∧ (Lit.int .i64 x.f1).wf = true ∧ (Lit.int .i64 x.f2).wf = true ∧ (Lit.int .i64 x.f3).wf = true ∧ (Lit.int .i64 x.f4).wf = true
theorem tells23 : Tells Try.prog 23 k23 ok23 :=
  Tells.iso (Tells.struct Try.underlying23 (by kernel_rfl) (TellsF.cons (Tells.int Try.underlying3) rfl (by kernel_rfl) (TellsF.cons (Tells.int Try.underlying3) rfl (by kernel_rfl) (TellsF.cons (Tells.int Try.underlying3) rfl (by kernel_rfl) (TellsF.cons (Tells.int Try.underlying3) rfl (by kernel_rfl) (TellsF.one (Tells.int Try.underlying3) rfl (by kernel_rfl))))))) (fun x : S23 => (x.f0, x.f1, x.f2, x.f3, x.f4)) (fun a => ⟨a.1, a.2.1, a.2.2.1, a.2.2.2.1, a.2.2.2.2⟩) (fun _ => rfl) ok23 (fun _ h => h)
/-- The pure statement of the law. -/
def Pure : Prop := ∀ (x0 : S23) (x1 : S23) (x2 : Int), ok23 x0 → ok23 x1 → (Lit.int .i64 x2).wf = true → ∃ k, laws_FnExactClash.f k x0.f0 x0.f1 x0.f2 x0.f3 x0.f4 x1.f0 x1.f1 x1.f2 x1.f3 x1.f4 x2 = some true
end Go.Proofs.Ytebgaiokpncacaa.RFnExactClash
