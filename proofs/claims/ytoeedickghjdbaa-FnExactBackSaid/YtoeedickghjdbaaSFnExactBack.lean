/- How the arguments of the law FnExactBack are read, and its pure statement. -/
import Derived.Test.YtoeedickghjdbaaCFnExactBackx7
import Derived.Test.YtoeedickghjdbaaTellsFnExactBack
import Derived.KernelRfl
namespace Go.Proofs.Ytoeedickghjdbaa.RFnExactBack
open Go.RowKit Go.Proofs.Ytoeedickghjdbaa.PFnExactBack Go.Proofs.YtoeedickghjdbaaW.PrintWords Go.Proofs.Ytoeedickghjdbaa.Tells
def ok83 (x : S83) : Prop := (Lit.int .i64 x.f0).wf = true ∧ (Lit.int .i64 x.f1).wf = true ∧ (Lit.int .i64 x.f2).wf = true
theorem tells83 : Tells Try.prog 83 k83 ok83 :=
  Tells.iso (Tells.struct Try.underlying83 (by kernel_rfl) (TellsF.cons (Tells.int Try.underlying3) rfl (by kernel_rfl) (TellsF.cons (Tells.int Try.underlying3) rfl (by kernel_rfl) (TellsF.one (Tells.int Try.underlying3) rfl (by kernel_rfl))))) (fun x : S83 => (x.f0, x.f1, x.f2)) (fun a => ⟨a.1, a.2.1, a.2.2⟩) (fun _ => rfl) ok83 (fun _ h => h)
structure S24 where
  f0 : ByteArray
  f1 : (List S83)
def k24 : Kd S24 := Kd.iso (Kd.pair Kd.string (Kd.slice 83 k83)) (fun x : S24 => (x.f0, x.f1))
def ok24 (x : S24) : Prop := x.f0.size ≤ maxLen ∧ (x.f1.length ≤ maxLen ∧ ∀ y ∈ x.f1, ok83 y)
theorem tells24 : Tells Try.prog 24 k24 ok24 :=
  Tells.iso (Tells.struct Try.underlying24 (by kernel_rfl) (TellsF.cons (Tells.string Try.underlying9) rfl (by kernel_rfl) (TellsF.one (Tells.slice (q := 83) Try.underlying22 tells83 (by kernel_rfl)) rfl (by kernel_rfl)))) (fun x : S24 => (x.f0, x.f1)) (fun a => ⟨a.1, a.2⟩) (fun _ => rfl) ok24 (fun _ h => h)
/-- The pure statement of the law. -/
def Pure : Prop := ∀ (x0 : S24) (x1 : Int), ok24 x0 → (Lit.int .i64 x1).wf = true → ∃ k, laws_FnExactBack.f k x0.f0 x0.f1 x1 = some true
end Go.Proofs.Ytoeedickghjdbaa.RFnExactBack
