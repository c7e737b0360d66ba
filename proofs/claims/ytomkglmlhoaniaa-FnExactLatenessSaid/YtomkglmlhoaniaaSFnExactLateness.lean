/- How the arguments of the law FnExactLateness are read, and its pure statement. -/
import Derived.Test.YtomkglmlhoaniaaCFnExactLatenessx12
import Derived.Test.YtomkglmlhoaniaaTellsFnExactLateness
import Derived.KernelRfl
namespace Go.Proofs.Ytomkglmlhoaniaa.RFnExactLateness
open Go.RowKit Go.Proofs.Ytomkglmlhoaniaa.PFnExactLateness Go.Proofs.YtomkglmlhoaniaaW.PrintWords Go.Proofs.Ytomkglmlhoaniaa.Tells
def ok70 (x : S70) : Prop := (Lit.int .i64 x.f0).wf = true ∧ (Lit.int .i64 x.f1).wf = true ∧ (Lit.int .i64 x.f2).wf = true ∧ (Lit.int .i64 x.f3).wf = true
theorem tells70 : Tells Try.prog 70 k70 ok70 :=
  Tells.iso (Tells.struct Try.underlying70 (by kernel_rfl) (TellsF.cons (Tells.int Try.underlying3) rfl (by kernel_rfl) (TellsF.cons (Tells.int Try.underlying3) rfl (by kernel_rfl) (TellsF.cons (Tells.int Try.underlying3) rfl (by kernel_rfl) (TellsF.one (Tells.int Try.underlying3) rfl (by kernel_rfl)))))) (fun x : S70 => (x.f0, x.f1, x.f2, x.f3)) (fun a => ⟨a.1, a.2.1, a.2.2.1, a.2.2.2⟩) (fun _ => rfl) ok70 (fun _ h => h)
structure S25 where
  f0 : (List Int)
  f1 : (List S70)
  f2 : Int
def k25 : Kd S25 := Kd.iso (Kd.pair (Kd.slice 3 (Kd.int .i64)) (Kd.pair (Kd.slice 70 k70) (Kd.int .i64))) (fun x : S25 => (x.f0, x.f1, x.f2))
def ok25 (x : S25) : Prop := (x.f0.length ≤ maxLen ∧ ∀ y ∈ x.f0, (Lit.int .i64 y).wf = true) ∧ (x.f1.length ≤ maxLen ∧ ∀ y ∈ x.f1, ok70 y) ∧ (Lit.int .i64 x.f2).wf = true
theorem tells25 : Tells Try.prog 25 k25 ok25 :=
  Tells.iso (Tells.struct Try.underlying25 (by kernel_rfl) (TellsF.cons (Tells.slice (q := 3) Try.underlying22 (Tells.int Try.underlying3) (by kernel_rfl)) rfl (by kernel_rfl) (TellsF.cons (Tells.slice (q := 70) Try.underlying23 tells70 (by kernel_rfl)) rfl (by kernel_rfl) (TellsF.one (Tells.int Try.underlying3) rfl (by kernel_rfl))))) (fun x : S25 => (x.f0, x.f1, x.f2)) (fun a => ⟨a.1, a.2.1, a.2.2⟩) (fun _ => rfl) ok25 (fun _ h => h)
/-- The pure statement of the law. -/
def Pure : Prop := ∀ (x0 : S25) (x1 : (List Int)), ok25 x0 → (x1.length ≤ maxLen ∧ ∀ y ∈ x1, (Lit.int .i64 y).wf = true) → ∃ k, laws_FnExactLateness.f k x0.f0 x0.f1 x0.f2 x1 = some true
end Go.Proofs.Ytomkglmlhoaniaa.RFnExactLateness
