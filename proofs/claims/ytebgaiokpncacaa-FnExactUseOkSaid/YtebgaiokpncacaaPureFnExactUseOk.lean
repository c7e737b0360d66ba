/- The pure statement of the law FnExactUseOk: what the program's functions and the reference's compute is told in plain words, and the two agree. -/
import Derived.Test.YtebgaiokpncacaaSFnExactUseOk
import Derived.Test.YtebgaiokpncacaaPlFnExactUseOk
namespace Go.Proofs.Ytebgaiokpncacaa.Pure
open Go.RowKit Go.Proofs.Ytebgaiokpncacaa.PFnExactUseOk Go.Proofs.Ytebgaiokpncacaa.RFnExactUseOk Go.Proofs.YtebgaiokpncacaaW.PrintWords Go.Proofs.YtebgaiokpncacaaW.PrintLast Go.Proofs.YtebgaiokpncacaaW.PrintMore Go.Proofs.Ytebgaiokpncacaa.Pl
set_option linter.unusedSimpArgs false
set_option linter.unusedVariables false
def UseP (a b c d e : Int) : Prop := 0 ≤ a ∧ a ≤ 59 ∧ 0 ≤ b ∧ b ≤ 1 ∧ 0 ≤ c ∧ c < d ∧ d ≤ 100000 ∧ 0 ≤ e ∧ e ≤ 23
def ClashP (a0 a1 a2 a3 a4 b0 b1 b2 b3 b4 h : Int) : Prop := UseP a0 a1 a2 a3 a4 ∧ UseP b0 b1 b2 b3 b4 ∧ 0 ≤ h ∧ h ≤ 60 ∧ a0 = b0 ∧ (a1 ≠ b1 → a2 < b3 ∧ b2 < a3) ∧ (a1 = b1 → ¬ (a2 + h ≤ b2 ∧ a3 + h ≤ b3) ∧ ¬ (b2 + h ≤ a2 ∧ b3 + h ≤ a3))

theorem eq_spec_l01In (a b c : Int) : spec_l01In.f a b c = some (decide (b ≤ a ∧ a ≤ c)) := by
  unfold spec_l01In.f
  by_cases h : b ≤ a
  · rw [if_pos h]; simp [h]
  · rw [if_neg h]; simp [h]

theorem eq_spec_UseOk (a b c d e : Int) [Decidable (UseP a b c d e)] : spec_UseOk.f a b c d e = some (decide (UseP a b c d e)) := by
  unfold spec_UseOk.f
  simp only [eq_spec_l01In, Option.bind_some, wrap64]
  (repeat' split) <;> (refine congrArg some (Bool.eq_iff_iff.2 ?_); simp only [decide_eq_true_eq, Bool.false_eq_true, false_iff] at *; (try simp only [UseP] at *); omega)

theorem eq_impl_between (a b c : Int) : impl_between.f a b c = some (decide (b ≤ a ∧ a ≤ c)) := by
  unfold impl_between.f
  by_cases h : a ≥ b
  · rw [if_pos h]; simp [show b ≤ a from h]
  · rw [if_neg h]; simp [show ¬ b ≤ a from h]

theorem eq_impl_UseOk (a b c d e : Int) [Decidable (UseP a b c d e)] : impl_UseOk.f a b c d e = some (decide (UseP a b c d e)) := by
  unfold impl_UseOk.f
  simp only [eq_impl_between, Option.bind_some]
  (repeat' split) <;> (refine congrArg some (Bool.eq_iff_iff.2 ?_); simp only [decide_eq_true_eq, Bool.false_eq_true, false_iff] at *; (try simp only [UseP] at *); omega)

theorem FnExactUseOk : RFnExactUseOk.Pure := by
  classical
  intro x _
  unfold laws_FnExactUseOk.f
  simp only [show ∀ a b c d e, laws_toUse.f a b c d e = some (a, b, c, d, e) from fun _ _ _ _ _ => rfl, Option.bind_some, eq_spec_UseOk, eq_impl_UseOk, bne_self_eq_false]
  rfl

end Go.Proofs.Ytebgaiokpncacaa.Pure
