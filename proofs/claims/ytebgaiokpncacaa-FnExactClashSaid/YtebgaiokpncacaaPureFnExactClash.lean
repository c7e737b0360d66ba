/- The pure statement of the law FnExactClash: what the program's functions and the reference's compute is told in plain words, and the two agree. -/
import Derived.Test.YtebgaiokpncacaaSFnExactClash
import Derived.Test.YtebgaiokpncacaaPlFnExactClash
namespace Go.Proofs.Ytebgaiokpncacaa.Pure
open Go.RowKit Go.Proofs.Ytebgaiokpncacaa.PFnExactClash Go.Proofs.Ytebgaiokpncacaa.RFnExactClash Go.Proofs.YtebgaiokpncacaaW.PrintWords Go.Proofs.YtebgaiokpncacaaW.PrintLast Go.Proofs.YtebgaiokpncacaaW.PrintMore Go.Proofs.Ytebgaiokpncacaa.Pl
set_option linter.unusedSimpArgs false
set_option linter.unusedVariables false
def UseP (a b c d e : Int) : Prop := 0 ≤ a ∧ a ≤ 59 ∧ 0 ≤ b ∧ b ≤ 1 ∧ 0 ≤ c ∧ c < d ∧ d ≤ 100000 ∧ 0 ≤ e ∧ e ≤ 23
def ClashP (a0 a1 a2 a3 a4 b0 b1 b2 b3 b4 h : Int) : Prop := UseP a0 a1 a2 a3 a4 ∧ UseP b0 b1 b2 b3 b4 ∧ 0 ≤ h ∧ h ≤ 60 ∧ a0 = b0 ∧ (a1 ≠ b1 → a2 < b3 ∧ b2 < a3) ∧ (a1 = b1 → ¬ (a2 + h ≤ b2 ∧ a3 + h ≤ b3) ∧ ¬ (b2 + h ≤ a2 ∧ b3 + h ≤ a3))

theorem eq_impl_between (a b c : Int) : impl_between.f a b c = some (decide (b ≤ a ∧ a ≤ c)) := by
  unfold impl_between.f
  by_cases h : a ≥ b
  · rw [if_pos h]; simp [show b ≤ a from h]
  · rw [if_neg h]; simp [show ¬ b ≤ a from h]

theorem eq_impl_UseOk (a b c d e : Int) [Decidable (UseP a b c d e)] : impl_UseOk.f a b c d e = some (decide (UseP a b c d e)) := by
  unfold impl_UseOk.f
  simp only [eq_impl_between, Option.bind_some]
  (repeat' split) <;> (refine congrArg some (Bool.eq_iff_iff.2 ?_); simp only [decide_eq_true_eq, Bool.false_eq_true, false_iff] at *; (try simp only [UseP] at *); omega)

theorem eq_impl_Clash (a0 a1 a2 a3 a4 b0 b1 b2 b3 b4 h : Int) [Decidable (ClashP a0 a1 a2 a3 a4 b0 b1 b2 b3 b4 h)] : impl_Clash.f a0 a1 a2 a3 a4 b0 b1 b2 b3 b4 h = some (decide (ClashP a0 a1 a2 a3 a4 b0 b1 b2 b3 b4 h)) := by
  classical
  unfold impl_Clash.f impl_meet.f
  simp only [eq_impl_between, eq_impl_UseOk, Option.bind_some]
  by_cases h1 : UseP a0 a1 a2 a3 a4
  · by_cases h2 : UseP b0 b1 b2 b3 b4
    · simp only [h1, h2, decide_true, if_true]
      by_cases h3 : 0 ≤ h ∧ h ≤ 60
      · simp only [decide_eq_true h3, if_true]
        have e : ∀ x : Int, UseP a0 a1 a2 a3 a4 → UseP b0 b1 b2 b3 b4 → (x = a2 ∨ x = a3 ∨ x = b2 ∨ x = b3) → wrap64 (x + h) = x + h := by
          intro x g1 g2 g3
          unfold UseP at g1 g2
          unfold wrap64
          omega
        rw [e a2 h1 h2 (by simp), e a3 h1 h2 (by simp), e b2 h1 h2 (by simp), e b3 h1 h2 (by simp)]
        unfold ClashP
        simp only [h1, h2, true_and]
        (repeat' split) <;> (refine congrArg some (Bool.eq_iff_iff.2 ?_); simp only [Option.bind_some, decide_eq_true_eq, Bool.false_eq_true, false_iff, Bool.not_eq_true', decide_eq_false_iff_not, Bool.not_false, true_iff] at *; omega)
      · simp only [decide_eq_false h3]
        rw [if_neg (by simp), decide_eq_false]
        unfold ClashP
        omega
    · rw [decide_eq_false (p := ClashP a0 a1 a2 a3 a4 b0 b1 b2 b3 b4 h) (fun g => h2 g.2.1)]
      simp [h1, h2]
  · rw [decide_eq_false (p := ClashP a0 a1 a2 a3 a4 b0 b1 b2 b3 b4 h) (fun g => h1 g.1)]
    simp [h1]

theorem eq_spec_l01In (a b c : Int) : spec_l01In.f a b c = some (decide (b ≤ a ∧ a ≤ c)) := by
  unfold spec_l01In.f
  by_cases h : b ≤ a
  · rw [if_pos h]; simp [h]
  · rw [if_neg h]; simp [h]

theorem eq_spec_UseOk (a b c d e : Int) [Decidable (UseP a b c d e)] : spec_UseOk.f a b c d e = some (decide (UseP a b c d e)) := by
  unfold spec_UseOk.f
  simp only [eq_spec_l01In, Option.bind_some, wrap64]
  (repeat' split) <;> (refine congrArg some (Bool.eq_iff_iff.2 ?_); simp only [decide_eq_true_eq, Bool.false_eq_true, false_iff] at *; (try simp only [UseP] at *); omega)

theorem spec_Clash_j0_bad (k : Nat) (h a0 a1 a2 a3 a4 b0 b1 b2 b3 b4 : Int) : spec_Clash.j0 (k + 1) h true a0 a1 a2 a3 a4 b0 b1 b2 b3 b4 = some false := by
  simp [spec_Clash.j0]
theorem ev_spec_Clash (a0 a1 a2 a3 a4 b0 b1 b2 b3 b4 h : Int) [Decidable (ClashP a0 a1 a2 a3 a4 b0 b1 b2 b3 b4 h)] : Ev (fun k => spec_Clash.f k a0 a1 a2 a3 a4 b0 b1 b2 b3 b4 h) (decide (ClashP a0 a1 a2 a3 a4 b0 b1 b2 b3 b4 h)) := by
  classical
  unfold spec_Clash.f
  simp only [eq_spec_l01In, eq_spec_UseOk, Option.bind_some]
  by_cases h1 : UseP a0 a1 a2 a3 a4
  · by_cases h2 : UseP b0 b1 b2 b3 b4
    · simp only [h1, h2, decide_true, if_true]
      by_cases h3 : 0 ≤ h ∧ h ≤ 60
      · simp only [decide_eq_true h3, if_true]
        by_cases h4 : a0 = b0
        · have e : ∀ x : Int, UseP a0 a1 a2 a3 a4 → UseP b0 b1 b2 b3 b4 → (x = a2 ∨ x = a3 ∨ x = b2 ∨ x = b3) → wrap64 (x + h) = x + h := by
            intro x g1 g2 g3
            unfold UseP at g1 g2
            unfold wrap64
            omega
          have h5 : (a0 != b0) = false := by simp [h4]
          simp only [h5]
          refine Ev.step (fun k => by simp only [spec_Clash.j0]; rfl) ?_
          simp only [Bool.false_eq_true, if_false]
          rw [e a2 h1 h2 (by simp), e a3 h1 h2 (by simp), e b2 h1 h2 (by simp), e b3 h1 h2 (by simp)]
          refine ev_opt ?_
          unfold ClashP
          simp only [h1, h2, true_and]
          (repeat' split) <;> (refine congrArg some (Bool.eq_iff_iff.2 ?_); simp only [Option.bind_some, decide_eq_true_eq, Bool.false_eq_true, false_iff, Bool.not_eq_true', decide_eq_false_iff_not, Bool.not_false, true_iff] at *; omega)
        · have h5 : (a0 != b0) = true := by simp [h4]
          simp only [h5]
          refine Ev.step (fun k => by rw [spec_Clash_j0_bad]) (ev_val (decide_eq_false ?_).symm)
          exact fun g => h4 g.2.2.2.2.1
      · simp only [decide_eq_false h3, Bool.false_eq_true, if_false]
        refine Ev.step (fun k => by rw [spec_Clash_j0_bad]) (ev_val (decide_eq_false ?_).symm)
        unfold ClashP
        omega
    · simp only [h1, h2, decide_true, if_true, decide_false, Bool.false_eq_true, if_false]
      refine Ev.step (fun k => by rw [spec_Clash_j0_bad]) (ev_val (decide_eq_false ?_).symm)
      exact fun g => h2 g.2.1
  · simp only [h1, decide_false, Bool.false_eq_true, if_false]
    refine Ev.step (fun k => by rw [spec_Clash_j0_bad]) (ev_val (decide_eq_false ?_).symm)
    exact fun g => h1 g.1

theorem FnExactClash : RFnExactClash.Pure := by
  classical
  intro x y h _ _ _
  refine Ev.rounds ?_
  unfold laws_FnExactClash.f
  simp only [show ∀ a b c d e, laws_toUse.f a b c d e = some (a, b, c, d, e) from fun _ _ _ _ _ => rfl, Option.bind_some, eq_impl_Clash]
  refine Ev.bind (ev_spec_Clash _ _ _ _ _ _ _ _ _ _ _) ?_
  simp only [bne_self_eq_false]
  exact ev_val rfl

end Go.Proofs.Ytebgaiokpncacaa.Pure
