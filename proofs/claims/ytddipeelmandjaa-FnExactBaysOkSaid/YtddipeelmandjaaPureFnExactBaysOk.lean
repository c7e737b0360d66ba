/- The pure statement of the law FnExactBaysOk: what the program's functions and the reference's compute is told in plain words, and the two agree. -/
import Derived.Test.YtddipeelmandjaaSFnExactBaysOk
import Derived.Test.YtddipeelmandjaaPl
namespace Go.Proofs.Ytddipeelmandjaa.Pure
open Go.RowKit Go.Proofs.Ytddipeelmandjaa.PFnExactBaysOk Go.Proofs.Ytddipeelmandjaa.RFnExactBaysOk Go.Proofs.YtddipeelmandjaaW.PrintWords Go.Proofs.YtddipeelmandjaaW.PrintLast Go.Proofs.YtddipeelmandjaaW.PrintMore Go.Proofs.Ytddipeelmandjaa.Pl
set_option linter.unusedSimpArgs false
set_option linter.unusedVariables false
def BaysP (xs : List Int) : Prop := (∀ x ∈ xs, 1 ≤ x ∧ x ≤ 1000) ∧ (1 ≤ (xs.length : Int) ∧ (xs.length : Int) ≤ 12)

theorem ev_laws_toIntS (xs : List Int) (hl : xs.length ≤ 1048576) : Ev (fun k => laws_toIntS.f k xs) xs := by
  unfold laws_toIntS.f
  simp only [if_pos (show 0 ≤ (xs.length : Int) by omega), Int.toNat_natCast, if_pos (show xs.length ≤ 35184372088832 by omega)]
  refine ev_fill xs id 0 (fun k s i => laws_toIntS.l0 k xs s (i : Int)) ?_ ?_
  · intro i hi s hs hn
    refine Ev.step (fun k => by simp only [laws_toIntS.l0]; rfl) ?_
    simp only [if_pos (show (i : Int) < (xs.length : Int) by omega), if_pos (show 0 ≤ (i : Int) by omega), if_pos (show (i : Int) < (s.length : Int) by omega)]
    rw [wrap_succ hi (by omega), rd_nat hi, Int.toNat_natCast]
    exact hn
  · refine Ev.step (fun k => by simp only [laws_toIntS.l0]; rfl) ?_
    simp only [if_neg (show ¬ (xs.length : Int) < (xs.length : Int) by omega)]
    exact ev_val (by simp)

theorem eq_spec_l01In (a b c : Int) : spec_l01In.f a b c = some (decide (b ≤ a ∧ a ≤ c)) := by
  unfold spec_l01In.f
  by_cases h : b ≤ a
  · rw [if_pos h]; simp [h]
  · rw [if_neg h]; simp [h]

theorem ev_spec_BaysOk (xs : List Int) (hl : xs.length ≤ 1048576) (b : Bool) (hb : b = true ↔ BaysP xs) : Ev (fun k => spec_BaysOk.f k xs) b := by
  unfold spec_BaysOk.f
  refine ev_all xs (fun x => 1 ≤ x ∧ x ≤ 1000) (fun k i => spec_BaysOk.l0 k xs (i : Int)) _ hb ?_ ?_ ?_
  · intro i hi hp hn
    refine Ev.step (fun k => by simp only [spec_BaysOk.l0]; rfl) ?_
    simp only [if_pos (show (i : Int) < (xs.length : Int) by omega), if_pos (show 0 ≤ (i : Int) by omega), eq_spec_l01In, rd_nat hi, decide_eq_true hp, Option.bind_some, if_true]
    rw [wrap_succ hi (by omega)]
    exact hn
  · intro i hi hp
    refine Ev.step (fun k => by simp only [spec_BaysOk.l0]; rfl) ?_
    simp only [if_pos (show (i : Int) < (xs.length : Int) by omega), if_pos (show 0 ≤ (i : Int) by omega), eq_spec_l01In, rd_nat hi, decide_eq_false hp, Option.bind_some]
    exact ev_val rfl
  · intro _ hq
    refine Ev.step (fun k => by simp only [spec_BaysOk.l0]; rfl) ?_
    simp only [if_neg (show ¬ (xs.length : Int) < (xs.length : Int) by omega), eq_spec_l01In, Option.bind_some]
    exact ev_val (Bool.eq_iff_iff.2 (by rw [hq, decide_eq_true_iff]))

theorem eq_impl_between (a b c : Int) : impl_between.f a b c = some (decide (b ≤ a ∧ a ≤ c)) := by
  unfold impl_between.f
  by_cases h : a ≥ b
  · rw [if_pos h]; simp [show b ≤ a from h]
  · rw [if_neg h]; simp [show ¬ b ≤ a from h]

theorem ev_impl_BaysOk (xs : List Int) (hl : xs.length ≤ 1048576) (b : Bool) (hb : b = true ↔ BaysP xs) : Ev (fun k => impl_BaysOk.f k xs) b := by
  unfold impl_BaysOk.f
  simp only [eq_impl_between, Option.bind_some]
  by_cases h1 : 1 ≤ (xs.length : Int) ∧ (xs.length : Int) ≤ 12
  · simp only [decide_eq_true h1, if_true]
    refine ev_all xs (fun x => 1 ≤ x ∧ x ≤ 1000) (fun k i => impl_BaysOk.l0 k xs (xs.length : Int) (i : Int)) _ hb ?_ ?_ ?_
    · intro i hi hp hn
      refine Ev.step (fun k => by simp only [impl_BaysOk.l0]; rfl) ?_
      simp only [if_pos (show (i : Int) < (xs.length : Int) by omega), if_pos (show 0 ≤ (i : Int) by omega), eq_impl_between, rd_nat hi, decide_eq_true hp, Option.bind_some, if_true]
      rw [wrap_succ hi (by omega)]
      exact hn
    · intro i hi hp
      refine Ev.step (fun k => by simp only [impl_BaysOk.l0]; rfl) ?_
      simp only [if_pos (show (i : Int) < (xs.length : Int) by omega), if_pos (show 0 ≤ (i : Int) by omega), eq_impl_between, rd_nat hi, decide_eq_false hp, Option.bind_some]
      exact ev_val rfl
    · intro _ hq
      refine Ev.step (fun k => by simp only [impl_BaysOk.l0]; rfl) ?_
      simp only [if_neg (show ¬ (xs.length : Int) < (xs.length : Int) by omega)]
      exact ev_val (hq.2 h1).symm
  · simp only [decide_eq_false h1]
    exact ev_val (bool_not hb fun e => h1 e.2).symm

theorem ev_laws_eqIntS (xs ys : List Int) (hl : xs.length ≤ 4611686018427387904) (b : Bool) (hb : b = true ↔ xs = ys) : Ev (fun k => laws_eqIntS.f k xs ys) b := by
  unfold laws_eqIntS.f
  by_cases he : xs.length = ys.length
  · simp only [if_pos (show (xs.length : Int) = (ys.length : Int) by omega)]
    refine ev_same xs ys he (fun k i => laws_eqIntS.l0 k xs ys (i : Int)) hb ?_ ?_ ?_
    · intro i hi hi' e hn
      refine Ev.step (fun k => by simp only [laws_eqIntS.l0]; rfl) ?_
      simp only [if_pos (show (i : Int) < (xs.length : Int) by omega), if_pos (show 0 ≤ (i : Int) by omega), if_pos (show (i : Int) < (ys.length : Int) by omega)]
      rw [wrap_succ hi (by omega), rd_nat hi, rd_nat hi']
      simp only [if_pos e]
      exact hn
    · intro i hi hi' e
      refine Ev.step (fun k => by simp only [laws_eqIntS.l0]; rfl) ?_
      simp only [if_pos (show (i : Int) < (xs.length : Int) by omega), if_pos (show 0 ≤ (i : Int) by omega), if_pos (show (i : Int) < (ys.length : Int) by omega)]
      rw [rd_nat hi, rd_nat hi']
      simp only [if_neg e]
      exact ev_val rfl
    · refine Ev.step (fun k => by simp only [laws_eqIntS.l0]; rfl) ?_
      simp only [if_neg (show ¬ (xs.length : Int) < (xs.length : Int) by omega)]
      exact ev_val rfl
  · simp only [if_neg (show ¬ (xs.length : Int) = (ys.length : Int) by omega)]
    exact ev_val (bool_not hb fun e => he (by rw [e])).symm

theorem FnExactBaysOk : RFnExactBaysOk.Pure := by
  classical
  intro xs _
  refine Ev.rounds ?_
  unfold laws_FnExactBaysOk.f
  by_cases hbig : (xs.length : Int) > 1048576
  · simp only [if_pos hbig]
    exact ev_val rfl
  simp only [if_neg hbig]
  have hl : xs.length ≤ 1048576 := by omega
  have hb : decide (BaysP xs) = true ↔ BaysP xs := decide_eq_true_iff
  refine Ev.bind (ev_laws_toIntS xs hl) ?_
  refine Ev.bind (ev_spec_BaysOk xs hl _ hb) ?_
  refine Ev.bind (ev_laws_toIntS xs hl) ?_
  refine Ev.bind (ev_impl_BaysOk xs hl _ hb) ?_
  simp only [bne_self_eq_false]
  refine Ev.bind (ev_laws_toIntS xs hl) ?_
  refine Ev.bind (ev_laws_eqIntS xs xs (by omega) true (by simp)) ?_
  exact ev_val rfl

end Go.Proofs.Ytddipeelmandjaa.Pure
