/- The pure statement of the law FnExactStaysOk: what the program's functions and the reference's compute is told in plain words, and the two agree. -/
import Derived.Test.YtddipeelmandjaaSFnExactStaysOk
import Derived.Test.YtddipeelmandjaaPl
namespace Go.Proofs.Ytddipeelmandjaa.Pure
open Go.RowKit Go.Proofs.Ytddipeelmandjaa.PFnExactStaysOk Go.Proofs.Ytddipeelmandjaa.RFnExactStaysOk Go.Proofs.YtddipeelmandjaaW.PrintWords Go.Proofs.YtddipeelmandjaaW.PrintLast Go.Proofs.YtddipeelmandjaaW.PrintMore Go.Proofs.Ytddipeelmandjaa.Pl
set_option linter.unusedSimpArgs false
set_option linter.unusedVariables false
theorem eq_laws_szStayS (xs : List S53) (left : Int) (hl : xs.length ≤ maxLen) (h0 : 0 ≤ left) (h1 : left ≤ 1048576) : laws_szStayS.f xs left = some (if left < xs.length then -1 else left - xs.length) := by
  unfold laws_szStayS.f
  have hm : maxLen = 9223372036854775807 := rfl
  rw [wrap_id (by omega) (by omega)]
  by_cases h : left < xs.length
  · rw [if_pos h, if_pos (by omega)]
  · rw [if_neg h, if_neg (by omega)]

def cvStay (x : S53) : S50 := ⟨x.f0, x.f1, x.f2⟩
theorem extStay (a b : S50) (h : a.f0 = b.f0 ∧ a.f1 = b.f1 ∧ a.f2 = b.f2) : a = b := by
  cases a; cases b
  simp only at h
  simp [h]
theorem eq_laws_toStay (a0 a1 a2 : Int) : laws_toStay.f a0 a1 a2 = some (a0, a1, a2) := rfl
theorem ev_laws_toStayS (xs : List S53) (hl : xs.length ≤ 1048576) : Ev (fun k => laws_toStayS.f k xs) (xs.map cvStay) := by
  unfold laws_toStayS.f
  simp only [if_pos (show 0 ≤ (xs.length : Int) by omega), Int.toNat_natCast, if_pos (show xs.length ≤ 11728124029610 by omega)]
  refine ev_fill xs cvStay z50 (fun k s i => laws_toStayS.l0 k xs s (i : Int)) ?_ ?_
  · intro i hi s hs hn
    refine Ev.step (fun k => by simp only [laws_toStayS.l0]; rfl) ?_
    have e : rd_T53 xs (i : Int) = xs[i] := getD_nat _ hi
    simp only [if_pos (show (i : Int) < (xs.length : Int) by omega), if_pos (show 0 ≤ (i : Int) by omega), if_pos (show (i : Int) < (s.length : Int) by omega), eq_laws_toStay, Option.bind_some, e]
    rw [wrap_succ hi (by omega), Int.toNat_natCast]
    exact hn
  · refine Ev.step (fun k => by simp only [laws_toStayS.l0]; rfl) ?_
    simp only [if_neg (show ¬ (xs.length : Int) < (xs.length : Int) by omega)]
    exact ev_val rfl

def StayP (s : S50) : Prop := 0 ≤ s.f0 ∧ s.f0 ≤ s.f1 ∧ s.f1 ≤ 100000 ∧ 1 ≤ s.f2 ∧ s.f2 ≤ 1000
def StaysP (xs : List S50) : Prop := (∀ x ∈ xs, StayP x) ∧ (xs.length : Int) ≤ 60

theorem eq_spec_l01In (a b c : Int) : spec_l01In.f a b c = some (decide (b ≤ a ∧ a ≤ c)) := by
  unfold spec_l01In.f
  by_cases h : b ≤ a
  · rw [if_pos h]; simp [h]
  · rw [if_neg h]; simp [h]

theorem ev_spec_StaysOk (xs : List S50) (hl : xs.length ≤ 1048576) (b : Bool) (hb : b = true ↔ StaysP xs) : Ev (fun k => spec_StaysOk.f k xs) b := by
  unfold spec_StaysOk.f
  have e : ∀ (i : Nat) (hi : i < xs.length), rd_T50 xs (i : Int) = xs[i] := fun i hi => getD_nat _ hi
  refine ev_all xs StayP (fun k i => spec_StaysOk.l0 k xs (i : Int)) _ hb ?_ ?_ ?_
  · intro i hi hp hn
    refine Ev.step (fun k => by simp only [spec_StaysOk.l0]; rfl) ?_
    unfold StayP at hp
    simp only [if_pos (show (i : Int) < (xs.length : Int) by omega), if_pos (show 0 ≤ (i : Int) by omega), eq_spec_l01In, e i hi, Option.bind_some]
    simp only [decide_eq_true (show 0 ≤ xs[i].f1 ∧ xs[i].f1 ≤ 100000 by omega), decide_eq_true (show 0 ≤ xs[i].f0 ∧ xs[i].f0 ≤ xs[i].f1 by omega), decide_eq_true (show 1 ≤ xs[i].f2 ∧ xs[i].f2 ≤ 1000 by omega), if_true]
    rw [wrap_succ hi (by omega)]
    exact hn
  · intro i hi hp
    refine Ev.step (fun k => by simp only [spec_StaysOk.l0]; rfl) ?_
    unfold StayP at hp
    simp only [if_pos (show (i : Int) < (xs.length : Int) by omega), if_pos (show 0 ≤ (i : Int) by omega), eq_spec_l01In, e i hi, Option.bind_some, decide_eq_true_eq]
    by_cases h1 : 0 ≤ xs[i].f1 ∧ xs[i].f1 ≤ 100000
    · simp only [if_pos h1]
      by_cases h2 : 0 ≤ xs[i].f0 ∧ xs[i].f0 ≤ xs[i].f1
      · simp only [if_pos h2, if_neg (show ¬ (1 ≤ xs[i].f2 ∧ xs[i].f2 ≤ 1000) by omega)]
        exact ev_val rfl
      · simp only [if_neg h2]
        exact ev_val rfl
    · simp only [if_neg h1]
      exact ev_val rfl
  · intro _ hq
    refine Ev.step (fun k => by simp only [spec_StaysOk.l0]; rfl) ?_
    simp only [if_neg (show ¬ (xs.length : Int) < (xs.length : Int) by omega)]
    exact ev_val (Bool.eq_iff_iff.2 (by rw [hq, decide_eq_true_iff]))

theorem eq_impl_between (a b c : Int) : impl_between.f a b c = some (decide (b ≤ a ∧ a ≤ c)) := by
  unfold impl_between.f
  by_cases h : a ≥ b
  · rw [if_pos h]; simp [show b ≤ a from h]
  · rw [if_neg h]; simp [show ¬ b ≤ a from h]

theorem eq_impl_isMinute (a : Int) : impl_isMinute.f a = some (decide (0 ≤ a ∧ a ≤ 100000)) := by
  unfold impl_isMinute.f
  rw [eq_impl_between]
  rfl

theorem ev_impl_StaysOk (xs : List S50) (hl : xs.length ≤ 1048576) (b : Bool) (hb : b = true ↔ StaysP xs) : Ev (fun k => impl_StaysOk.f k xs) b := by
  unfold impl_StaysOk.f
  have e : ∀ (i : Nat) (hi : i < xs.length), rd_T50 xs (i : Int) = xs[i] := fun i hi => getD_nat _ hi
  by_cases h60 : (xs.length : Int) > 60
  · simp only [if_pos h60]
    exact ev_val (bool_not hb fun h => by have := h.2; omega).symm
  simp only [if_neg h60]
  refine ev_all xs StayP (fun k i => impl_StaysOk.l0 k xs (xs.length : Int) (i : Int)) _ hb ?_ ?_ ?_
  · intro i hi hp hn
    refine Ev.step (fun k => by simp only [impl_StaysOk.l0]; rfl) ?_
    unfold StayP at hp
    simp only [if_pos (show (i : Int) < (xs.length : Int) by omega), if_pos (show 0 ≤ (i : Int) by omega), eq_impl_between, eq_impl_isMinute, e i hi, Option.bind_some]
    simp only [decide_eq_true (show 0 ≤ xs[i].f0 ∧ xs[i].f0 ≤ 100000 by omega), decide_eq_true (show 0 ≤ xs[i].f1 ∧ xs[i].f1 ≤ 100000 by omega), decide_eq_true (show 1 ≤ xs[i].f2 ∧ xs[i].f2 ≤ 1000 by omega), if_true, if_neg (show ¬ xs[i].f0 > xs[i].f1 by omega)]
    rw [wrap_succ hi (by omega)]
    exact hn
  · intro i hi hp
    refine Ev.step (fun k => by simp only [impl_StaysOk.l0]; rfl) ?_
    unfold StayP at hp
    simp only [if_pos (show (i : Int) < (xs.length : Int) by omega), if_pos (show 0 ≤ (i : Int) by omega), eq_impl_between, eq_impl_isMinute, e i hi, Option.bind_some, decide_eq_true_eq]
    by_cases h1 : 0 ≤ xs[i].f0 ∧ xs[i].f0 ≤ 100000
    · simp only [if_pos h1]
      by_cases h2 : 0 ≤ xs[i].f1 ∧ xs[i].f1 ≤ 100000
      · simp only [if_pos h2]
        by_cases h3 : xs[i].f0 > xs[i].f1
        · simp only [if_pos h3]
          exact ev_val rfl
        · simp only [if_neg h3, if_neg (show ¬ (1 ≤ xs[i].f2 ∧ xs[i].f2 ≤ 1000) by omega)]
          exact ev_val rfl
      · simp only [if_neg h2]
        exact ev_val rfl
    · simp only [if_neg h1]
      exact ev_val rfl
  · intro _ hq
    refine Ev.step (fun k => by simp only [impl_StaysOk.l0]; rfl) ?_
    simp only [if_neg (show ¬ (xs.length : Int) < (xs.length : Int) by omega)]
    exact ev_val (hq.2 (by omega)).symm

theorem eq_laws_eqStay (a0 a1 a2 b0 b1 b2 : Int) : laws_eqStay.f a0 a1 a2 b0 b1 b2 = some (decide (a0 = b0 ∧ a1 = b1 ∧ a2 = b2)) := by
  unfold laws_eqStay.f
  (repeat' split) <;> simp_all
theorem ev_laws_eqStayS (xs ys : List S50) (hl : xs.length ≤ 4611686018427387904) (b : Bool) (hb : b = true ↔ xs = ys) : Ev (fun k => laws_eqStayS.f k xs ys) b := by
  unfold laws_eqStayS.f
  by_cases he : xs.length = ys.length
  · simp only [if_pos (show (xs.length : Int) = (ys.length : Int) by omega)]
    have e : ∀ (zs : List S50) (i : Nat) (hi : i < zs.length), rd_T50 zs (i : Int) = zs[i] := fun zs i hi => getD_nat _ hi
    refine ev_same xs ys he (fun k i => laws_eqStayS.l0 k xs ys (i : Int)) hb ?_ ?_ ?_
    · intro i hi hi' e1 hn
      refine Ev.step (fun k => by simp only [laws_eqStayS.l0]; rfl) ?_
      simp only [if_pos (show (i : Int) < (xs.length : Int) by omega), if_pos (show 0 ≤ (i : Int) by omega), if_pos (show (i : Int) < (ys.length : Int) by omega), eq_laws_eqStay, e _ _ hi, e _ _ hi', e1, Option.bind_some, and_self, decide_true, if_true]
      rw [wrap_succ hi (by omega)]
      exact hn
    · intro i hi hi' e1
      refine Ev.step (fun k => by simp only [laws_eqStayS.l0]; rfl) ?_
      have e2 : ¬ (xs[i].f0 = ys[i].f0 ∧ xs[i].f1 = ys[i].f1 ∧ xs[i].f2 = ys[i].f2) := fun h => e1 (extStay _ _ h)
      simp only [if_pos (show (i : Int) < (xs.length : Int) by omega), if_pos (show 0 ≤ (i : Int) by omega), if_pos (show (i : Int) < (ys.length : Int) by omega), eq_laws_eqStay, e _ _ hi, e _ _ hi', decide_eq_false e2, Option.bind_some]
      exact ev_val rfl
    · refine Ev.step (fun k => by simp only [laws_eqStayS.l0]; rfl) ?_
      simp only [if_neg (show ¬ (xs.length : Int) < (xs.length : Int) by omega)]
      exact ev_val rfl
  · simp only [if_neg (show ¬ (xs.length : Int) = (ys.length : Int) by omega)]
    exact ev_val (bool_not hb fun e => he (by rw [e])).symm

theorem FnExactStaysOk : RFnExactStaysOk.Pure := by
  classical
  intro xs ⟨hm, _⟩
  refine Ev.rounds ?_
  unfold laws_FnExactStaysOk.f
  rw [eq_laws_szStayS xs _ hm (by omega) (by omega)]
  simp only [Option.bind_some]
  by_cases hbig : (1048576 : Int) < xs.length
  · simp only [if_pos hbig, if_pos (show (-1 : Int) < 0 by omega)]
    exact ev_val rfl
  simp only [if_neg hbig, if_neg (show ¬ (1048576 - (xs.length : Int) < 0) by omega)]
  have hl : xs.length ≤ 1048576 := by omega
  have hl' : (xs.map cvStay).length ≤ 1048576 := by simpa using hl
  have hb : decide (StaysP (xs.map cvStay)) = true ↔ StaysP (xs.map cvStay) := decide_eq_true_iff
  refine Ev.bind (ev_laws_toStayS xs hl) ?_
  refine Ev.bind (ev_spec_StaysOk _ hl' _ hb) ?_
  refine Ev.bind (ev_laws_toStayS xs hl) ?_
  refine Ev.bind (ev_impl_StaysOk _ hl' _ hb) ?_
  simp only [bne_self_eq_false]
  refine Ev.bind (ev_laws_toStayS xs hl) ?_
  refine Ev.bind (ev_laws_eqStayS _ _ (by omega) true (by simp)) ?_
  exact ev_val rfl

end Go.Proofs.Ytddipeelmandjaa.Pure
