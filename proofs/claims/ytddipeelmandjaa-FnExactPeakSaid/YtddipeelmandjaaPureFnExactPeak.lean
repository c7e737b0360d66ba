/- The pure statement of the law FnExactPeak: what the program's functions and the reference's compute is told in plain words, and the two agree. -/
import Derived.Test.YtddipeelmandjaaSFnExactPeak
import Derived.Test.YtddipeelmandjaaPlFnExactPeak
namespace Go.Proofs.Ytddipeelmandjaa.Pure
open Go.RowKit Go.Proofs.Ytddipeelmandjaa.PFnExactPeak Go.Proofs.Ytddipeelmandjaa.RFnExactPeak Go.Proofs.YtddipeelmandjaaW.PrintWords Go.Proofs.YtddipeelmandjaaW.PrintLast Go.Proofs.YtddipeelmandjaaW.PrintMore Go.Proofs.Ytddipeelmandjaa.Pl
set_option linter.unusedSimpArgs false
set_option linter.unusedVariables false
theorem eq_laws_szStayS (xs : List S53) (left : Int) (hl : xs.length ≤ maxLen) (h0 : 0 ≤ left) (h1 : left ≤ 1048576) : laws_szStayS.f xs left = some (if left < xs.length then -1 else left - xs.length) := by
  unfold laws_szStayS.f
  have hm : maxLen = 9223372036854775807 := rfl
  rw [wrap_id (by omega) (by omega)]
  by_cases h : left < xs.length
  · rw [if_pos h, if_pos (by omega)]
  · rw [if_neg h, if_neg (by omega)]

def cvStay (x : S53) : S50 := ⟨x.f0, x.f1, x.f2⟩
theorem extStay (a b : S50) (h : a.f0 = b.f0 ∧ a.f1 = b.f1 ∧ a.f2 = b.f2) : a = b := by
  cases a; cases b
  simp only at h
  simp [h]
theorem eq_laws_toStay (a0 a1 a2 : Int) : laws_toStay.f a0 a1 a2 = some (a0, a1, a2) := rfl
theorem ev_laws_toStayS (xs : List S53) (hl : xs.length ≤ 1048576) : Ev (fun k => laws_toStayS.f k xs) (xs.map cvStay) := by
  unfold laws_toStayS.f
  simp only [if_pos (show 0 ≤ (xs.length : Int) by omega), Int.toNat_natCast, if_pos (show xs.length ≤ 11728124029610 by omega)]
  refine ev_fill xs cvStay z50 (fun k s i => laws_toStayS.l0 k xs s (i : Int)) ?_ ?_
  · intro i hi s hs hn
    refine Ev.step (fun k => by simp only [laws_toStayS.l0]; rfl) ?_
    have e : rd_T53 xs (i : Int) = xs[i] := getD_nat _ hi
    simp only [if_pos (show (i : Int) < (xs.length : Int) by omega), if_pos (show 0 ≤ (i : Int) by omega), if_pos (show (i : Int) < (s.length : Int) by omega), eq_laws_toStay, Option.bind_some, e]
    rw [wrap_succ hi (by omega), Int.toNat_natCast]
    exact hn
  · refine Ev.step (fun k => by simp only [laws_toStayS.l0]; rfl) ?_
    simp only [if_neg (show ¬ (xs.length : Int) < (xs.length : Int) by omega)]
    exact ev_val rfl

def StayP (s : S50) : Prop := 0 ≤ s.f0 ∧ s.f0 ≤ s.f1 ∧ s.f1 ≤ 100000 ∧ 1 ≤ s.f2 ∧ s.f2 ≤ 1000
def StaysP (xs : List S50) : Prop := (∀ x ∈ xs, StayP x) ∧ (xs.length : Int) ≤ 60

def HoldsP (s : S50) (gap m : Int) : Prop := s.f0 ≤ m ∧ m ≤ s.f1 + gap - 1
instance (s : S50) (gap m : Int) : Decidable (HoldsP s gap m) := by unfold HoldsP; exact inferInstance
/-- How many stays hold their bays in a minute. -/
def countHold (xs : List S50) (gap m : Int) : Nat := xs.countP fun s => decide (HoldsP s gap m)
/-- The most stays that hold at once where one begins. -/
def peakOf (xs : List S50) (gap : Int) : Nat := xs.foldl (fun a s => max a (countHold xs gap s.f0)) 0
theorem countHold_le (xs : List S50) (gap m : Int) : countHold xs gap m ≤ xs.length := List.countP_le_length

theorem eq_spec_l01In (a b c : Int) : spec_l01In.f a b c = some (decide (b ≤ a ∧ a ≤ c)) := by
  unfold spec_l01In.f
  by_cases h : b ≤ a
  · rw [if_pos h]; simp [h]
  · rw [if_neg h]; simp [h]

theorem eq_spec_l10Holds (s : S50) (gap m : Int) (hs : StayP s) (hg : 1 ≤ gap ∧ gap ≤ 60) : spec_l10Holds.f s.f0 s.f1 s.f2 gap m = some (decide (HoldsP s gap m)) := by
  unfold spec_l10Holds.f
  unfold StayP at hs
  have e : wrap64 (wrap64 (s.f1 + gap) - 1) = s.f1 + gap - 1 := by unfold wrap64; omega
  rw [e, eq_spec_l01In]
  exact congrArg some (decide_eq_decide.2 (by unfold HoldsP; exact Iff.rfl))

theorem ev_spec_StaysOk (xs : List S50) (hl : xs.length ≤ 1048576) (b : Bool) (hb : b = true ↔ StaysP xs) : Ev (fun k => spec_StaysOk.f k xs) b := by
  unfold spec_StaysOk.f
  have e : ∀ (i : Nat) (hi : i < xs.length), rd_T50 xs (i : Int) = xs[i] := fun i hi => getD_nat _ hi
  refine ev_all xs StayP (fun k i => spec_StaysOk.l0 k xs (i : Int)) _ hb ?_ ?_ ?_
  · intro i hi hp hn
    refine Ev.step (fun k => by simp only [spec_StaysOk.l0]; rfl) ?_
    unfold StayP at hp
    simp only [if_pos (show (i : Int) < (xs.length : Int) by omega), if_pos (show 0 ≤ (i : Int) by omega), eq_spec_l01In, e i hi, Option.bind_some]
    simp only [decide_eq_true (show 0 ≤ xs[i].f1 ∧ xs[i].f1 ≤ 100000 by omega), decide_eq_true (show 0 ≤ xs[i].f0 ∧ xs[i].f0 ≤ xs[i].f1 by omega), decide_eq_true (show 1 ≤ xs[i].f2 ∧ xs[i].f2 ≤ 1000 by omega), if_true]
    rw [wrap_succ hi (by omega)]
    exact hn
  · intro i hi hp
    refine Ev.step (fun k => by simp only [spec_StaysOk.l0]; rfl) ?_
    unfold StayP at hp
    simp only [if_pos (show (i : Int) < (xs.length : Int) by omega), if_pos (show 0 ≤ (i : Int) by omega), eq_spec_l01In, e i hi, Option.bind_some, decide_eq_true_eq]
    by_cases h1 : 0 ≤ xs[i].f1 ∧ xs[i].f1 ≤ 100000
    · simp only [if_pos h1]
      by_cases h2 : 0 ≤ xs[i].f0 ∧ xs[i].f0 ≤ xs[i].f1
      · simp only [if_pos h2, if_neg (show ¬ (1 ≤ xs[i].f2 ∧ xs[i].f2 ≤ 1000) by omega)]
        exact ev_val rfl
      · simp only [if_neg h2]
        exact ev_val rfl
    · simp only [if_neg h1]
      exact ev_val rfl
  · intro _ hq
    refine Ev.step (fun k => by simp only [spec_StaysOk.l0]; rfl) ?_
    simp only [if_neg (show ¬ (xs.length : Int) < (xs.length : Int) by omega)]
    exact ev_val (Bool.eq_iff_iff.2 (by rw [hq, decide_eq_true_iff]))

theorem eq_spec_l10Gap (a : Int) : spec_l10Gap.f a = some (decide (1 ≤ a ∧ a ≤ 60)) := by
  unfold spec_l10Gap.f
  rw [eq_spec_l01In]
  rfl

theorem take_succ_countP {α : Type} (p : α → Bool) (xs : List α) (i : Nat) (hi : i < xs.length) : (xs.take (i + 1)).countP p = (xs.take i).countP p + (if p xs[i] then 1 else 0) := by
  rw [List.take_succ_eq_append_getElem hi, List.countP_append]
  simp [List.countP_cons]
theorem take_succ_foldl {α β : Type} (f : β → α → β) (b : β) (xs : List α) (i : Nat) (hi : i < xs.length) : (xs.take (i + 1)).foldl f b = f ((xs.take i).foldl f b) xs[i] := by
  rw [List.take_succ_eq_append_getElem hi, List.foldl_append]
  rfl
theorem foldl_max_le {α : Type} (g : α → Nat) (xs : List α) (b n : Nat) (hb : b ≤ n) (hg : ∀ x ∈ xs, g x ≤ n) : xs.foldl (fun a s => max a (g s)) b ≤ n := by
  induction xs generalizing b with
  | nil => exact hb
  | cons x xs ih =>
    simp only [List.foldl_cons]
    exact ih _ (Nat.max_le.2 ⟨hb, hg x (by simp)⟩) (fun y hy => hg y (by simp [hy]))
theorem ev_spec_Peak_l1 (xs : List S50) (gap : Int) (most : Int) (i : Nat) (hl : xs.length ≤ 1048576) (hs : StaysP xs) (hg : 1 ≤ gap ∧ gap ≤ 60) (hi : i < xs.length) {r : Int}
    (h : Ev (fun k => spec_Peak.l0 k xs gap (if ((countHold xs gap xs[i].f0 : Nat) : Int) > most then ((countHold xs gap xs[i].f0 : Nat) : Int) else most) (wrap64 ((i : Int) + 1))) r) :
    Ev (fun k => spec_Peak.l1 k xs gap most (i : Int) 0 0) r := by
  have e : ∀ (i : Nat) (hi : i < xs.length), rd_T50 xs (i : Int) = xs[i] := fun i hi => getD_nat _ hi
  refine ev_fold (fun k j => spec_Peak.l1 k xs gap most (i : Int) ((((xs.take j).countP fun s => decide (HoldsP s gap xs[i].f0)) : Nat) : Int) (j : Int)) xs.length ?_ ?_
  · intro j hj hn
    refine Ev.step (fun k => by simp only [spec_Peak.l1]; rfl) ?_
    simp only [if_pos (show (j : Int) < (xs.length : Int) by omega), if_pos (show 0 ≤ (j : Int) by omega), if_pos (show 0 ≤ (i : Int) by omega), if_pos (show (i : Int) < (xs.length : Int) by omega), e i hi, e j hj]
    rw [eq_spec_l10Holds _ _ _ (hs.1 _ (List.getElem_mem hj)) hg]
    simp only [Option.bind_some]
    have hc : (xs.take j).countP (fun s => decide (HoldsP s gap xs[i].f0)) ≤ j := Nat.le_trans List.countP_le_length (List.length_take_le _ _)
    rw [take_succ_countP _ xs j hj] at hn
    by_cases hh : HoldsP xs[j] gap xs[i].f0
    · simp only [decide_eq_true hh, if_true] at hn ⊢
      rw [wrap_succ hj (by omega), wrap_succ (n := j + 1) (by omega) (by omega)]
      exact hn
    · simp only [decide_eq_false hh, Bool.false_eq_true, if_false, Nat.add_zero] at hn ⊢
      rw [wrap_succ hj (by omega)]
      exact hn
  · refine Ev.step (fun k => by simp only [spec_Peak.l1]; rfl) ?_
    simp only [if_neg (show ¬ (xs.length : Int) < (xs.length : Int) by omega), List.take_length]
    unfold countHold at h
    by_cases hm : ((xs.countP (fun s => decide (HoldsP s gap xs[i].f0)) : Nat) : Int) > most
    · simp only [if_pos hm] at h ⊢
      exact h
    · simp only [if_neg hm] at h ⊢
      exact h
theorem ev_spec_Peak (xs : List S50) (gap : Int) (hl : xs.length ≤ 1048576) (hs : StaysP xs) (hg : 1 ≤ gap ∧ gap ≤ 60) : Ev (fun k => spec_Peak.f k xs gap) (peakOf xs gap : Int) := by
  unfold spec_Peak.f
  refine Ev.bind (ev_spec_StaysOk xs hl true (by simp [hs])) ?_
  simp only [if_true, eq_spec_l10Gap, decide_eq_true hg, Option.bind_some, Bool.not_true]
  refine Ev.step (fun k => by simp only [spec_Peak.j0]; rfl) ?_
  simp only [Bool.false_eq_true, if_false]
  refine ev_fold (fun k i => spec_Peak.l0 k xs gap (((xs.take i).foldl (fun a s => max a (countHold xs gap s.f0)) 0 : Nat) : Int) (i : Int)) xs.length ?_ ?_
  · intro i hi hn
    refine Ev.step (fun k => by simp only [spec_Peak.l0]; rfl) ?_
    simp only [if_pos (show (i : Int) < (xs.length : Int) by omega)]
    refine ev_spec_Peak_l1 xs gap _ i hl hs hg hi ?_
    rw [wrap_succ hi (by omega)]
    rw [take_succ_foldl _ _ xs i hi] at hn
    have e : (if ((countHold xs gap xs[i].f0 : Nat) : Int) > (((xs.take i).foldl (fun a s => max a (countHold xs gap s.f0)) 0 : Nat) : Int) then ((countHold xs gap xs[i].f0 : Nat) : Int) else (((xs.take i).foldl (fun a s => max a (countHold xs gap s.f0)) 0 : Nat) : Int)) = ((max ((xs.take i).foldl (fun a s => max a (countHold xs gap s.f0)) 0) (countHold xs gap xs[i].f0) : Nat) : Int) := by
      split <;> omega
    rw [e]
    exact hn
  · refine Ev.step (fun k => by simp only [spec_Peak.l0]; rfl) ?_
    simp only [if_neg (show ¬ (xs.length : Int) < (xs.length : Int) by omega)]
    exact ev_val (by simp [peakOf])
theorem ev_spec_Peak_no (xs : List S50) (gap : Int) (hl : xs.length ≤ 1048576) (h : ¬ (StaysP xs ∧ 1 ≤ gap ∧ gap ≤ 60)) : Ev (fun k => spec_Peak.f k xs gap) 0 := by
  classical
  unfold spec_Peak.f
  refine Ev.bind (ev_spec_StaysOk xs hl (decide (StaysP xs)) decide_eq_true_iff) ?_
  by_cases hs : StaysP xs
  · have hg : ¬ (1 ≤ gap ∧ gap ≤ 60) := fun g => h ⟨hs, g⟩
    simp only [decide_eq_true hs, if_true, eq_spec_l10Gap, decide_eq_false hg, Option.bind_some]
    exact Ev.step (fun k => by simp only [spec_Peak.j0]; rfl) (ev_val rfl)
  · simp only [decide_eq_false hs]
    exact Ev.step (fun k => by simp only [spec_Peak.j0]; rfl) (ev_val rfl)

theorem eq_impl_Stay_holds (s : S50) (m gap : Int) (hs : StayP s) (hg : 1 ≤ gap ∧ gap ≤ 60) : impl_Stay_holds.f s.f0 s.f1 s.f2 m gap = some (decide (HoldsP s gap m)) := by
  unfold impl_Stay_holds.f
  unfold StayP at hs
  have e : wrap64 (wrap64 (s.f1 + gap) - 1) = s.f1 + gap - 1 := by unfold wrap64; omega
  rw [e]
  split <;> (refine congrArg some (Bool.eq_iff_iff.2 ?_); simp only [decide_eq_true_eq, Bool.false_eq_true, false_iff] at *; (try simp only [HoldsP] at *); omega)

theorem eq_impl_between (a b c : Int) : impl_between.f a b c = some (decide (b ≤ a ∧ a ≤ c)) := by
  unfold impl_between.f
  by_cases h : a ≥ b
  · rw [if_pos h]; simp [show b ≤ a from h]
  · rw [if_neg h]; simp [show ¬ b ≤ a from h]

theorem eq_impl_isMinute (a : Int) : impl_isMinute.f a = some (decide (0 ≤ a ∧ a ≤ 100000)) := by
  unfold impl_isMinute.f
  rw [eq_impl_between]
  rfl

theorem ev_impl_StaysOk (xs : List S50) (hl : xs.length ≤ 1048576) (b : Bool) (hb : b = true ↔ StaysP xs) : Ev (fun k => impl_StaysOk.f k xs) b := by
  unfold impl_StaysOk.f
  have e : ∀ (i : Nat) (hi : i < xs.length), rd_T50 xs (i : Int) = xs[i] := fun i hi => getD_nat _ hi
  by_cases h60 : (xs.length : Int) > 60
  · simp only [if_pos h60]
    exact ev_val (bool_not hb fun h => by have := h.2; omega).symm
  simp only [if_neg h60]
  refine ev_all xs StayP (fun k i => impl_StaysOk.l0 k xs (xs.length : Int) (i : Int)) _ hb ?_ ?_ ?_
  · intro i hi hp hn
    refine Ev.step (fun k => by simp only [impl_StaysOk.l0]; rfl) ?_
    unfold StayP at hp
    simp only [if_pos (show (i : Int) < (xs.length : Int) by omega), if_pos (show 0 ≤ (i : Int) by omega), eq_impl_between, eq_impl_isMinute, e i hi, Option.bind_some]
    simp only [decide_eq_true (show 0 ≤ xs[i].f0 ∧ xs[i].f0 ≤ 100000 by omega), decide_eq_true (show 0 ≤ xs[i].f1 ∧ xs[i].f1 ≤ 100000 by omega), decide_eq_true (show 1 ≤ xs[i].f2 ∧ xs[i].f2 ≤ 1000 by omega), if_true, if_neg (show ¬ xs[i].f0 > xs[i].f1 by omega)]
    rw [wrap_succ hi (by omega)]
    exact hn
  · intro i hi hp
    refine Ev.step (fun k => by simp only [impl_StaysOk.l0]; rfl) ?_
    unfold StayP at hp
    simp only [if_pos (show (i : Int) < (xs.length : Int) by omega), if_pos (show 0 ≤ (i : Int) by omega), eq_impl_between, eq_impl_isMinute, e i hi, Option.bind_some, decide_eq_true_eq]
    by_cases h1 : 0 ≤ xs[i].f0 ∧ xs[i].f0 ≤ 100000
    · simp only [if_pos h1]
      by_cases h2 : 0 ≤ xs[i].f1 ∧ xs[i].f1 ≤ 100000
      · simp only [if_pos h2]
        by_cases h3 : xs[i].f0 > xs[i].f1
        · simp only [if_pos h3]
          exact ev_val rfl
        · simp only [if_neg h3, if_neg (show ¬ (1 ≤ xs[i].f2 ∧ xs[i].f2 ≤ 1000) by omega)]
          exact ev_val rfl
      · simp only [if_neg h2]
        exact ev_val rfl
    · simp only [if_neg h1]
      exact ev_val rfl
  · intro _ hq
    refine Ev.step (fun k => by simp only [impl_StaysOk.l0]; rfl) ?_
    simp only [if_neg (show ¬ (xs.length : Int) < (xs.length : Int) by omega)]
    exact ev_val (hq.2 (by omega)).symm

theorem eq_impl_gapOk (a : Int) : impl_gapOk.f a = some (decide (1 ≤ a ∧ a ≤ 60)) := by
  unfold impl_gapOk.f
  rw [eq_impl_between]
  rfl

theorem ev_impl_Peak_l1 (xs : List S50) (gap : Int) (most : Int) (i : Nat) (hl : xs.length ≤ 1048576) (hs : StaysP xs) (hg : 1 ≤ gap ∧ gap ≤ 60) (hi : i < xs.length) {r : Int}
    (h : Ev (fun k => impl_Peak.l0 k xs gap (mx most ((countHold xs gap xs[i].f0 : Nat) : Int)) xs (xs.length : Int) (wrap64 ((i : Int) + 1))) r) :
    Ev (fun k => impl_Peak.l1 k xs gap most 0 xs (xs.length : Int) (i : Int) xs (xs.length : Int) 0 xs[i].f0 xs[i].f1 xs[i].f2) r := by
  have e : ∀ (i : Nat) (hi : i < xs.length), rd_T50 xs (i : Int) = xs[i] := fun i hi => getD_nat _ hi
  refine ev_fold (fun k j => impl_Peak.l1 k xs gap most ((((xs.take j).countP fun s => decide (HoldsP s gap xs[i].f0)) : Nat) : Int) xs (xs.length : Int) (i : Int) xs (xs.length : Int) (j : Int) xs[i].f0 xs[i].f1 xs[i].f2) xs.length ?_ ?_
  · intro j hj hn
    refine Ev.step (fun k => by simp only [impl_Peak.l1]; rfl) ?_
    simp only [if_pos (show (j : Int) < (xs.length : Int) by omega), if_pos (show 0 ≤ (j : Int) by omega), e j hj]
    rw [eq_impl_Stay_holds _ _ _ (hs.1 _ (List.getElem_mem hj)) hg]
    simp only [Option.bind_some]
    have hc : (xs.take j).countP (fun s => decide (HoldsP s gap xs[i].f0)) ≤ j := Nat.le_trans List.countP_le_length (List.length_take_le _ _)
    rw [take_succ_countP _ xs j hj] at hn
    by_cases hh : HoldsP xs[j] gap xs[i].f0
    · simp only [decide_eq_true hh, if_true] at hn ⊢
      rw [wrap_succ hj (by omega), wrap_succ (n := j + 1) (by omega) (by omega)]
      exact hn
    · simp only [decide_eq_false hh, Bool.false_eq_true, if_false, Nat.add_zero] at hn ⊢
      rw [wrap_succ hj (by omega)]
      exact hn
  · refine Ev.step (fun k => by simp only [impl_Peak.l1]; rfl) ?_
    simp only [if_neg (show ¬ (xs.length : Int) < (xs.length : Int) by omega), List.take_length]
    exact h
theorem mx_max (a b : Nat) : mx (a : Int) (b : Int) = ((max a b : Nat) : Int) := by
  unfold mx
  split <;> omega
theorem ev_impl_Peak (xs : List S50) (gap : Int) (hl : xs.length ≤ 1048576) (hs : StaysP xs) (hg : 1 ≤ gap ∧ gap ≤ 60) : Ev (fun k => impl_Peak.f k xs gap) (peakOf xs gap : Int) := by
  have e : ∀ (i : Nat) (hi : i < xs.length), rd_T50 xs (i : Int) = xs[i] := fun i hi => getD_nat _ hi
  unfold impl_Peak.f
  refine Ev.bind (ev_impl_StaysOk xs hl true (by simp [hs])) ?_
  simp only [if_true, eq_impl_gapOk, decide_eq_true hg, Option.bind_some, Bool.not_true]
  refine Ev.step (fun k => by simp only [impl_Peak.j0]; rfl) ?_
  simp only [Bool.false_eq_true, if_false]
  refine ev_fold (fun k i => impl_Peak.l0 k xs gap (((xs.take i).foldl (fun a s => max a (countHold xs gap s.f0)) 0 : Nat) : Int) xs (xs.length : Int) (i : Int)) xs.length ?_ ?_
  · intro i hi hn
    refine Ev.step (fun k => by simp only [impl_Peak.l0]; rfl) ?_
    simp only [if_pos (show (i : Int) < (xs.length : Int) by omega), if_pos (show 0 ≤ (i : Int) by omega), e i hi]
    refine ev_impl_Peak_l1 xs gap _ i hl hs hg hi ?_
    rw [wrap_succ hi (by omega), mx_max]
    rw [take_succ_foldl _ _ xs i hi] at hn
    exact hn
  · refine Ev.step (fun k => by simp only [impl_Peak.l0]; rfl) ?_
    simp only [if_neg (show ¬ (xs.length : Int) < (xs.length : Int) by omega)]
    exact ev_val (by simp [peakOf])
theorem ev_impl_Peak_no (xs : List S50) (gap : Int) (hl : xs.length ≤ 1048576) (h : ¬ (StaysP xs ∧ 1 ≤ gap ∧ gap ≤ 60)) : Ev (fun k => impl_Peak.f k xs gap) 0 := by
  classical
  unfold impl_Peak.f
  refine Ev.bind (ev_impl_StaysOk xs hl (decide (StaysP xs)) decide_eq_true_iff) ?_
  by_cases hs : StaysP xs
  · have hg : ¬ (1 ≤ gap ∧ gap ≤ 60) := fun g => h ⟨hs, g⟩
    simp only [decide_eq_true hs, if_true, eq_impl_gapOk, decide_eq_false hg, Option.bind_some]
    exact Ev.step (fun k => by simp only [impl_Peak.j0]; rfl) (ev_val rfl)
  · simp only [decide_eq_false hs]
    exact Ev.step (fun k => by simp only [impl_Peak.j0]; rfl) (ev_val rfl)

theorem eq_laws_eqStay (a0 a1 a2 b0 b1 b2 : Int) : laws_eqStay.f a0 a1 a2 b0 b1 b2 = some (decide (a0 = b0 ∧ a1 = b1 ∧ a2 = b2)) := by
  unfold laws_eqStay.f
  (repeat' split) <;> simp_all
theorem ev_laws_eqStayS (xs ys : List S50) (hl : xs.length ≤ 4611686018427387904) (b : Bool) (hb : b = true ↔ xs = ys) : Ev (fun k => laws_eqStayS.f k xs ys) b := by
  unfold laws_eqStayS.f
  by_cases he : xs.length = ys.length
  · simp only [if_pos (show (xs.length : Int) = (ys.length : Int) by omega)]
    have e : ∀ (zs : List S50) (i : Nat) (hi : i < zs.length), rd_T50 zs (i : Int) = zs[i] := fun zs i hi => getD_nat _ hi
    refine ev_same xs ys he (fun k i => laws_eqStayS.l0 k xs ys (i : Int)) hb ?_ ?_ ?_
    · intro i hi hi' e1 hn
      refine Ev.step (fun k => by simp only [laws_eqStayS.l0]; rfl) ?_
      simp only [if_pos (show (i : Int) < (xs.length : Int) by omega), if_pos (show 0 ≤ (i : Int) by omega), if_pos (show (i : Int) < (ys.length : Int) by omega), eq_laws_eqStay, e _ _ hi, e _ _ hi', e1, Option.bind_some, and_self, decide_true, if_true]
      rw [wrap_succ hi (by omega)]
      exact hn
    · intro i hi hi' e1
      refine Ev.step (fun k => by simp only [laws_eqStayS.l0]; rfl) ?_
      have e2 : ¬ (xs[i].f0 = ys[i].f0 ∧ xs[i].f1 = ys[i].f1 ∧ xs[i].f2 = ys[i].f2) := fun h => e1 (extStay _ _ h)
      simp only [if_pos (show (i : Int) < (xs.length : Int) by omega), if_pos (show 0 ≤ (i : Int) by omega), if_pos (show (i : Int) < (ys.length : Int) by omega), eq_laws_eqStay, e _ _ hi, e _ _ hi', decide_eq_false e2, Option.bind_some]
      exact ev_val rfl
    · refine Ev.step (fun k => by simp only [laws_eqStayS.l0]; rfl) ?_
      simp only [if_neg (show ¬ (xs.length : Int) < (xs.length : Int) by omega)]
      exact ev_val rfl
  · simp only [if_neg (show ¬ (xs.length : Int) = (ys.length : Int) by omega)]
    exact ev_val (bool_not hb fun e => he (by rw [e])).symm

theorem FnExactPeak : RFnExactPeak.Pure := by
  classical
  intro xs gap ⟨hm, _⟩ _
  refine Ev.rounds ?_
  unfold laws_FnExactPeak.f
  rw [eq_laws_szStayS xs _ hm (by omega) (by omega)]
  simp only [Option.bind_some]
  by_cases hbig : (1048576 : Int) < xs.length
  · simp only [if_pos hbig, if_pos (show (-1 : Int) < 0 by omega)]
    exact ev_val rfl
  simp only [if_neg hbig, if_neg (show ¬ (1048576 - (xs.length : Int) < 0) by omega)]
  have hl : xs.length ≤ 1048576 := by omega
  have hl' : (xs.map cvStay).length ≤ 1048576 := by simpa using hl
  have key : ∃ r, Ev (fun k => spec_Peak.f k (xs.map cvStay) gap) r ∧ Ev (fun k => impl_Peak.f k (xs.map cvStay) gap) r := by
    by_cases h : StaysP (xs.map cvStay) ∧ 1 ≤ gap ∧ gap ≤ 60
    · exact ⟨_, ev_spec_Peak _ _ hl' h.1 h.2, ev_impl_Peak _ _ hl' h.1 h.2⟩
    · exact ⟨_, ev_spec_Peak_no _ _ hl' h, ev_impl_Peak_no _ _ hl' h⟩
  obtain ⟨r, h1, h2⟩ := key
  refine Ev.bind (ev_laws_toStayS xs hl) ?_
  refine Ev.bind h1 ?_
  refine Ev.bind (ev_laws_toStayS xs hl) ?_
  refine Ev.bind h2 ?_
  simp only [if_true]
  refine Ev.bind (ev_laws_toStayS xs hl) ?_
  refine Ev.bind (ev_laws_eqStayS _ _ (by omega) true (by simp)) ?_
  exact ev_val rfl

end Go.Proofs.Ytddipeelmandjaa.Pure
