/- The pure statement of the law FnExactFreeBays: what the program's functions and the reference's compute is told in plain words, and the two agree. -/
import Derived.Test.YtddipeelmandjaaSFnExactFreeBays
import Derived.Test.YtddipeelmandjaaPlFnExactFreeBays
namespace Go.Proofs.Ytddipeelmandjaa.Pure
open Go.RowKit Go.Proofs.Ytddipeelmandjaa.PFnExactFreeBays Go.Proofs.Ytddipeelmandjaa.RFnExactFreeBays Go.Proofs.YtddipeelmandjaaW.PrintWords Go.Proofs.YtddipeelmandjaaW.PrintLast Go.Proofs.YtddipeelmandjaaW.PrintMore Go.Proofs.Ytddipeelmandjaa.Pl
set_option linter.unusedSimpArgs false
set_option linter.unusedVariables false
theorem Ev.ite {R : Type} {c : Prop} [Decidable c] {f g : Nat → Option R} {r : R} (h1 : c → Ev f r) (h2 : ¬ c → Ev g r) : Ev (fun k => if c then f k else g k) r := by
  by_cases h : c
  · simp only [if_pos h]; exact h1 h
  · simp only [if_neg h]; exact h2 h
theorem wrap_pred {i : Nat} (h : 0 < i) (hn : i ≤ 9223372036854775807) : wrap64 ((i : Int) - 1) = ((i - 1 : Nat) : Int) := by unfold wrap64; omega
/-- All places are right, or one is not. -/
theorem ev_allI (n : Nat) (P : Nat → Prop) (G : Nat → Nat → Option Bool) {b : Bool} (Q : Prop) (hb : b = true ↔ (∀ i, i < n → P i) ∧ Q)
    (hstep : ∀ i, i < n → P i → Ev (fun k => G k (i + 1)) b → Ev (fun k => G k i) b)
    (hbad : ∀ i, i < n → ¬ P i → Ev (fun k => G k i) false)
    (hend : (∀ i, i < n → P i) → (b = true ↔ Q) → Ev (fun k => G k n) b) : Ev (fun k => G k 0) b := by
  classical
  refine ev_run G (fun i => decide (¬ P i)) n ?_ ?_ ?_
  · intro i hi hc hn
    exact hstep i hi (Classical.not_not.1 (of_decide_eq_false hc)) hn
  · intro i hi hc _
    have hne := of_decide_eq_true hc
    exact Ev.cast (hbad i hi hne) (bool_not hb fun e => hne (e.1 i hi)).symm
  · intro hc
    have hp : ∀ i, i < n → P i := fun i hi => Classical.not_not.1 (of_decide_eq_false (hc i hi))
    exact hend hp ⟨fun h => (hb.1 h).2, fun h => hb.2 ⟨hp, h⟩⟩

theorem eq_laws_szStayS (xs : List S53) (left : Int) (hl : xs.length ≤ maxLen) (h0 : 0 ≤ left) (h1 : left ≤ 1048576) : laws_szStayS.f xs left = some (if left < xs.length then -1 else left - xs.length) := by
  unfold laws_szStayS.f
  have hm : maxLen = 9223372036854775807 := rfl
  rw [wrap_id (by omega) (by omega)]
  by_cases h : left < xs.length
  · rw [if_pos h, if_pos (by omega)]
  · rw [if_neg h, if_neg (by omega)]

def cvStay (x : S53) : S50 := ⟨x.f0, x.f1, x.f2⟩
theorem extStay (a b : S50) (h : a.f0 = b.f0 ∧ a.f1 = b.f1 ∧ a.f2 = b.f2) : a = b := by
  cases a; cases b
  simp only at h
  simp [h]
theorem eq_laws_toStay (a0 a1 a2 : Int) : laws_toStay.f a0 a1 a2 = some (a0, a1, a2) := rfl
theorem ev_laws_toStayS (xs : List S53) (hl : xs.length ≤ 1048576) : Ev (fun k => laws_toStayS.f k xs) (xs.map cvStay) := by
  unfold laws_toStayS.f
  simp only [if_pos (show 0 ≤ (xs.length : Int) by omega), Int.toNat_natCast, if_pos (show xs.length ≤ 11728124029610 by omega)]
  refine ev_fill xs cvStay z50 (fun k s i => laws_toStayS.l0 k xs s (i : Int)) ?_ ?_
  · intro i hi s hs hn
    refine Ev.step (fun k => by simp only [laws_toStayS.l0]; rfl) ?_
    have e : rd_T53 xs (i : Int) = xs[i] := getD_nat _ hi
    simp only [if_pos (show (i : Int) < (xs.length : Int) by omega), if_pos (show 0 ≤ (i : Int) by omega), if_pos (show (i : Int) < (s.length : Int) by omega), eq_laws_toStay, Option.bind_some, e]
    rw [wrap_succ hi (by omega), Int.toNat_natCast]
    exact hn
  · refine Ev.step (fun k => by simp only [laws_toStayS.l0]; rfl) ?_
    simp only [if_neg (show ¬ (xs.length : Int) < (xs.length : Int) by omega)]
    exact ev_val rfl

def HoldsP (s : S50) (gap m : Int) : Prop := s.f0 ≤ m ∧ m ≤ s.f1 + gap - 1
instance (s : S50) (gap m : Int) : Decidable (HoldsP s gap m) := by unfold HoldsP; exact inferInstance
/-- How many stays hold their bays in a minute. -/
def countHold (xs : List S50) (gap m : Int) : Nat := xs.countP fun s => decide (HoldsP s gap m)
/-- The most stays that hold at once where one begins. -/
def peakOf (xs : List S50) (gap : Int) : Nat := xs.foldl (fun a s => max a (countHold xs gap s.f0)) 0
theorem countHold_le (xs : List S50) (gap m : Int) : countHold xs gap m ≤ xs.length := List.countP_le_length

def StayP (s : S50) : Prop := 0 ≤ s.f0 ∧ s.f0 ≤ s.f1 ∧ s.f1 ≤ 100000 ∧ 1 ≤ s.f2 ∧ s.f2 ≤ 1000
def StaysP (xs : List S50) : Prop := (∀ x ∈ xs, StayP x) ∧ (xs.length : Int) ≤ 60

def BaysP (xs : List Int) : Prop := (∀ x ∈ xs, 1 ≤ x ∧ x ≤ 1000) ∧ (1 ≤ (xs.length : Int) ∧ (xs.length : Int) ≤ 12)

def MeetP (a b : S50) (gap : Int) : Prop := HoldsP a gap b.f0 ∨ HoldsP b gap a.f0
theorem MeetP.symm {a b : S50} {gap : Int} (h : MeetP a b gap) : MeetP b a gap := Or.symm h
def st (stays : List S50) (i : Nat) : S50 := rd_T50 stays (i : Int)
theorem st_ok {stays : List S50} (h : StaysP stays) (i : Nat) (hi : i < stays.length) : StayP (st stays i) := by
  have e : st stays i = stays[i] := getD_nat _ hi
  rw [e]
  exact h.1 _ (List.getElem_mem hi)
/-- What is given to a stay is right, held against those of the places for which W holds. -/
def RowP (bays : List Int) (stays : List S50) (gap : Int) (list : List Int) (W : Nat → Nat → Prop) (i : Nat) : Prop :=
  rd list (i : Int) = -1 ∨ (0 ≤ rd list (i : Int) ∧ rd list (i : Int) ≤ (bays.length : Int) - 1 ∧ ¬ rd bays (rd list (i : Int)) < (st stays i).f2 ∧ ∀ k, k < list.length → W k i → rd list (k : Int) = rd list (i : Int) → ¬ MeetP (st stays i) (st stays k) gap)
theorem rows_same (bays : List Int) (stays : List S50) (gap : Int) (list : List Int) : (∀ i, i < list.length → RowP bays stays gap list (fun k i => k ≠ i) i) ↔ ∀ i, i < list.length → RowP bays stays gap list (fun k i => k < i) i := by
  refine ⟨fun h i hi => ?_, fun h i hi => ?_⟩
  · exact (h i hi).imp id fun g => ⟨g.1, g.2.1, g.2.2.1, fun k hk hki => g.2.2.2 k hk (by omega)⟩
  · refine (h i hi).imp id fun g => ⟨g.1, g.2.1, g.2.2.1, fun k hk hki he hm => ?_⟩
    rcases Nat.lt_or_ge k i with hl | hg
    · exact g.2.2.2 k hk hl he hm
    · rcases h k hk with h1 | h1
      · omega
      · exact h1.2.2.2 i hi (by omega) he.symm hm.symm
def AssignP (bays : List Int) (stays : List S50) (gap : Int) (list : List Int) : Prop :=
  (BaysP bays ∧ StaysP stays ∧ (1 ≤ gap ∧ gap ≤ 60) ∧ list.length = stays.length) ∧ ∀ i, i < list.length → RowP bays stays gap list (fun k i => k ≠ i) i

/-- No stay holds the bay in the minute, of the first n. -/
def FreeP (stays : List S50) (gap : Int) (list : List Int) (minute : Int) (bay n : Nat) : Prop := ∀ i, i < n → ¬ (rd list (i : Int) = (bay : Int) ∧ HoldsP (st stays i) gap minute)
open Classical in
/-- The free ones of the first n bays. -/
noncomputable def freeTo (stays : List S50) (gap : Int) (list : List Int) (minute : Int) : Nat → List Int
  | 0 => []
  | b + 1 => if FreeP stays gap list minute b list.length then freeTo stays gap list minute b ++ [(b : Int)] else freeTo stays gap list minute b
theorem freeTo_succ (stays : List S50) (gap : Int) (list : List Int) (minute : Int) (b : Nat) [Decidable (FreeP stays gap list minute b list.length)] : freeTo stays gap list minute (b + 1) = if FreeP stays gap list minute b list.length then freeTo stays gap list minute b ++ [(b : Int)] else freeTo stays gap list minute b := by
  by_cases h : FreeP stays gap list minute b list.length
  · rw [if_pos h]; exact if_pos h
  · rw [if_neg h]; exact if_neg h
theorem freeTo_len (stays : List S50) (gap : Int) (list : List Int) (minute : Int) : ∀ b, (freeTo stays gap list minute b).length ≤ b
  | 0 => Nat.le_refl _
  | b + 1 => by
    classical
    have := freeTo_len stays gap list minute b
    rw [freeTo_succ]
    split
    · rw [List.length_append]; simp; omega
    · omega
theorem FreeP_succ (stays : List S50) (gap : Int) (list : List Int) (minute : Int) (bay n : Nat) : FreeP stays gap list minute bay (n + 1) ↔ FreeP stays gap list minute bay n ∧ ¬ (rd list (n : Int) = (bay : Int) ∧ HoldsP (st stays n) gap minute) := by
  refine ⟨fun h => ⟨fun i hi => h i (by omega), h n (by omega)⟩, fun h i hi => ?_⟩
  rcases Nat.lt_or_ge i n with hl | hg
  · exact h.1 i hl
  · obtain rfl : i = n := by omega
    exact h.2
noncomputable def freeOf (bays : List Int) (stays : List S50) (gap : Int) (list : List Int) (minute : Int) : List Int :=
  open Classical in if AssignP bays stays gap list then freeTo stays gap list minute bays.length else []
theorem freeOf_len (bays : List Int) (stays : List S50) (gap : Int) (list : List Int) (minute : Int) : (freeOf bays stays gap list minute).length ≤ bays.length := by
  unfold freeOf
  split
  · exact freeTo_len _ _ _ _ _
  · simp

theorem eq_spec_l01In (a b c : Int) : spec_l01In.f a b c = some (decide (b ≤ a ∧ a ≤ c)) := by
  unfold spec_l01In.f
  by_cases h : b ≤ a
  · rw [if_pos h]; simp [h]
  · rw [if_neg h]; simp [h]

theorem eq_spec_l10Holds (s : S50) (gap m : Int) (hs : StayP s) (hg : 1 ≤ gap ∧ gap ≤ 60) : spec_l10Holds.f s.f0 s.f1 s.f2 gap m = some (decide (HoldsP s gap m)) := by
  unfold spec_l10Holds.f
  unfold StayP at hs
  have e : wrap64 (wrap64 (s.f1 + gap) - 1) = s.f1 + gap - 1 := by unfold wrap64; omega
  rw [e, eq_spec_l01In]
  exact congrArg some (decide_eq_decide.2 (by unfold HoldsP; exact Iff.rfl))

theorem ev_spec_BaysOk (xs : List Int) (hl : xs.length ≤ 1048576) (b : Bool) (hb : b = true ↔ BaysP xs) : Ev (fun k => spec_BaysOk.f k xs) b := by
  unfold spec_BaysOk.f
  refine ev_all xs (fun x => 1 ≤ x ∧ x ≤ 1000) (fun k i => spec_BaysOk.l0 k xs (i : Int)) _ hb ?_ ?_ ?_
  · intro i hi hp hn
    refine Ev.step (fun k => by simp only [spec_BaysOk.l0]; rfl) ?_
    simp only [if_pos (show (i : Int) < (xs.length : Int) by omega), if_pos (show 0 ≤ (i : Int) by omega), eq_spec_l01In, rd_nat hi, decide_eq_true hp, Option.bind_some, if_true]
    rw [wrap_succ hi (by omega)]
    exact hn
  · intro i hi hp
    refine Ev.step (fun k => by simp only [spec_BaysOk.l0]; rfl) ?_
    simp only [if_pos (show (i : Int) < (xs.length : Int) by omega), if_pos (show 0 ≤ (i : Int) by omega), eq_spec_l01In, rd_nat hi, decide_eq_false hp, Option.bind_some]
    exact ev_val rfl
  · intro _ hq
    refine Ev.step (fun k => by simp only [spec_BaysOk.l0]; rfl) ?_
    simp only [if_neg (show ¬ (xs.length : Int) < (xs.length : Int) by omega), eq_spec_l01In, Option.bind_some]
    exact ev_val (Bool.eq_iff_iff.2 (by rw [hq, decide_eq_true_iff]))

theorem ev_spec_StaysOk (xs : List S50) (hl : xs.length ≤ 1048576) (b : Bool) (hb : b = true ↔ StaysP xs) : Ev (fun k => spec_StaysOk.f k xs) b := by
  unfold spec_StaysOk.f
  have e : ∀ (i : Nat) (hi : i < xs.length), rd_T50 xs (i : Int) = xs[i] := fun i hi => getD_nat _ hi
  refine ev_all xs StayP (fun k i => spec_StaysOk.l0 k xs (i : Int)) _ hb ?_ ?_ ?_
  · intro i hi hp hn
    refine Ev.step (fun k => by simp only [spec_StaysOk.l0]; rfl) ?_
    unfold StayP at hp
    simp only [if_pos (show (i : Int) < (xs.length : Int) by omega), if_pos (show 0 ≤ (i : Int) by omega), eq_spec_l01In, e i hi, Option.bind_some]
    simp only [decide_eq_true (show 0 ≤ xs[i].f1 ∧ xs[i].f1 ≤ 100000 by omega), decide_eq_true (show 0 ≤ xs[i].f0 ∧ xs[i].f0 ≤ xs[i].f1 by omega), decide_eq_true (show 1 ≤ xs[i].f2 ∧ xs[i].f2 ≤ 1000 by omega), if_true]
    rw [wrap_succ hi (by omega)]
    exact hn
  · intro i hi hp
    refine Ev.step (fun k => by simp only [spec_StaysOk.l0]; rfl) ?_
    unfold StayP at hp
    simp only [if_pos (show (i : Int) < (xs.length : Int) by omega), if_pos (show 0 ≤ (i : Int) by omega), eq_spec_l01In, e i hi, Option.bind_some, decide_eq_true_eq]
    by_cases h1 : 0 ≤ xs[i].f1 ∧ xs[i].f1 ≤ 100000
    · simp only [if_pos h1]
      by_cases h2 : 0 ≤ xs[i].f0 ∧ xs[i].f0 ≤ xs[i].f1
      · simp only [if_pos h2, if_neg (show ¬ (1 ≤ xs[i].f2 ∧ xs[i].f2 ≤ 1000) by omega)]
        exact ev_val rfl
      · simp only [if_neg h2]
        exact ev_val rfl
    · simp only [if_neg h1]
      exact ev_val rfl
  · intro _ hq
    refine Ev.step (fun k => by simp only [spec_StaysOk.l0]; rfl) ?_
    simp only [if_neg (show ¬ (xs.length : Int) < (xs.length : Int) by omega)]
    exact ev_val (Bool.eq_iff_iff.2 (by rw [hq, decide_eq_true_iff]))

theorem eq_spec_l10Gap (a : Int) : spec_l10Gap.f a = some (decide (1 ≤ a ∧ a ≤ 60)) := by
  unfold spec_l10Gap.f
  rw [eq_spec_l01In]
  rfl

theorem eq_spec_l10Meet (a b : S50) (gap : Int) (ha : StayP a) (hb : StayP b) (hg : 1 ≤ gap ∧ gap ≤ 60) [Decidable (MeetP a b gap)] : spec_l10Meet.f a.f0 a.f1 a.f2 b.f0 b.f1 b.f2 gap = some (decide (MeetP a b gap)) := by
  unfold spec_l10Meet.f
  rw [eq_spec_l10Holds a _ _ ha hg, eq_spec_l10Holds b _ _ hb hg]
  simp only [Option.bind_some]
  by_cases h1 : HoldsP a gap b.f0
  · simp only [decide_eq_true h1, if_true]
    rw [decide_eq_true (show MeetP a b gap from .inl h1)]
  · simp only [decide_eq_false h1, Bool.false_eq_true, if_false]
    exact congrArg some (decide_eq_decide.2 ⟨fun h => .inr h, fun h => h.resolve_left h1⟩)
theorem ev_spec_AssignOk (bays : List Int) (stays : List S50) (gap : Int) (list : List Int) (h1 : bays.length ≤ 1048576) (h2 : stays.length ≤ 1048576) (b : Bool) (hb : b = true ↔ AssignP bays stays gap list) : Ev (fun k => spec_AssignOk.f k bays stays gap list) b := by
  classical
  unfold spec_AssignOk.f
  have bad : ¬ (BaysP bays ∧ StaysP stays ∧ (1 ≤ gap ∧ gap ≤ 60) ∧ list.length = stays.length) → Ev (fun k => spec_AssignOk.j0 k bays stays gap list true) b := fun h =>
    Ev.step (fun k => by simp only [spec_AssignOk.j0]; rfl) (ev_val (bool_not hb (fun g => h g.1)).symm)
  refine Ev.bind (ev_spec_BaysOk bays h1 (decide (BaysP bays)) decide_eq_true_iff) ?_
  refine Ev.ite (fun g1 => ?_) (fun g => bad (fun h => g (decide_eq_true h.1)))
  refine Ev.bind (ev_spec_StaysOk stays h2 (decide (StaysP stays)) decide_eq_true_iff) ?_
  refine Ev.ite (fun g2 => ?_) (fun g => bad (fun h => g (decide_eq_true h.2.1)))
  simp only [eq_spec_l10Gap, Option.bind_some]
  refine Ev.ite (fun g3 => ?_) (fun g => bad (fun h => g (decide_eq_true h.2.2.1)))
  have hB := of_decide_eq_true g1
  have hS := of_decide_eq_true g2
  have hG := of_decide_eq_true g3
  by_cases hn : list.length = stays.length
  · rw [show ((list.length : Int) != (stays.length : Int)) = false by simp [hn]]
    refine Ev.step (fun k => by simp only [spec_AssignOk.j0]; rfl) ?_
    simp only [Bool.false_eq_true, if_false]
    have hbl := hB.2
    have hsl := hS.2
    have hb' : b = true ↔ (∀ i, i < list.length → RowP bays stays gap list (fun k i => k < i) i) ∧ True := hb.trans ⟨fun h => ⟨(rows_same _ _ _ _).1 h.2, trivial⟩, fun h => ⟨⟨hB, hS, hG, hn⟩, (rows_same _ _ _ _).2 h.1⟩⟩
    refine ev_allI list.length _ (fun k i => spec_AssignOk.l0 k bays stays gap list (i : Int)) _ hb' ?_ ?_ ?_
    · intro i hi hp hnx
      refine Ev.step (fun k => by simp only [spec_AssignOk.l0]; rfl) ?_
      simp only [if_pos (show (i : Int) < (list.length : Int) by omega), if_pos (show 0 ≤ (i : Int) by omega), if_pos (show (i : Int) < (stays.length : Int) by omega)]
      rw [wrap_id (x := (bays.length : Int) - 1) (by omega) (by omega)]
      refine Ev.ite (fun _ => by rw [wrap_succ hi (by omega)]; exact hnx) (fun q0 => ?_)
      have q := hp.resolve_left q0
      simp only [eq_spec_l01In, Option.bind_some, decide_eq_true (show 0 ≤ rd list (i : Int) ∧ rd list (i : Int) ≤ (bays.length : Int) - 1 from ⟨q.1, q.2.1⟩), if_true]
      refine Ev.ite (fun _ => ?_) (fun g => absurd q.1 g)
      refine Ev.ite (fun _ => ?_) (fun g => by exfalso; omega)
      have q2 : decide (rd bays (rd list (i : Int)) < (rd_T50 stays (i : Int)).f2) = false := decide_eq_false q.2.2.1
      rw [q2]
      refine Ev.step (fun k => by simp only [spec_AssignOk.j2]; rfl) ?_
      simp only [Bool.false_eq_true, if_false]
      refine ev_fold (fun k j => spec_AssignOk.l1 k bays stays gap list (i : Int) (j : Int)) i ?_ ?_
      · intro j hj hn1
        refine Ev.step (fun k => by simp only [spec_AssignOk.l1]; rfl) ?_
        simp only [if_pos (show (j : Int) < (i : Int) by omega), if_pos (show 0 ≤ (j : Int) by omega), if_pos (show (j : Int) < (list.length : Int) by omega), if_pos (show 0 ≤ (i : Int) by omega), if_pos (show (i : Int) < (list.length : Int) by omega), if_pos (show (i : Int) < (stays.length : Int) by omega), if_pos (show (j : Int) < (stays.length : Int) by omega)]
        rw [wrap_succ hj (by omega)]
        refine Ev.ite (fun g2 => ?_) (fun _ => hn1)
        have e := eq_spec_l10Meet (st stays i) (st stays j) gap (st_ok hS i (by omega)) (st_ok hS j (by omega)) hG
        rw [decide_eq_false (q.2.2.2 j (by omega) hj g2)] at e
        refine Ev.bind (a := false) (ev_opt e) ?_
        exact hn1
      · refine Ev.step (fun k => by simp only [spec_AssignOk.l1]; rfl) ?_
        simp only [if_neg (show ¬ (i : Int) < (i : Int) by omega)]
        rw [wrap_succ hi (by omega)]
        exact hnx
    · intro i hi hp
      refine Ev.step (fun k => by simp only [spec_AssignOk.l0]; rfl) ?_
      simp only [if_pos (show (i : Int) < (list.length : Int) by omega), if_pos (show 0 ≤ (i : Int) by omega), if_pos (show (i : Int) < (stays.length : Int) by omega)]
      rw [wrap_id (x := (bays.length : Int) - 1) (by omega) (by omega)]
      unfold RowP at hp
      refine Ev.ite (fun g => absurd (.inl g) hp) (fun q0 => ?_)
      simp only [eq_spec_l01In, Option.bind_some]
      refine Ev.ite (fun q1 => ?_) (fun _ => Ev.step (fun k => by simp only [spec_AssignOk.j2]; rfl) (ev_val rfl))
      have q1 := of_decide_eq_true q1
      refine Ev.ite (fun _ => ?_) (fun g => absurd q1.1 g)
      refine Ev.ite (fun _ => ?_) (fun g => by exfalso; omega)
      by_cases q2 : rd bays (rd list (i : Int)) < (rd_T50 stays (i : Int)).f2
      · rw [decide_eq_true q2]
        exact Ev.step (fun k => by simp only [spec_AssignOk.j2]; rfl) (ev_val rfl)
      · rw [decide_eq_false q2]
        refine Ev.step (fun k => by simp only [spec_AssignOk.j2]; rfl) ?_
        simp only [Bool.false_eq_true, if_false]
        refine ev_allI i (fun j => rd list (j : Int) = rd list (i : Int) → ¬ MeetP (st stays i) (st stays j) gap) (fun k j => spec_AssignOk.l1 k bays stays gap list (i : Int) (j : Int)) (b := false) True ⟨fun h => (by cases h), fun h => absurd (.inr ⟨q1.1, q1.2, q2, fun k _ hk => h.1 k hk⟩) hp⟩ ?_ ?_ ?_
        · intro j hj hpj hn1
          refine Ev.step (fun k => by simp only [spec_AssignOk.l1]; rfl) ?_
          simp only [if_pos (show (j : Int) < (i : Int) by omega), if_pos (show 0 ≤ (j : Int) by omega), if_pos (show (j : Int) < (list.length : Int) by omega), if_pos (show 0 ≤ (i : Int) by omega), if_pos (show (i : Int) < (list.length : Int) by omega), if_pos (show (i : Int) < (stays.length : Int) by omega), if_pos (show (j : Int) < (stays.length : Int) by omega)]
          rw [wrap_succ hj (by omega)]
          refine Ev.ite (fun g2 => ?_) (fun _ => hn1)
          have e := eq_spec_l10Meet (st stays i) (st stays j) gap (st_ok hS i (by omega)) (st_ok hS j (by omega)) hG
          rw [decide_eq_false (hpj g2)] at e
          refine Ev.bind (a := false) (ev_opt e) ?_
          exact hn1
        · intro j hj hpj
          refine Ev.step (fun k => by simp only [spec_AssignOk.l1]; rfl) ?_
          simp only [if_pos (show (j : Int) < (i : Int) by omega), if_pos (show 0 ≤ (j : Int) by omega), if_pos (show (j : Int) < (list.length : Int) by omega), if_pos (show 0 ≤ (i : Int) by omega), if_pos (show (i : Int) < (list.length : Int) by omega), if_pos (show (i : Int) < (stays.length : Int) by omega), if_pos (show (j : Int) < (stays.length : Int) by omega)]
          refine Ev.ite (fun g2 => ?_) (fun g2 => absurd (fun h => absurd h g2) hpj)
          have e := eq_spec_l10Meet (st stays i) (st stays j) gap (st_ok hS i (by omega)) (st_ok hS j (by omega)) hG
          rw [decide_eq_true (Classical.not_not.1 fun hm => hpj fun _ => hm)] at e
          exact Ev.bind (a := true) (ev_opt e) (ev_val rfl)
        · intro _ hq
          exact absurd (hq.2 trivial) (by simp)
    · intro _ hq
      refine Ev.step (fun k => by simp only [spec_AssignOk.l0]; rfl) ?_
      simp only [if_neg (show ¬ (list.length : Int) < (list.length : Int) by omega)]
      exact ev_val (hq.2 trivial).symm
  · rw [show ((list.length : Int) != (stays.length : Int)) = true by rw [bne_iff_ne]; omega]
    exact bad (fun h => hn h.2.2.2)

theorem ev_spec_FreeBays (bays : List Int) (stays : List S50) (gap : Int) (list : List Int) (minute : Int) (h1 : bays.length ≤ 1048576) (h2 : stays.length ≤ 1048576) : Ev (fun k => spec_FreeBays.f k bays stays gap list minute) (freeOf bays stays gap list minute) := by
  classical
  unfold spec_FreeBays.f
  refine Ev.bind (ev_spec_AssignOk bays stays gap list h1 h2 (decide (AssignP bays stays gap list)) decide_eq_true_iff) ?_
  refine Ev.ite (fun g => ?_) (fun g => ev_val (by unfold freeOf; rw [if_neg (fun h => g (decide_eq_true h))]))
  have hP := of_decide_eq_true g
  obtain ⟨⟨hB, hS, hG, hn⟩, _⟩ := hP
  have hsl := hS.2
  unfold freeOf
  rw [if_pos (of_decide_eq_true g)]
  refine ev_fold (fun k b => spec_FreeBays.l0 k bays stays gap list minute (freeTo stays gap list minute b) (b : Int)) bays.length ?_ ?_
  · intro b hb hnx
    refine Ev.step (fun k => by simp only [spec_FreeBays.l0]; rfl) ?_
    simp only [if_pos (show (b : Int) < (bays.length : Int) by omega)]
    have hfl := freeTo_len stays gap list minute b
    have k1 := ev_fold (fun k i => spec_FreeBays.l1 k bays stays gap list minute (freeTo stays gap list minute b) (b : Int) (decide (FreeP stays gap list minute b i)) (i : Int)) list.length (r := freeTo stays gap list minute bays.length) ?_ ?_
    · have e : decide (FreeP stays gap list minute b 0) = true := decide_eq_true (fun i hi => absurd hi (Nat.not_lt_zero _))
      rw [e] at k1
      exact k1
    · intro i hi hn1
      refine Ev.step (fun k => by simp only [spec_FreeBays.l1]; rfl) ?_
      simp only [if_pos (show (i : Int) < (list.length : Int) by omega), if_pos (show 0 ≤ (i : Int) by omega), if_pos (show (i : Int) < (stays.length : Int) by omega)]
      rw [wrap_succ hi (by omega)]
      have same : ¬ (rd list (i : Int) = (b : Int) ∧ HoldsP (st stays i) gap minute) → decide (FreeP stays gap list minute b i) = decide (FreeP stays gap list minute b (i + 1)) := fun h =>
        decide_eq_decide.2 ⟨fun q => (FreeP_succ _ _ _ _ _ _).2 ⟨q, h⟩, fun q => ((FreeP_succ _ _ _ _ _ _).1 q).1⟩
      refine Ev.ite (fun g1 => ?_) (fun g1 => ?_)
      · refine Ev.bind (ev_opt (eq_spec_l10Holds (st stays i) gap minute (st_ok hS i (by omega)) hG)) ?_
        refine Ev.ite (fun g2 => ?_) (fun g2 => ?_)
        · have e : false = decide (FreeP stays gap list minute b (i + 1)) := (decide_eq_false (fun h => ((FreeP_succ _ _ _ _ _ _).1 h).2 ⟨g1, of_decide_eq_true g2⟩)).symm
          rw [e]
          exact hn1
        · rw [same (fun q => g2 (decide_eq_true q.2))]
          exact hn1
      · rw [same (fun q => g1 q.1)]
        exact hn1
    · refine Ev.step (fun k => by simp only [spec_FreeBays.l1]; rfl) ?_
      simp only [if_neg (show ¬ (list.length : Int) < (list.length : Int) by omega), if_pos (show (freeTo stays gap list minute b).length < 17592186044416 by omega)]
      rw [freeTo_succ] at hnx
      rw [wrap_succ hb (by omega)]
      refine Ev.ite (fun q => ?_) (fun q => ?_)
      · rw [if_pos (of_decide_eq_true q)] at hnx; exact hnx
      · rw [if_neg (fun h => q (decide_eq_true h))] at hnx; exact hnx
  · refine Ev.step (fun k => by simp only [spec_FreeBays.l0]; rfl) ?_
    simp only [if_neg (show ¬ (bays.length : Int) < (bays.length : Int) by omega)]
    exact ev_val rfl

theorem eq_impl_Stay_holds (s : S50) (m gap : Int) (hs : StayP s) (hg : 1 ≤ gap ∧ gap ≤ 60) : impl_Stay_holds.f s.f0 s.f1 s.f2 m gap = some (decide (HoldsP s gap m)) := by
  unfold impl_Stay_holds.f
  unfold StayP at hs
  have e : wrap64 (wrap64 (s.f1 + gap) - 1) = s.f1 + gap - 1 := by unfold wrap64; omega
  rw [e]
  split <;> (refine congrArg some (Bool.eq_iff_iff.2 ?_); simp only [decide_eq_true_eq, Bool.false_eq_true, false_iff] at *; (try simp only [HoldsP] at *); omega)

theorem eq_impl_between (a b c : Int) : impl_between.f a b c = some (decide (b ≤ a ∧ a ≤ c)) := by
  unfold impl_between.f
  by_cases h : a ≥ b
  · rw [if_pos h]; simp [show b ≤ a from h]
  · rw [if_neg h]; simp [show ¬ b ≤ a from h]

theorem ev_impl_BaysOk (xs : List Int) (hl : xs.length ≤ 1048576) (b : Bool) (hb : b = true ↔ BaysP xs) : Ev (fun k => impl_BaysOk.f k xs) b := by
  unfold impl_BaysOk.f
  simp only [eq_impl_between, Option.bind_some]
  by_cases h1 : 1 ≤ (xs.length : Int) ∧ (xs.length : Int) ≤ 12
  · simp only [decide_eq_true h1, if_true]
    refine ev_all xs (fun x => 1 ≤ x ∧ x ≤ 1000) (fun k i => impl_BaysOk.l0 k xs (xs.length : Int) (i : Int)) _ hb ?_ ?_ ?_
    · intro i hi hp hn
      refine Ev.step (fun k => by simp only [impl_BaysOk.l0]; rfl) ?_
      simp only [if_pos (show (i : Int) < (xs.length : Int) by omega), if_pos (show 0 ≤ (i : Int) by omega), eq_impl_between, rd_nat hi, decide_eq_true hp, Option.bind_some, if_true]
      rw [wrap_succ hi (by omega)]
      exact hn
    · intro i hi hp
      refine Ev.step (fun k => by simp only [impl_BaysOk.l0]; rfl) ?_
      simp only [if_pos (show (i : Int) < (xs.length : Int) by omega), if_pos (show 0 ≤ (i : Int) by omega), eq_impl_between, rd_nat hi, decide_eq_false hp, Option.bind_some]
      exact ev_val rfl
    · intro _ hq
      refine Ev.step (fun k => by simp only [impl_BaysOk.l0]; rfl) ?_
      simp only [if_neg (show ¬ (xs.length : Int) < (xs.length : Int) by omega)]
      exact ev_val (hq.2 h1).symm
  · simp only [decide_eq_false h1]
    exact ev_val (bool_not hb fun e => h1 e.2).symm

theorem eq_impl_isMinute (a : Int) : impl_isMinute.f a = some (decide (0 ≤ a ∧ a ≤ 100000)) := by
  unfold impl_isMinute.f
  rw [eq_impl_between]
  rfl

theorem ev_impl_StaysOk (xs : List S50) (hl : xs.length ≤ 1048576) (b : Bool) (hb : b = true ↔ StaysP xs) : Ev (fun k => impl_StaysOk.f k xs) b := by
  unfold impl_StaysOk.f
  have e : ∀ (i : Nat) (hi : i < xs.length), rd_T50 xs (i : Int) = xs[i] := fun i hi => getD_nat _ hi
  by_cases h60 : (xs.length : Int) > 60
  · simp only [if_pos h60]
    exact ev_val (bool_not hb fun h => by have := h.2; omega).symm
  simp only [if_neg h60]
  refine ev_all xs StayP (fun k i => impl_StaysOk.l0 k xs (xs.length : Int) (i : Int)) _ hb ?_ ?_ ?_
  · intro i hi hp hn
    refine Ev.step (fun k => by simp only [impl_StaysOk.l0]; rfl) ?_
    unfold StayP at hp
    simp only [if_pos (show (i : Int) < (xs.length : Int) by omega), if_pos (show 0 ≤ (i : Int) by omega), eq_impl_between, eq_impl_isMinute, e i hi, Option.bind_some]
    simp only [decide_eq_true (show 0 ≤ xs[i].f0 ∧ xs[i].f0 ≤ 100000 by omega), decide_eq_true (show 0 ≤ xs[i].f1 ∧ xs[i].f1 ≤ 100000 by omega), decide_eq_true (show 1 ≤ xs[i].f2 ∧ xs[i].f2 ≤ 1000 by omega), if_true, if_neg (show ¬ xs[i].f0 > xs[i].f1 by omega)]
    rw [wrap_succ hi (by omega)]
    exact hn
  · intro i hi hp
    refine Ev.step (fun k => by simp only [impl_StaysOk.l0]; rfl) ?_
    unfold StayP at hp
    simp only [if_pos (show (i : Int) < (xs.length : Int) by omega), if_pos (show 0 ≤ (i : Int) by omega), eq_impl_between, eq_impl_isMinute, e i hi, Option.bind_some, decide_eq_true_eq]
    by_cases h1 : 0 ≤ xs[i].f0 ∧ xs[i].f0 ≤ 100000
    · simp only [if_pos h1]
      by_cases h2 : 0 ≤ xs[i].f1 ∧ xs[i].f1 ≤ 100000
      · simp only [if_pos h2]
        by_cases h3 : xs[i].f0 > xs[i].f1
        · simp only [if_pos h3]
          exact ev_val rfl
        · simp only [if_neg h3, if_neg (show ¬ (1 ≤ xs[i].f2 ∧ xs[i].f2 ≤ 1000) by omega)]
          exact ev_val rfl
      · simp only [if_neg h2]
        exact ev_val rfl
    · simp only [if_neg h1]
      exact ev_val rfl
  · intro _ hq
    refine Ev.step (fun k => by simp only [impl_StaysOk.l0]; rfl) ?_
    simp only [if_neg (show ¬ (xs.length : Int) < (xs.length : Int) by omega)]
    exact ev_val (hq.2 (by omega)).symm

theorem eq_impl_gapOk (a : Int) : impl_gapOk.f a = some (decide (1 ≤ a ∧ a ≤ 60)) := by
  unfold impl_gapOk.f
  rw [eq_impl_between]
  rfl

theorem eq_impl_meets (a b : S50) (gap : Int) (ha : StayP a) (hb : StayP b) (hg : 1 ≤ gap ∧ gap ≤ 60) [Decidable (MeetP a b gap)] : impl_Stay_meets.f a.f0 a.f1 a.f2 b.f0 b.f1 b.f2 gap = some (decide (MeetP a b gap)) := by
  unfold impl_Stay_meets.f
  rw [eq_impl_Stay_holds a _ _ ha hg, eq_impl_Stay_holds b _ _ hb hg]
  simp only [Option.bind_some]
  by_cases h1 : HoldsP a gap b.f0
  · simp only [decide_eq_true h1, if_true]
    rw [decide_eq_true (show MeetP a b gap from .inl h1)]
  · simp only [decide_eq_false h1, Bool.false_eq_true, if_false]
    exact congrArg some (decide_eq_decide.2 ⟨fun h => .inr h, fun h => h.resolve_left h1⟩)
theorem ev_impl_room (stays : List S50) (gap : Int) (list : List Int) (bay : Int) (i : Nat) (hs : StaysP stays) (hg : 1 ≤ gap ∧ gap ≤ 60) (hn : list.length = stays.length) (hi : i < list.length) (b : Bool)
    (hb : b = true ↔ ∀ k, k < list.length → k ≠ i → rd list (k : Int) = bay → ¬ MeetP (st stays i) (st stays k) gap) : Ev (fun k => impl_room.f k stays gap list bay (i : Int)) b := by
  classical
  unfold impl_room.f
  have hl := hs.2
  refine ev_allI list.length (fun k => k ≠ i → rd list (k : Int) = bay → ¬ MeetP (st stays i) (st stays k) gap) (fun k j => impl_room.l0 k stays gap bay (i : Int) list (list.length : Int) (j : Int)) True (hb.trans (by simp)) ?_ ?_ ?_
  · intro j hj hp hnx
    refine Ev.step (fun k => by simp only [impl_room.l0]; rfl) ?_
    simp only [if_pos (show (j : Int) < (list.length : Int) by omega), if_pos (show 0 ≤ (j : Int) by omega), if_pos (show 0 ≤ (i : Int) by omega), if_pos (show (i : Int) < (stays.length : Int) by omega), if_pos (show (j : Int) < (stays.length : Int) by omega)]
    rw [wrap_succ hj (by omega)]
    refine Ev.ite (fun _ => hnx) (fun g1 => Ev.ite (fun g2 => ?_) (fun _ => hnx))
    have e := eq_impl_meets (st stays i) (st stays j) gap (st_ok hs i (by omega)) (st_ok hs j (by omega)) hg
    rw [decide_eq_false (hp (fun h => g1 (by rw [h])) g2)] at e
    refine Ev.bind (a := false) (ev_opt e) ?_
    exact hnx
  · intro j hj hp
    refine Ev.step (fun k => by simp only [impl_room.l0]; rfl) ?_
    simp only [if_pos (show (j : Int) < (list.length : Int) by omega), if_pos (show 0 ≤ (j : Int) by omega), if_pos (show 0 ≤ (i : Int) by omega), if_pos (show (i : Int) < (stays.length : Int) by omega), if_pos (show (j : Int) < (stays.length : Int) by omega)]
    refine Ev.ite (fun g1 => absurd (fun h => absurd (by omega) h) hp) (fun g1 => Ev.ite (fun g2 => ?_) (fun g2 => absurd (fun _ h => absurd h g2) hp))
    have e := eq_impl_meets (st stays i) (st stays j) gap (st_ok hs i (by omega)) (st_ok hs j (by omega)) hg
    rw [decide_eq_true (Classical.not_not.1 fun hm => hp fun _ _ => hm)] at e
    exact Ev.bind (a := true) (ev_opt e) (ev_val rfl)
  · intro _ hq
    refine Ev.step (fun k => by simp only [impl_room.l0]; rfl) ?_
    simp only [if_neg (show ¬ (list.length : Int) < (list.length : Int) by omega)]
    exact ev_val (hq.2 trivial).symm
theorem ev_impl_AssignOk (bays : List Int) (stays : List S50) (gap : Int) (list : List Int) (h1 : bays.length ≤ 1048576) (h2 : stays.length ≤ 1048576) (b : Bool) (hb : b = true ↔ AssignP bays stays gap list) : Ev (fun k => impl_AssignOk.f k bays stays gap list) b := by
  classical
  unfold impl_AssignOk.f
  have bad : ¬ (BaysP bays ∧ StaysP stays ∧ (1 ≤ gap ∧ gap ≤ 60) ∧ list.length = stays.length) → Ev (fun k => impl_AssignOk.j0 k bays stays gap list true) b := fun h =>
    Ev.step (fun k => by simp only [impl_AssignOk.j0]; rfl) (ev_val (bool_not hb (fun g => h g.1)).symm)
  refine Ev.bind (ev_impl_BaysOk bays h1 (decide (BaysP bays)) decide_eq_true_iff) ?_
  refine Ev.ite (fun g1 => ?_) (fun g => bad (fun h => g (decide_eq_true h.1)))
  refine Ev.bind (ev_impl_StaysOk stays h2 (decide (StaysP stays)) decide_eq_true_iff) ?_
  refine Ev.ite (fun g2 => ?_) (fun g => bad (fun h => g (decide_eq_true h.2.1)))
  simp only [eq_impl_gapOk, Option.bind_some]
  refine Ev.ite (fun g3 => ?_) (fun g => bad (fun h => g (decide_eq_true h.2.2.1)))
  have hB := of_decide_eq_true g1
  have hS := of_decide_eq_true g2
  have hG := of_decide_eq_true g3
  by_cases hn : list.length = stays.length
  · rw [show ((list.length : Int) != (stays.length : Int)) = false by simp [hn]]
    refine Ev.step (fun k => by simp only [impl_AssignOk.j0]; rfl) ?_
    simp only [Bool.false_eq_true, if_false]
    have hbl := hB.2
    have hsl := hS.2
    have hb' : b = true ↔ (∀ i, i < list.length → RowP bays stays gap list (fun k i => k ≠ i) i) ∧ True := hb.trans ⟨fun h => ⟨h.2, trivial⟩, fun h => ⟨⟨hB, hS, hG, hn⟩, h.1⟩⟩
    refine ev_allI list.length _ (fun k i => impl_AssignOk.l0 k bays stays gap list list (list.length : Int) (i : Int)) _ hb' ?_ ?_ ?_
    · intro i hi hp hnx
      refine Ev.step (fun k => by simp only [impl_AssignOk.l0]; rfl) ?_
      simp only [if_pos (show (i : Int) < (list.length : Int) by omega), if_pos (show 0 ≤ (i : Int) by omega), if_pos (show (i : Int) < (stays.length : Int) by omega)]
      rw [wrap_succ hi (by omega), wrap_id (x := (bays.length : Int) - 1) (by omega) (by omega)]
      refine Ev.ite (fun _ => hnx) (fun q0 => ?_)
      have q := hp.resolve_left q0
      simp only [eq_impl_between, Option.bind_some, decide_eq_true (show 0 ≤ rd list (i : Int) ∧ rd list (i : Int) ≤ (bays.length : Int) - 1 from ⟨q.1, q.2.1⟩), if_true]
      refine Ev.ite (fun _ => ?_) (fun g => absurd q.1 g)
      refine Ev.ite (fun _ => ?_) (fun g => by exfalso; omega)
      refine Ev.ite (fun g => absurd g q.2.2.1) (fun _ => ?_)
      refine Ev.bind (ev_impl_room stays gap list _ i hS hG hn hi true ⟨fun _ => q.2.2.2, fun _ => rfl⟩) ?_
      exact hnx
    · intro i hi hp
      refine Ev.step (fun k => by simp only [impl_AssignOk.l0]; rfl) ?_
      simp only [if_pos (show (i : Int) < (list.length : Int) by omega), if_pos (show 0 ≤ (i : Int) by omega), if_pos (show (i : Int) < (stays.length : Int) by omega)]
      rw [wrap_id (x := (bays.length : Int) - 1) (by omega) (by omega)]
      unfold RowP at hp
      refine Ev.ite (fun g => absurd (.inl g) hp) (fun q0 => ?_)
      simp only [eq_impl_between, Option.bind_some]
      refine Ev.ite (fun q1 => ?_) (fun _ => ev_val rfl)
      have q1 := of_decide_eq_true q1
      refine Ev.ite (fun _ => ?_) (fun g => absurd q1.1 g)
      refine Ev.ite (fun _ => ?_) (fun g => by exfalso; omega)
      refine Ev.ite (fun _ => ev_val rfl) (fun q2 => ?_)
      refine Ev.bind (ev_impl_room stays gap list _ i hS hG hn hi false ⟨fun h => (by cases h), fun h => absurd (.inr ⟨q1.1, q1.2, q2, h⟩) hp⟩) ?_
      exact ev_val rfl
    · intro _ hq
      refine Ev.step (fun k => by simp only [impl_AssignOk.l0]; rfl) ?_
      simp only [if_neg (show ¬ (list.length : Int) < (list.length : Int) by omega)]
      exact ev_val (hq.2 trivial).symm
  · rw [show ((list.length : Int) != (stays.length : Int)) = true by rw [bne_iff_ne]; omega]
    exact bad (fun h => hn h.2.2.2)

theorem ev_impl_FreeBays (bays : List Int) (stays : List S50) (gap : Int) (list : List Int) (minute : Int) (h1 : bays.length ≤ 1048576) (h2 : stays.length ≤ 1048576) : Ev (fun k => impl_FreeBays.f k bays stays gap list minute) (freeOf bays stays gap list minute) := by
  classical
  unfold impl_FreeBays.f
  refine Ev.bind (ev_impl_AssignOk bays stays gap list h1 h2 (decide (AssignP bays stays gap list)) decide_eq_true_iff) ?_
  refine Ev.ite (fun g => ?_) (fun g => ev_val (by unfold freeOf; rw [if_neg (fun h => g (decide_eq_true h))]))
  have hP := of_decide_eq_true g
  obtain ⟨⟨hB, hS, hG, hn⟩, _⟩ := hP
  have hsl := hS.2
  unfold freeOf
  rw [if_pos (of_decide_eq_true g)]
  refine ev_fold (fun k b => impl_FreeBays.l0 k stays gap list minute (freeTo stays gap list minute b) (bays.length : Int) (b : Int)) bays.length ?_ ?_
  · intro b hb hnx
    refine Ev.step (fun k => by simp only [impl_FreeBays.l0]; rfl) ?_
    simp only [if_pos (show (b : Int) < (bays.length : Int) by omega)]
    have hfl := freeTo_len stays gap list minute b
    have k1 := ev_fold (fun k i => impl_FreeBays.l1 k stays gap list minute (freeTo stays gap list minute b) (b : Int) (decide (FreeP stays gap list minute b i)) (bays.length : Int) (b : Int) list (list.length : Int) (i : Int)) list.length (r := freeTo stays gap list minute bays.length) ?_ ?_
    · have e : decide (FreeP stays gap list minute b 0) = true := decide_eq_true (fun i hi => absurd hi (Nat.not_lt_zero _))
      rw [e] at k1
      exact k1
    · intro i hi hn1
      refine Ev.step (fun k => by simp only [impl_FreeBays.l1]; rfl) ?_
      simp only [if_pos (show (i : Int) < (list.length : Int) by omega), if_pos (show 0 ≤ (i : Int) by omega), if_pos (show (i : Int) < (stays.length : Int) by omega)]
      rw [wrap_succ hi (by omega)]
      refine Ev.ite (fun g0 => ?_) (fun g0 => ?_)
      · have g0 := of_decide_eq_true g0
        refine Ev.ite (fun g1 => ?_) (fun g1 => ?_)
        · refine Ev.bind (ev_opt (eq_impl_Stay_holds (st stays i) minute gap (st_ok hS i (by omega)) hG)) ?_
          have e : (!decide (HoldsP (st stays i) gap minute)) = decide (FreeP stays gap list minute b (i + 1)) := by
            rw [← decide_not]
            exact decide_eq_decide.2 ⟨fun h => (FreeP_succ _ _ _ _ _ _).2 ⟨g0, fun q => h q.2⟩, fun h q => ((FreeP_succ _ _ _ _ _ _).1 h).2 ⟨g1, q⟩⟩
          rw [e]
          exact hn1
        · have e : (!false) = decide (FreeP stays gap list minute b (i + 1)) := by
            rw [decide_eq_true ((FreeP_succ _ _ _ _ _ _).2 ⟨g0, fun q => g1 q.1⟩)]
            rfl
          rw [e]
          exact hn1
      · have e : false = decide (FreeP stays gap list minute b (i + 1)) := (decide_eq_false (fun h => g0 (decide_eq_true ((FreeP_succ _ _ _ _ _ _).1 h).1))).symm
        rw [e]
        exact hn1
    · refine Ev.step (fun k => by simp only [impl_FreeBays.l1]; rfl) ?_
      simp only [if_neg (show ¬ (list.length : Int) < (list.length : Int) by omega), if_pos (show (freeTo stays gap list minute b).length < 17592186044416 by omega)]
      rw [freeTo_succ] at hnx
      rw [wrap_succ hb (by omega)]
      refine Ev.ite (fun q => ?_) (fun q => ?_)
      · rw [if_pos (of_decide_eq_true q)] at hnx; exact hnx
      · rw [if_neg (fun h => q (decide_eq_true h))] at hnx; exact hnx
  · refine Ev.step (fun k => by simp only [impl_FreeBays.l0]; rfl) ?_
    simp only [if_neg (show ¬ (bays.length : Int) < (bays.length : Int) by omega)]
    exact ev_val rfl

theorem ev_laws_toIntS (xs : List Int) (hl : xs.length ≤ 1048576) : Ev (fun k => laws_toIntS.f k xs) xs := by
  unfold laws_toIntS.f
  simp only [if_pos (show 0 ≤ (xs.length : Int) by omega), Int.toNat_natCast, if_pos (show xs.length ≤ 35184372088832 by omega)]
  refine ev_fill xs id 0 (fun k s i => laws_toIntS.l0 k xs s (i : Int)) ?_ ?_
  · intro i hi s hs hn
    refine Ev.step (fun k => by simp only [laws_toIntS.l0]; rfl) ?_
    simp only [if_pos (show (i : Int) < (xs.length : Int) by omega), if_pos (show 0 ≤ (i : Int) by omega), if_pos (show (i : Int) < (s.length : Int) by omega)]
    rw [wrap_succ hi (by omega), rd_nat hi, Int.toNat_natCast]
    exact hn
  · refine Ev.step (fun k => by simp only [laws_toIntS.l0]; rfl) ?_
    simp only [if_neg (show ¬ (xs.length : Int) < (xs.length : Int) by omega)]
    exact ev_val (by simp)

theorem ev_laws_eqIntS (xs ys : List Int) (hl : xs.length ≤ 4611686018427387904) (b : Bool) (hb : b = true ↔ xs = ys) : Ev (fun k => laws_eqIntS.f k xs ys) b := by
  unfold laws_eqIntS.f
  by_cases he : xs.length = ys.length
  · simp only [if_pos (show (xs.length : Int) = (ys.length : Int) by omega)]
    refine ev_same xs ys he (fun k i => laws_eqIntS.l0 k xs ys (i : Int)) hb ?_ ?_ ?_
    · intro i hi hi' e hn
      refine Ev.step (fun k => by simp only [laws_eqIntS.l0]; rfl) ?_
      simp only [if_pos (show (i : Int) < (xs.length : Int) by omega), if_pos (show 0 ≤ (i : Int) by omega), if_pos (show (i : Int) < (ys.length : Int) by omega)]
      rw [wrap_succ hi (by omega), rd_nat hi, rd_nat hi']
      simp only [if_pos e]
      exact hn
    · intro i hi hi' e
      refine Ev.step (fun k => by simp only [laws_eqIntS.l0]; rfl) ?_
      simp only [if_pos (show (i : Int) < (xs.length : Int) by omega), if_pos (show 0 ≤ (i : Int) by omega), if_pos (show (i : Int) < (ys.length : Int) by omega)]
      rw [rd_nat hi, rd_nat hi']
      simp only [if_neg e]
      exact ev_val rfl
    · refine Ev.step (fun k => by simp only [laws_eqIntS.l0]; rfl) ?_
      simp only [if_neg (show ¬ (xs.length : Int) < (xs.length : Int) by omega)]
      exact ev_val rfl
  · simp only [if_neg (show ¬ (xs.length : Int) = (ys.length : Int) by omega)]
    exact ev_val (bool_not hb fun e => he (by rw [e])).symm

theorem eq_laws_eqStay (a0 a1 a2 b0 b1 b2 : Int) : laws_eqStay.f a0 a1 a2 b0 b1 b2 = some (decide (a0 = b0 ∧ a1 = b1 ∧ a2 = b2)) := by
  unfold laws_eqStay.f
  (repeat' split) <;> simp_all
theorem ev_laws_eqStayS (xs ys : List S50) (hl : xs.length ≤ 4611686018427387904) (b : Bool) (hb : b = true ↔ xs = ys) : Ev (fun k => laws_eqStayS.f k xs ys) b := by
  unfold laws_eqStayS.f
  by_cases he : xs.length = ys.length
  · simp only [if_pos (show (xs.length : Int) = (ys.length : Int) by omega)]
    have e : ∀ (zs : List S50) (i : Nat) (hi : i < zs.length), rd_T50 zs (i : Int) = zs[i] := fun zs i hi => getD_nat _ hi
    refine ev_same xs ys he (fun k i => laws_eqStayS.l0 k xs ys (i : Int)) hb ?_ ?_ ?_
    · intro i hi hi' e1 hn
      refine Ev.step (fun k => by simp only [laws_eqStayS.l0]; rfl) ?_
      simp only [if_pos (show (i : Int) < (xs.length : Int) by omega), if_pos (show 0 ≤ (i : Int) by omega), if_pos (show (i : Int) < (ys.length : Int) by omega), eq_laws_eqStay, e _ _ hi, e _ _ hi', e1, Option.bind_some, and_self, decide_true, if_true]
      rw [wrap_succ hi (by omega)]
      exact hn
    · intro i hi hi' e1
      refine Ev.step (fun k => by simp only [laws_eqStayS.l0]; rfl) ?_
      have e2 : ¬ (xs[i].f0 = ys[i].f0 ∧ xs[i].f1 = ys[i].f1 ∧ xs[i].f2 = ys[i].f2) := fun h => e1 (extStay _ _ h)
      simp only [if_pos (show (i : Int) < (xs.length : Int) by omega), if_pos (show 0 ≤ (i : Int) by omega), if_pos (show (i : Int) < (ys.length : Int) by omega), eq_laws_eqStay, e _ _ hi, e _ _ hi', decide_eq_false e2, Option.bind_some]
      exact ev_val rfl
    · refine Ev.step (fun k => by simp only [laws_eqStayS.l0]; rfl) ?_
      simp only [if_neg (show ¬ (xs.length : Int) < (xs.length : Int) by omega)]
      exact ev_val rfl
  · simp only [if_neg (show ¬ (xs.length : Int) = (ys.length : Int) by omega)]
    exact ev_val (bool_not hb fun e => he (by rw [e])).symm

def markedInt (m : Nat) (a : Int) : List Int := (List.range m).map fun (i : Nat) => (a + (i : Int))
theorem markedInt_length (m : Nat) (a : Int) : (markedInt m a).length = m := by simp [markedInt]
theorem marked_set (i : Nat) (a : Int) (xs : List Int) (hi : i < xs.length) : (markedInt i a ++ xs.drop i).set i ((a + (i : Int))) = markedInt (i + 1) a ++ xs.drop (i + 1) := by
  have hl : (markedInt i a).length = i := by simp [markedInt]
  rw [List.set_append_right _ _ (by omega), hl, Nat.sub_self, List.drop_eq_getElem_cons hi, List.set_cons_zero]
  simp [markedInt, List.range_succ]
theorem ev_laws_markIntS (xs : List Int) (hl : xs.length ≤ 4194304) (a : Int) (h0 : 0 ≤ a) (h1 : a ≤ 1152921504606846976) : Ev (fun k => laws_markIntS.f k xs a) (a + (xs.length : Int), markedInt xs.length a) := by
  unfold laws_markIntS.f
  have hlen : ∀ i, i < xs.length → (markedInt i a ++ xs.drop i).length = xs.length := by
    intro i hi
    simp [markedInt]
    omega
  have key := ev_fold (fun k i => laws_markIntS.l0 k (markedInt i a ++ xs.drop i) (a + (i : Int)) (i : Int)) xs.length (r := (a + (xs.length : Int), markedInt xs.length a)) ?_ ?_
  · have e : a + 0 = a := by omega
    simpa [markedInt] using key
  · intro i hi hn
    refine Ev.step (fun k => by simp only [laws_markIntS.l0]; rfl) ?_
    simp only [if_pos (show (i : Int) < ((markedInt i a ++ xs.drop i).length : Int) by rw [hlen i hi]; omega), if_pos (show 0 ≤ (i : Int) by omega), Int.toNat_natCast]
    rw [marked_set i a xs hi, wrap_succ hi (by omega), wrap_id (by omega) (by omega), show a + (i : Int) + 1 = a + ((i + 1 : Nat) : Int) by omega]
    exact hn
  · refine Ev.step (fun k => by simp only [laws_markIntS.l0]; rfl) ?_
    have e : markedInt xs.length a ++ xs.drop xs.length = markedInt xs.length a := by simp
    rw [e]
    simp only [markedInt_length, if_neg (show ¬ (xs.length : Int) < (xs.length : Int) by omega)]
    exact ev_val rfl

def mkStay (a : Int) (i : Nat) : S50 := ⟨a + 3 * (i : Int), a + 3 * (i : Int) + 1, a + 3 * (i : Int) + 2⟩
def markedStay (m : Nat) (a : Int) : List S50 := (List.range m).map fun (i : Nat) => mkStay a i
theorem markedStay_length (m : Nat) (a : Int) : (markedStay m a).length = m := by simp [markedStay]
theorem marked_setStay (i : Nat) (a : Int) (xs : List S50) (hi : i < xs.length) : (markedStay i a ++ xs.drop i).set i (mkStay a i) = markedStay (i + 1) a ++ xs.drop (i + 1) := by
  have hl : (markedStay i a).length = i := by simp [markedStay]
  rw [List.set_append_right _ _ (by omega), hl, Nat.sub_self, List.drop_eq_getElem_cons hi, List.set_cons_zero]
  simp [markedStay, List.range_succ]
theorem rds_Stay (xs : List S50) (i : Nat) (v : S50) (hi : i < xs.length) : rd_T50 (xs.set i v) (i : Int) = v := by
  have h : i < (xs.set i v).length := by rw [List.length_set]; exact hi
  have e : rd_T50 (xs.set i v) (i : Int) = (xs.set i v)[i] := getD_nat _ h
  rw [e, List.getElem_set_self]
theorem ev_laws_markStayS (xs : List S50) (hl : xs.length ≤ 4194304) (a : Int) (h0 : 0 ≤ a) (h1 : a ≤ 1152921504606846976) : Ev (fun k => laws_markStayS.f k xs a) (a + 3 * (xs.length : Int), markedStay xs.length a) := by
  unfold laws_markStayS.f
  have hlen : ∀ i, i < xs.length → (markedStay i a ++ xs.drop i).length = xs.length := by
    intro i hi
    simp [markedStay]
    omega
  have key := ev_fold (fun k i => laws_markStayS.l0 k (markedStay i a ++ xs.drop i) (a + 3 * (i : Int)) (i : Int)) xs.length (r := (a + 3 * (xs.length : Int), markedStay xs.length a)) ?_ ?_
  · have e : a + 3 * 0 = a := by omega
    simpa [markedStay] using key
  · intro i hi hn
    refine Ev.step (fun k => by simp only [laws_markStayS.l0]; rfl) ?_
    have hlt : i < (markedStay i a ++ xs.drop i).length := by rw [hlen i hi]; omega
    simp only [if_pos (show (i : Int) < ((markedStay i a ++ xs.drop i).length : Int) by omega), if_pos (show 0 ≤ (i : Int) by omega), Int.toNat_natCast, Option.bind_some]
    simp only [rds_Stay _ _ _ hlt, List.length_set, List.set_set]
    rw [wrap_id (x := a + 3 * (i : Int) + 1) (by omega) (by omega)]
    rw [wrap_id (x := a + 3 * (i : Int) + 1 + 1) (by omega) (by omega), show a + 3 * (i : Int) + 1 + 1 = a + 3 * (i : Int) + 2 by omega]
    rw [wrap_id (x := a + 3 * (i : Int) + 2 + 1) (by omega) (by omega)]
    rw [wrap_succ hi (by omega)]
    have e := marked_setStay i a xs hi
    unfold mkStay at e
    simp only [e]
    rw [show a + 3 * (i : Int) + 2 + 1 = a + 3 * ((i + 1 : Nat) : Int) by omega]
    exact hn
  · refine Ev.step (fun k => by simp only [laws_markStayS.l0]; rfl) ?_
    have e : markedStay xs.length a ++ xs.drop xs.length = markedStay xs.length a := by simp
    rw [e]
    simp only [markedStay_length, if_neg (show ¬ (xs.length : Int) < (xs.length : Int) by omega)]
    exact ev_val rfl

theorem ev_laws_heldIntS (m : Nat) (hl : m ≤ 4194304) (a : Int) (h0 : 0 ≤ a) (h1 : a ≤ 1152921504606846976) : Ev (fun k => laws_heldIntS.f k (markedInt m a) a) (a + (m : Int)) := by
  unfold laws_heldIntS.f
  have e : ∀ i (hi : i < m), (markedInt m a)[i]'(by rw [markedInt_length]; exact hi) = (a + (i : Int)) := by
    intro i hi
    simp [markedInt]
  have key := ev_fold (fun k i => laws_heldIntS.l0 k (markedInt m a) (a + (i : Int)) (i : Int)) m (r := a + (m : Int)) ?_ ?_
  · simpa using key
  · intro i hi hn
    refine Ev.step (fun k => by simp only [laws_heldIntS.l0]; rfl) ?_
    simp only [if_pos (show (i : Int) < ((markedInt m a).length : Int) by rw [markedInt_length]; omega), if_pos (show 0 ≤ (i : Int) by omega), rd_nat (show i < (markedInt m a).length by rw [markedInt_length]; exact hi), e i hi, if_true]
    rw [wrap_succ hi (by omega), wrap_id (by omega) (by omega), show a + (i : Int) + 1 = a + ((i + 1 : Nat) : Int) by omega]
    exact hn
  · refine Ev.step (fun k => by simp only [laws_heldIntS.l0]; rfl) ?_
    simp only [markedInt_length, if_neg (show ¬ (m : Int) < (m : Int) by omega)]
    exact ev_val rfl

theorem FnExactFreeBays : RFnExactFreeBays.Pure := by
  intro bays stays gap list minute ⟨hb, _⟩ ⟨hm, _⟩ _ ⟨hl, _⟩ _
  refine Ev.rounds ?_
  unfold laws_FnExactFreeBays.f
  refine Ev.ite (fun _ => ev_val rfl) (fun hlb => ?_)
  refine Ev.ite (fun _ => ev_val rfl) (fun hll => ?_)
  rw [eq_laws_szStayS stays _ hm (by omega) (by omega)]
  simp only [Option.bind_some]
  by_cases hbig : (1048576 : Int) < stays.length
  · simp only [if_pos hbig, if_pos (show (-1 : Int) < 0 by omega)]
    exact ev_val rfl
  simp only [if_neg hbig, if_neg (show ¬ (1048576 - (stays.length : Int) < 0) by omega)]
  have hs' : (stays.map cvStay).length ≤ 1048576 := by simp; omega
  have hr := freeOf_len bays (stays.map cvStay) gap list minute
  have h1 := ev_spec_FreeBays bays (stays.map cvStay) gap list minute (by omega) hs'
  have h2 := ev_impl_FreeBays bays (stays.map cvStay) gap list minute (by omega) hs'
  obtain ⟨r, er⟩ : ∃ r, r = freeOf bays (stays.map cvStay) gap list minute := ⟨_, rfl⟩
  rw [← er] at hr h1 h2
  refine Ev.bind (ev_laws_toIntS bays (by omega)) ?_
  refine Ev.bind (ev_laws_toStayS stays (by omega)) ?_
  refine Ev.bind (ev_laws_toIntS list (by omega)) ?_
  refine Ev.bind h1 ?_
  refine Ev.bind (ev_laws_toIntS bays (by omega)) ?_
  refine Ev.bind (ev_laws_toStayS stays (by omega)) ?_
  refine Ev.bind (ev_laws_toIntS list (by omega)) ?_
  refine Ev.bind h2 ?_
  refine Ev.bind (ev_laws_eqIntS _ _ (by omega) true (by simp)) ?_
  simp only [if_true]
  refine Ev.bind (ev_laws_toIntS bays (by omega)) ?_
  refine Ev.bind (ev_laws_eqIntS _ _ (by omega) true (by simp)) ?_
  simp only [if_true]
  refine Ev.bind (ev_laws_toStayS stays (by omega)) ?_
  refine Ev.bind (ev_laws_eqStayS _ _ (by omega) true (by simp)) ?_
  simp only [if_true]
  refine Ev.bind (ev_laws_toIntS list (by omega)) ?_
  refine Ev.bind (ev_laws_eqIntS _ _ (by omega) true (by simp)) ?_
  simp only [if_true]
  refine Ev.bind (ev_laws_markIntS bays (by omega) 1 (by omega) (by omega)) ?_
  refine Ev.bind (ev_laws_markStayS _ (by omega) (1 + (bays.length : Int)) (by omega) (by omega)) ?_
  refine Ev.bind (ev_laws_markIntS list (by omega) (1 + (bays.length : Int) + 3 * ((stays.map cvStay).length : Int)) (by omega) (by omega)) ?_
  simp only [if_neg (show ¬ 1 + (bays.length : Int) + 3 * ((stays.map cvStay).length : Int) + (list.length : Int) < 0 by omega)]
  refine Ev.bind (ev_laws_eqIntS _ _ (by omega) true (by simp)) ?_
  simp only [Bool.not_true]
  refine Ev.step (fun k => by simp only [laws_FnExactFreeBays.j0]; rfl) ?_
  simp only [Bool.false_eq_true, if_false]
  refine Ev.bind (ev_laws_markIntS r (by omega) 1 (by omega) (by omega)) ?_
  refine Ev.bind (ev_laws_heldIntS r.length (by omega) 1 (by omega) (by omega)) ?_
  simp only [if_neg (show ¬ 1 + (r.length : Int) < 0 by omega), if_true]
  refine Ev.bind (ev_laws_toIntS bays (by omega)) ?_
  refine Ev.bind (ev_laws_toStayS stays (by omega)) ?_
  refine Ev.bind (ev_laws_toIntS list (by omega)) ?_
  refine Ev.bind h2 ?_
  refine Ev.bind (ev_laws_eqIntS _ _ (by omega) true (by simp)) ?_
  simp only [if_true]
  refine Ev.bind (ev_laws_heldIntS r.length (by omega) 1 (by omega) (by omega)) ?_
  simp only [if_neg (show ¬ 1 + (r.length : Int) < 0 by omega), if_true]
  exact ev_val rfl

end Go.Proofs.Ytddipeelmandjaa.Pure
