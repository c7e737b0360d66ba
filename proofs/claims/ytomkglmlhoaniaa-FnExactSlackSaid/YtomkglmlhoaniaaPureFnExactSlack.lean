/- The pure statement of the law FnExactSlack: what the program's functions and the reference's compute is told in plain words, and the two agree. -/
import Derived.Test.YtomkglmlhoaniaaSFnExactSlack
import Derived.Test.YtomkglmlhoaniaaPlFnExactSlack
namespace Go.Proofs.Ytomkglmlhoaniaa.Pure
open Go.RowKit Go.Proofs.Ytomkglmlhoaniaa.PFnExactSlack Go.Proofs.Ytomkglmlhoaniaa.RFnExactSlack Go.Proofs.YtomkglmlhoaniaaW.PrintWords Go.Proofs.YtomkglmlhoaniaaW.PrintLast Go.Proofs.YtomkglmlhoaniaaW.PrintMore Go.Proofs.Ytomkglmlhoaniaa.Pl
set_option linter.unusedSimpArgs false
set_option linter.unusedVariables false
theorem Ev.ite {R : Type} {c : Prop} [Decidable c] {f g : Nat → Option R} {r : R} (h1 : c → Ev f r) (h2 : ¬ c → Ev g r) : Ev (fun k => if c then f k else g k) r := by
  by_cases h : c
  · simp only [if_pos h]; exact h1 h
  · simp only [if_neg h]; exact h2 h
theorem wrap_pred {i : Nat} (h : 0 < i) (hn : i ≤ 9223372036854775807) : wrap64 ((i : Int) - 1) = ((i - 1 : Nat) : Int) := by unfold wrap64; omega
/-- All places are right, or one is not. -/
theorem ev_allI (n : Nat) (P : Nat → Prop) (G : Nat → Nat → Option Bool) {b : Bool} (Q : Prop) (hb : b = true ↔ (∀ i, i < n → P i) ∧ Q)
    (hstep : ∀ i, i < n → P i → Ev (fun k => G k (i + 1)) b → Ev (fun k => G k i) b)
    (hbad : ∀ i, i < n → ¬ P i → Ev (fun k => G k i) false)
    (hend : (∀ i, i < n → P i) → (b = true ↔ Q) → Ev (fun k => G k n) b) : Ev (fun k => G k 0) b := by
  classical
  refine ev_run G (fun i => decide (¬ P i)) n ?_ ?_ ?_
  · intro i hi hc hn
    exact hstep i hi (Classical.not_not.1 (of_decide_eq_false hc)) hn
  · intro i hi hc _
    have hne := of_decide_eq_true hc
    exact Ev.cast (hbad i hi hne) (bool_not hb fun e => hne (e.1 i hi)).symm
  · intro hc
    have hp : ∀ i, i < n → P i := fun i hi => Classical.not_not.1 (of_decide_eq_false (hc i hi))
    exact hend hp ⟨fun h => (hb.1 h).2, fun h => hb.2 ⟨hp, h⟩⟩

theorem eq_laws_szLinkS (xs : List S70) (left : Int) (hl : xs.length ≤ maxLen) (h0 : 0 ≤ left) (h1 : left ≤ 1048576) : laws_szLinkS.f xs left = some (if left < xs.length then -1 else left - xs.length) := by
  unfold laws_szLinkS.f
  have hm : maxLen = 9223372036854775807 := rfl
  rw [wrap_id (by omega) (by omega)]
  by_cases h : left < xs.length
  · rw [if_pos h, if_pos (by omega)]
  · rw [if_neg h, if_neg (by omega)]

def cvLink (x : S70) : S53 := ⟨x.f0, x.f1, x.f2, x.f3⟩
theorem extLink (a b : S53) (h : a.f0 = b.f0 ∧ a.f1 = b.f1 ∧ a.f2 = b.f2 ∧ a.f3 = b.f3) : a = b := by
  cases a; cases b
  simp only at h
  simp [h]
theorem eq_laws_toLink (a0 a1 a2 a3 : Int) : laws_toLink.f a0 a1 a2 a3 = some (a0, a1, a2, a3) := rfl
theorem ev_laws_toLinkS (xs : List S70) (hl : xs.length ≤ 1048576) : Ev (fun k => laws_toLinkS.f k xs) (xs.map cvLink) := by
  unfold laws_toLinkS.f
  simp only [if_pos (show 0 ≤ (xs.length : Int) by omega), Int.toNat_natCast, if_pos (show xs.length ≤ 8796093022208 by omega)]
  refine ev_fill xs cvLink z53 (fun k s i => laws_toLinkS.l0 k xs s (i : Int)) ?_ ?_
  · intro i hi s hs hn
    refine Ev.step (fun k => by simp only [laws_toLinkS.l0]; rfl) ?_
    have e : rd_T70 xs (i : Int) = xs[i] := getD_nat _ hi
    simp only [if_pos (show (i : Int) < (xs.length : Int) by omega), if_pos (show 0 ≤ (i : Int) by omega), if_pos (show (i : Int) < (s.length : Int) by omega), eq_laws_toLink, Option.bind_some, e]
    rw [wrap_succ hi (by omega), Int.toNat_natCast]
    exact hn
  · refine Ev.step (fun k => by simp only [laws_toLinkS.l0]; rfl) ?_
    simp only [if_neg (show ¬ (xs.length : Int) < (xs.length : Int) by omega)]
    exact ev_val rfl

theorem ev_laws_toIntS (xs : List Int) (hl : xs.length ≤ 1048576) : Ev (fun k => laws_toIntS.f k xs) xs := by
  unfold laws_toIntS.f
  simp only [if_pos (show 0 ≤ (xs.length : Int) by omega), Int.toNat_natCast, if_pos (show xs.length ≤ 35184372088832 by omega)]
  refine ev_fill xs id 0 (fun k s i => laws_toIntS.l0 k xs s (i : Int)) ?_ ?_
  · intro i hi s hs hn
    refine Ev.step (fun k => by simp only [laws_toIntS.l0]; rfl) ?_
    simp only [if_pos (show (i : Int) < (xs.length : Int) by omega), if_pos (show 0 ≤ (i : Int) by omega), if_pos (show (i : Int) < (s.length : Int) by omega)]
    rw [wrap_succ hi (by omega), rd_nat hi, Int.toNat_natCast]
    exact hn
  · refine Ev.step (fun k => by simp only [laws_toIntS.l0]; rfl) ?_
    simp only [if_neg (show ¬ (xs.length : Int) < (xs.length : Int) by omega)]
    exact ev_val (by simp)

theorem eq_laws_szIntS (xs : List Int) (left : Int) (hl : xs.length ≤ maxLen) (h0 : 0 ≤ left) (h1 : left ≤ 1048576) : laws_szIntS.f xs left = some (if left < xs.length then -1 else left - xs.length) := by
  unfold laws_szIntS.f
  have hm : maxLen = 9223372036854775807 := rfl
  rw [wrap_id (by omega) (by omega)]
  by_cases h : left < xs.length
  · rw [if_pos h, if_pos (by omega)]
  · rw [if_neg h, if_neg (by omega)]
theorem eq_laws_szWork (plan : List Int) (links : List S70) (wait left : Int) (hs : plan.length ≤ maxLen) (hl : links.length ≤ maxLen) (h0 : 0 ≤ left) (h1 : left ≤ 1048576) :
    laws_szWork.f plan links wait left = some (if left < plan.length then -1 else if left - plan.length < links.length then -1 else left - plan.length - links.length) := by
  unfold laws_szWork.f
  rw [eq_laws_szIntS plan _ hs h0 h1]
  simp only [Option.bind_some]
  by_cases h : left < plan.length
  · simp only [if_pos h]; rfl
  · simp only [if_neg h, if_neg (show ¬ left - (plan.length : Int) < 0 by omega), eq_laws_szLinkS links _ hl (show 0 ≤ left - (plan.length : Int) by omega) (by omega), Option.bind_some]
    by_cases h2 : left - plan.length < links.length
    · simp only [if_pos h2]; rfl
    · simp only [if_neg h2, if_neg (show ¬ left - (plan.length : Int) - (links.length : Int) < 0 by omega)]
theorem sz2w_ok {left a b : Int} (h : ¬ (if left < a then -1 else if left - a < b then -1 else left - a - b) < 0) : a ≤ left ∧ b ≤ left - a := by
  by_cases h1 : left < a
  · rw [if_pos h1] at h; omega
  · rw [if_neg h1] at h
    by_cases h2 : left - a < b
    · rw [if_pos h2] at h; omega
    · omega
theorem ev_laws_toWork (plan : List Int) (links : List S70) (wait : Int) (hp : plan.length ≤ 1048576) (hl : links.length ≤ 1048576) : Ev (fun k => laws_toWork.f k plan links wait) (plan, links.map cvLink, wait) := by
  unfold laws_toWork.f
  exact Ev.bind (ev_laws_toIntS plan hp) (Ev.bind (ev_laws_toLinkS links hl) (ev_val rfl))

def LinkP (plan : List Int) (x : S53) : Prop := 0 ≤ x.f0 ∧ x.f0 < x.f1 ∧ x.f1 < plan.length ∧ 0 ≤ x.f2 ∧ x.f2 ≤ 1000 ∧ 0 ≤ x.f3 ∧ x.f3 ≤ 1 ∧ rd plan x.f0 + x.f2 ≤ rd plan x.f1
def WorkP (plan : List Int) (links : List S53) (wait : Int) : Prop :=
  ((plan.length : Int) ≤ 60 ∧ (links.length : Int) ≤ 150 ∧ 0 ≤ wait ∧ wait ≤ 60) ∧ (∀ i, i < plan.length → 0 ≤ rd plan (i : Int) ∧ rd plan (i : Int) ≤ 100000) ∧ ∀ i, i < links.length → LinkP plan (rd_T53 links (i : Int))
theorem rd_bd (plan : List Int) (h : ∀ i, i < plan.length → 0 ≤ rd plan (i : Int) ∧ rd plan (i : Int) ≤ 100000) (a : Int) (h0 : 0 ≤ a) (h1 : a < plan.length) : 0 ≤ rd plan a ∧ rd plan a ≤ 100000 := by
  have := h a.toNat (by omega)
  rw [show ((a.toNat : Nat) : Int) = a by omega] at this
  exact this

noncomputable def slackOf (plan : List Int) (links : List S53) (wait k : Int) : Int :=
  open Classical in if WorkP plan links wait ∧ 0 ≤ k ∧ k < links.length then rd plan (rd_T53 links k).f1 - rd plan (rd_T53 links k).f0 - (rd_T53 links k).f2 else -1

theorem eq_spec_l01In (a b c : Int) : spec_l01In.f a b c = some (decide (b ≤ a ∧ a ≤ c)) := by
  unfold spec_l01In.f
  by_cases h : b ≤ a
  · rw [if_pos h]; simp [h]
  · rw [if_neg h]; simp [h]

theorem ev_spec_WorkOk (plan : List Int) (links : List S53) (wait : Int) (b : Bool) (hb : b = true ↔ WorkP plan links wait) : Ev (fun k => spec_WorkOk.f k plan links wait) b := by
  classical
  unfold spec_WorkOk.f
  have bad : ¬ ((plan.length : Int) ≤ 60 ∧ (links.length : Int) ≤ 150 ∧ 0 ≤ wait ∧ wait ≤ 60) → Ev (fun k => spec_WorkOk.j0 k true plan links wait) b := fun h =>
    Ev.step (fun k => by simp only [spec_WorkOk.j0]; rfl) (ev_val (bool_not hb fun e => h e.1).symm)
  refine Ev.ite (fun h => bad (by omega)) (fun h1 => ?_)
  refine Ev.ite (fun h => bad (by omega)) (fun h2 => ?_)
  simp only [eq_spec_l01In, Option.bind_some]
  by_cases h3 : 0 ≤ wait ∧ wait ≤ 60
  · simp only [decide_eq_true h3, Bool.not_true]
    refine Ev.step (fun k => by simp only [spec_WorkOk.j0]; rfl) ?_
    simp only [Bool.false_eq_true, if_false]
    have hb' : b = true ↔ (∀ i, i < plan.length → 0 ≤ rd plan (i : Int) ∧ rd plan (i : Int) ≤ 100000) ∧ ∀ i, i < links.length → LinkP plan (rd_T53 links (i : Int)) :=
      hb.trans ⟨fun h => h.2, fun h => ⟨⟨by omega, by omega, h3.1, h3.2⟩, h⟩⟩
    refine ev_allI plan.length (fun i => 0 ≤ rd plan (i : Int) ∧ rd plan (i : Int) ≤ 100000) (fun k i => spec_WorkOk.l0 k (i : Int) plan links wait) _ hb' ?_ ?_ ?_
    · intro i hi hp hn
      refine Ev.step (fun k => by simp only [spec_WorkOk.l0]; rfl) ?_
      simp only [if_pos (show (i : Int) < (plan.length : Int) by omega), if_pos (show 0 ≤ (i : Int) by omega), eq_spec_l01In, Option.bind_some, decide_eq_true hp, if_true]
      rw [wrap_succ hi (by omega)]
      exact hn
    · intro i hi hp
      refine Ev.step (fun k => by simp only [spec_WorkOk.l0]; rfl) ?_
      simp only [if_pos (show (i : Int) < (plan.length : Int) by omega), if_pos (show 0 ≤ (i : Int) by omega), eq_spec_l01In, Option.bind_some, decide_eq_false hp, Bool.false_eq_true, if_false]
      exact ev_val rfl
    · intro hplan hq
      refine Ev.step (fun k => by simp only [spec_WorkOk.l0]; rfl) ?_
      simp only [if_neg (show ¬ (plan.length : Int) < (plan.length : Int) by omega)]
      refine ev_allI links.length (fun i => LinkP plan (rd_T53 links (i : Int))) (fun k i => spec_WorkOk.l1 k (i : Int) plan links wait) True (hq.trans (by simp)) ?_ ?_ ?_
      · intro i hi hp hn
        refine Ev.step (fun k => by simp only [spec_WorkOk.l1]; rfl) ?_
        unfold LinkP at hp
        have hx0 := rd_bd plan hplan (rd_T53 links (i : Int)).f0 (by omega) (by omega)
        have hx1 := rd_bd plan hplan (rd_T53 links (i : Int)).f1 (by omega) (by omega)
        simp only [eq_spec_l01In, Option.bind_some, decide_eq_true_eq]
        rw [wrap_id (x := (plan.length : Int) - 1) (by omega) (by omega), wrap_id (x := (rd_T53 links (i : Int)).f1 - 1) (by omega) (by omega)]
        repeat' first
          | exact hn
          | (rw [wrap_id (x := rd plan (rd_T53 links (i : Int)).f0 + (rd_T53 links (i : Int)).f2) (by omega) (by omega)])
          | (rw [wrap_succ hi (by omega)])
          | refine Ev.ite (fun _ => ?_) (fun _ => ?_)
          | refine Ev.step (fun k => by simp only [spec_WorkOk.j3]; rfl) ?_
          | (exfalso; first | omega | (simp only [decide_eq_true_eq, Bool.not_eq_true', decide_eq_false_iff_not, Bool.not_eq_false, not_true_eq_false] at *; done) | (simp only [decide_eq_true_eq, Bool.not_eq_true', decide_eq_false_iff_not, Bool.not_eq_false, not_true_eq_false] at *; omega))
      · intro i hi hp
        refine Ev.step (fun k => by simp only [spec_WorkOk.l1]; rfl) ?_
        unfold LinkP at hp
        simp only [eq_spec_l01In, Option.bind_some, decide_eq_true_eq]
        rw [wrap_id (x := (plan.length : Int) - 1) (by omega) (by omega)]
        refine Ev.ite (fun _ => ?_) (fun _ => (by exfalso; omega))
        refine Ev.ite (fun _ => ?_) (fun _ => (by exfalso; omega))
        refine Ev.ite (fun g1 => ?_) (fun g1 => Ev.step (fun k => by simp only [spec_WorkOk.j3]; rfl) (ev_val rfl))
        rw [wrap_id (x := (rd_T53 links (i : Int)).f1 - 1) (by omega) (by omega)]
        refine Ev.ite (fun g2 => ?_) (fun g2 => Ev.step (fun k => by simp only [spec_WorkOk.j3]; rfl) (ev_val rfl))
        refine Ev.ite (fun g3 => ?_) (fun g3 => Ev.step (fun k => by simp only [spec_WorkOk.j3]; rfl) (ev_val rfl))
        have hx0 := rd_bd plan hplan (rd_T53 links (i : Int)).f0 (by omega) (by omega)
        have hx1 := rd_bd plan hplan (rd_T53 links (i : Int)).f1 (by omega) (by omega)
        refine Ev.step (fun k => by simp only [spec_WorkOk.j3]; rfl) ?_
        rw [wrap_id (x := rd plan (rd_T53 links (i : Int)).f0 + (rd_T53 links (i : Int)).f2) (by omega) (by omega)]
        repeat' first
          | exact ev_val rfl
          | refine Ev.ite (fun _ => ?_) (fun _ => ?_)
          | (exfalso; first | omega | (simp only [decide_eq_true_eq, Bool.not_eq_true', decide_eq_false_iff_not, Bool.not_eq_false, not_true_eq_false] at *; done) | (simp only [decide_eq_true_eq, Bool.not_eq_true', decide_eq_false_iff_not, Bool.not_eq_false, not_true_eq_false] at *; omega))
      · intro _ hq2
        refine Ev.step (fun k => by simp only [spec_WorkOk.l1]; rfl) ?_
        simp only [if_neg (show ¬ (links.length : Int) < (links.length : Int) by omega)]
        exact ev_val (hq2.2 trivial).symm
  · simp only [decide_eq_false h3, Bool.not_false]
    exact bad (by omega)

theorem ev_spec_Slack (plan : List Int) (links : List S53) (wait q : Int) : Ev (fun k => spec_Slack.f k plan links wait q) (slackOf plan links wait q) := by
  classical
  unfold spec_Slack.f
  refine Ev.bind (ev_spec_WorkOk plan links wait (decide (WorkP plan links wait)) decide_eq_true_iff) ?_
  refine Ev.ite (fun h => ?_) (fun h => ev_val (by unfold slackOf; rw [if_neg (fun g => h (decide_eq_true g.1))]))
  have hw := of_decide_eq_true h
  obtain ⟨⟨w1, w2, w3⟩, w4, w5⟩ := hw
  rw [wrap_id (x := (links.length : Int) - 1) (by omega) (by omega)]
  simp only [eq_spec_l01In, Option.bind_some, decide_eq_true_eq]
  refine Ev.ite (fun g => ?_) (fun g => ev_val (by unfold slackOf; rw [if_neg (fun g' => g (by omega))]))
  have hp := w5 q.toNat (by omega)
  rw [show ((q.toNat : Nat) : Int) = q by omega] at hp
  unfold LinkP at hp
  have hx0 := rd_bd plan w4 (rd_T53 links q).f0 (by omega) (by omega)
  have hx1 := rd_bd plan w4 (rd_T53 links q).f1 (by omega) (by omega)
  rw [wrap_id (x := rd plan (rd_T53 links q).f1 - rd plan (rd_T53 links q).f0) (by omega) (by omega), wrap_id (by omega) (by omega)]
  repeat' first
    | exact ev_val (by unfold slackOf; rw [if_pos ⟨of_decide_eq_true h, by omega, by omega⟩])
    | refine Ev.ite (fun _ => ?_) (fun _ => ?_)
    | (exfalso; omega)

theorem eq_impl_between (a b c : Int) : impl_between.f a b c = some (decide (b ≤ a ∧ a ≤ c)) := by
  unfold impl_between.f
  by_cases h : a ≥ b
  · rw [if_pos h]; simp [show b ≤ a from h]
  · rw [if_neg h]; simp [show ¬ b ≤ a from h]

theorem eq_impl_isMinute (a : Int) : impl_isMinute.f a = some (decide (0 ≤ a ∧ a ≤ 100000)) := by
  unfold impl_isMinute.f
  rw [eq_impl_between]
  rfl

theorem ev_impl_WorkOk (plan : List Int) (links : List S53) (wait : Int) (b : Bool) (hb : b = true ↔ WorkP plan links wait) : Ev (fun k => impl_WorkOk.f k plan links wait) b := by
  classical
  unfold impl_WorkOk.f
  have bad : ¬ ((plan.length : Int) ≤ 60 ∧ (links.length : Int) ≤ 150 ∧ 0 ≤ wait ∧ wait ≤ 60) → Ev (fun k => impl_WorkOk.j0 k true plan links wait) b := fun h =>
    Ev.step (fun k => by simp only [impl_WorkOk.j0]; rfl) (ev_val (bool_not hb fun e => h e.1).symm)
  refine Ev.ite (fun h => bad (by omega)) (fun h1 => ?_)
  refine Ev.ite (fun h => bad (by omega)) (fun h2 => ?_)
  simp only [eq_impl_between, Option.bind_some]
  by_cases h3 : 0 ≤ wait ∧ wait ≤ 60
  · simp only [decide_eq_true h3, Bool.not_true]
    refine Ev.step (fun k => by simp only [impl_WorkOk.j0]; rfl) ?_
    simp only [Bool.false_eq_true, if_false]
    have hb' : b = true ↔ (∀ i, i < plan.length → 0 ≤ rd plan (i : Int) ∧ rd plan (i : Int) ≤ 100000) ∧ ∀ i, i < links.length → LinkP plan (rd_T53 links (i : Int)) :=
      hb.trans ⟨fun h => h.2, fun h => ⟨⟨by omega, by omega, h3.1, h3.2⟩, h⟩⟩
    refine ev_allI plan.length (fun i => 0 ≤ rd plan (i : Int) ∧ rd plan (i : Int) ≤ 100000) (fun k i => impl_WorkOk.l0 k plan (plan.length : Int) (i : Int) plan links wait) _ hb' ?_ ?_ ?_
    · intro i hi hp hn
      refine Ev.step (fun k => by simp only [impl_WorkOk.l0]; rfl) ?_
      simp only [if_pos (show (i : Int) < (plan.length : Int) by omega), if_pos (show 0 ≤ (i : Int) by omega), eq_impl_isMinute, Option.bind_some, decide_eq_true hp, if_true]
      rw [wrap_succ hi (by omega)]
      exact hn
    · intro i hi hp
      refine Ev.step (fun k => by simp only [impl_WorkOk.l0]; rfl) ?_
      simp only [if_pos (show (i : Int) < (plan.length : Int) by omega), if_pos (show 0 ≤ (i : Int) by omega), eq_impl_isMinute, Option.bind_some, decide_eq_false hp, Bool.false_eq_true, if_false]
      exact ev_val rfl
    · intro hplan hq
      refine Ev.step (fun k => by simp only [impl_WorkOk.l0]; rfl) ?_
      simp only [if_neg (show ¬ (plan.length : Int) < (plan.length : Int) by omega)]
      refine ev_allI links.length (fun i => LinkP plan (rd_T53 links (i : Int))) (fun k i => impl_WorkOk.l1 k links (links.length : Int) (i : Int) plan links wait) True (hq.trans (by simp)) ?_ ?_ ?_
      · intro i hi hp hn
        refine Ev.step (fun k => by simp only [impl_WorkOk.l1]; rfl) ?_
        unfold LinkP at hp
        have hx0 := rd_bd plan hplan (rd_T53 links (i : Int)).f0 (by omega) (by omega)
        have hx1 := rd_bd plan hplan (rd_T53 links (i : Int)).f1 (by omega) (by omega)
        simp only [eq_impl_between, Option.bind_some, decide_eq_true_eq]
        repeat' first
          | exact hn
          | (rw [wrap_id (x := rd plan (rd_T53 links (i : Int)).f1 - rd plan (rd_T53 links (i : Int)).f0) (by omega) (by omega)])
          | (rw [wrap_succ hi (by omega)])
          | refine Ev.ite (fun _ => ?_) (fun _ => ?_)
          | refine Ev.step (fun k => by simp only [impl_WorkOk.j3]; rfl) ?_
          | (exfalso; first | omega | (simp only [decide_eq_true_eq, Bool.not_eq_true', decide_eq_false_iff_not, Bool.not_eq_false, not_true_eq_false] at *; done) | (simp only [decide_eq_true_eq, Bool.not_eq_true', decide_eq_false_iff_not, Bool.not_eq_false, not_true_eq_false] at *; omega))
      · intro i hi hp
        refine Ev.step (fun k => by simp only [impl_WorkOk.l1]; rfl) ?_
        unfold LinkP at hp
        simp only [eq_impl_between, Option.bind_some, decide_eq_true_eq]
        refine Ev.ite (fun _ => ?_) (fun _ => (by exfalso; omega))
        refine Ev.ite (fun _ => ?_) (fun _ => (by exfalso; omega))
        refine Ev.ite (fun _ => ?_) (fun _ => (by exfalso; omega))
        refine Ev.ite (fun g1 => Ev.step (fun k => by simp only [impl_WorkOk.j3]; rfl) (ev_val rfl)) (fun g1 => ?_)
        refine Ev.ite (fun g2 => Ev.step (fun k => by simp only [impl_WorkOk.j3]; rfl) (ev_val rfl)) (fun g2 => ?_)
        refine Ev.ite (fun g3 => Ev.step (fun k => by simp only [impl_WorkOk.j3]; rfl) (ev_val rfl)) (fun g3 => ?_)
        refine Ev.ite (fun g4 => ?_) (fun g4 => Ev.step (fun k => by simp only [impl_WorkOk.j3]; rfl) (ev_val rfl))
        have hx0 := rd_bd plan hplan (rd_T53 links (i : Int)).f0 (by omega) (by omega)
        have hx1 := rd_bd plan hplan (rd_T53 links (i : Int)).f1 (by omega) (by omega)
        refine Ev.step (fun k => by simp only [impl_WorkOk.j3]; rfl) ?_
        rw [wrap_id (x := rd plan (rd_T53 links (i : Int)).f1 - rd plan (rd_T53 links (i : Int)).f0) (by omega) (by omega)]
        repeat' first
          | exact ev_val rfl
          | refine Ev.ite (fun _ => ?_) (fun _ => ?_)
          | (exfalso; first | omega | (simp only [decide_eq_true_eq, Bool.not_eq_true', decide_eq_false_iff_not, Bool.not_eq_false, not_true_eq_false] at *; done) | (simp only [decide_eq_true_eq, Bool.not_eq_true', decide_eq_false_iff_not, Bool.not_eq_false, not_true_eq_false] at *; omega))
      · intro _ hq2
        refine Ev.step (fun k => by simp only [impl_WorkOk.l1]; rfl) ?_
        simp only [if_neg (show ¬ (links.length : Int) < (links.length : Int) by omega)]
        exact ev_val (hq2.2 trivial).symm
  · simp only [decide_eq_false h3, Bool.not_false]
    exact bad (by omega)

theorem ev_impl_Slack (plan : List Int) (links : List S53) (wait q : Int) : Ev (fun k => impl_Slack.f k plan links wait q) (slackOf plan links wait q) := by
  classical
  unfold impl_Slack.f
  refine Ev.bind (ev_impl_WorkOk plan links wait (decide (WorkP plan links wait)) decide_eq_true_iff) ?_
  refine Ev.ite (fun h => ?_) (fun h => ev_val (by unfold slackOf; rw [if_neg (fun g => h (decide_eq_true g.1))]))
  have hw := of_decide_eq_true h
  obtain ⟨⟨w1, w2, w3⟩, w4, w5⟩ := hw
  rw [wrap_id (x := (links.length : Int) - 1) (by omega) (by omega)]
  simp only [eq_impl_between, Option.bind_some, decide_eq_true_eq]
  refine Ev.ite (fun g => ?_) (fun g => ev_val (by unfold slackOf; rw [if_neg (fun g' => g (by omega))]))
  have hp := w5 q.toNat (by omega)
  rw [show ((q.toNat : Nat) : Int) = q by omega] at hp
  unfold LinkP at hp
  have hx0 := rd_bd plan w4 (rd_T53 links q).f0 (by omega) (by omega)
  have hx1 := rd_bd plan w4 (rd_T53 links q).f1 (by omega) (by omega)
  rw [wrap_id (x := rd plan (rd_T53 links q).f1 - rd plan (rd_T53 links q).f0) (by omega) (by omega), wrap_id (by omega) (by omega)]
  repeat' first
    | exact ev_val (by unfold slackOf; rw [if_pos ⟨of_decide_eq_true h, by omega, by omega⟩])
    | refine Ev.ite (fun _ => ?_) (fun _ => ?_)
    | (exfalso; omega)

theorem ev_laws_eqIntS (xs ys : List Int) (hl : xs.length ≤ 4611686018427387904) (b : Bool) (hb : b = true ↔ xs = ys) : Ev (fun k => laws_eqIntS.f k xs ys) b := by
  unfold laws_eqIntS.f
  by_cases he : xs.length = ys.length
  · simp only [if_pos (show (xs.length : Int) = (ys.length : Int) by omega)]
    refine ev_same xs ys he (fun k i => laws_eqIntS.l0 k xs ys (i : Int)) hb ?_ ?_ ?_
    · intro i hi hi' e hn
      refine Ev.step (fun k => by simp only [laws_eqIntS.l0]; rfl) ?_
      simp only [if_pos (show (i : Int) < (xs.length : Int) by omega), if_pos (show 0 ≤ (i : Int) by omega), if_pos (show (i : Int) < (ys.length : Int) by omega)]
      rw [wrap_succ hi (by omega), rd_nat hi, rd_nat hi']
      simp only [if_pos e]
      exact hn
    · intro i hi hi' e
      refine Ev.step (fun k => by simp only [laws_eqIntS.l0]; rfl) ?_
      simp only [if_pos (show (i : Int) < (xs.length : Int) by omega), if_pos (show 0 ≤ (i : Int) by omega), if_pos (show (i : Int) < (ys.length : Int) by omega)]
      rw [rd_nat hi, rd_nat hi']
      simp only [if_neg e]
      exact ev_val rfl
    · refine Ev.step (fun k => by simp only [laws_eqIntS.l0]; rfl) ?_
      simp only [if_neg (show ¬ (xs.length : Int) < (xs.length : Int) by omega)]
      exact ev_val rfl
  · simp only [if_neg (show ¬ (xs.length : Int) = (ys.length : Int) by omega)]
    exact ev_val (bool_not hb fun e => he (by rw [e])).symm

theorem eq_laws_eqLink (a0 a1 a2 a3 b0 b1 b2 b3 : Int) : laws_eqLink.f a0 a1 a2 a3 b0 b1 b2 b3 = some (decide (a0 = b0 ∧ a1 = b1 ∧ a2 = b2 ∧ a3 = b3)) := by
  unfold laws_eqLink.f
  (repeat' split) <;> simp_all
theorem ev_laws_eqLinkS (xs ys : List S53) (hl : xs.length ≤ 4611686018427387904) (b : Bool) (hb : b = true ↔ xs = ys) : Ev (fun k => laws_eqLinkS.f k xs ys) b := by
  unfold laws_eqLinkS.f
  by_cases he : xs.length = ys.length
  · simp only [if_pos (show (xs.length : Int) = (ys.length : Int) by omega)]
    have e : ∀ (zs : List S53) (i : Nat) (hi : i < zs.length), rd_T53 zs (i : Int) = zs[i] := fun zs i hi => getD_nat _ hi
    refine ev_same xs ys he (fun k i => laws_eqLinkS.l0 k xs ys (i : Int)) hb ?_ ?_ ?_
    · intro i hi hi' e1 hn
      refine Ev.step (fun k => by simp only [laws_eqLinkS.l0]; rfl) ?_
      simp only [if_pos (show (i : Int) < (xs.length : Int) by omega), if_pos (show 0 ≤ (i : Int) by omega), if_pos (show (i : Int) < (ys.length : Int) by omega), eq_laws_eqLink, e _ _ hi, e _ _ hi', e1, Option.bind_some, and_self, decide_true, if_true]
      rw [wrap_succ hi (by omega)]
      exact hn
    · intro i hi hi' e1
      refine Ev.step (fun k => by simp only [laws_eqLinkS.l0]; rfl) ?_
      have e2 : ¬ (xs[i].f0 = ys[i].f0 ∧ xs[i].f1 = ys[i].f1 ∧ xs[i].f2 = ys[i].f2 ∧ xs[i].f3 = ys[i].f3) := fun h => e1 (extLink _ _ h)
      simp only [if_pos (show (i : Int) < (xs.length : Int) by omega), if_pos (show 0 ≤ (i : Int) by omega), if_pos (show (i : Int) < (ys.length : Int) by omega), eq_laws_eqLink, e _ _ hi, e _ _ hi', decide_eq_false e2, Option.bind_some]
      exact ev_val rfl
    · refine Ev.step (fun k => by simp only [laws_eqLinkS.l0]; rfl) ?_
      simp only [if_neg (show ¬ (xs.length : Int) < (xs.length : Int) by omega)]
      exact ev_val rfl
  · simp only [if_neg (show ¬ (xs.length : Int) = (ys.length : Int) by omega)]
    exact ev_val (bool_not hb fun e => he (by rw [e])).symm

theorem ev_laws_eqWork_same (plan : List Int) (links : List S53) (wait : Int) (hp : plan.length ≤ 1048576) (hl : links.length ≤ 1048576) : Ev (fun k => laws_eqWork.f k plan links wait plan links wait) true := by
  unfold laws_eqWork.f
  refine Ev.bind (ev_laws_eqIntS _ _ (by omega) true (by simp)) ?_
  simp only [if_true]
  exact Ev.bind (ev_laws_eqLinkS _ _ (by omega) true (by simp)) (ev_val rfl)

theorem FnExactSlack : RFnExactSlack.Pure := by
  intro x q ⟨⟨hp, _⟩, ⟨hm, _⟩, _⟩ _
  refine Ev.rounds ?_
  unfold laws_FnExactSlack.f
  rw [eq_laws_szWork _ _ _ _ hp hm (by omega) (by omega)]
  simp only [Option.bind_some]
  refine Ev.ite (fun _ => ev_val rfl) (fun hbig => ?_)
  have hz := sz2w_ok hbig
  have hl1 : x.f0.length ≤ 1048576 := by omega
  have hl2 : x.f1.length ≤ 1048576 := by omega
  have hl' : (x.f1.map cvLink).length ≤ 1048576 := by simpa using hl2
  refine Ev.bind (ev_laws_toWork _ _ _ hl1 hl2) ?_
  refine Ev.bind (ev_spec_Slack _ _ _ _) ?_
  refine Ev.bind (ev_laws_toWork _ _ _ hl1 hl2) ?_
  refine Ev.bind (ev_impl_Slack _ _ _ _) ?_
  simp only [if_true]
  refine Ev.bind (ev_laws_toWork _ _ _ hl1 hl2) ?_
  refine Ev.bind (ev_laws_eqWork_same _ _ _ hl1 hl') ?_
  exact ev_val rfl

end Go.Proofs.Ytomkglmlhoaniaa.Pure
