/- The pure statement of the law FnExactChain: its function, told by the engine, gives true for every input. -/
import Derived.Test.YtomkglmlhoaniaaSFnExactChain
namespace Go.Proofs.Ytomkglmlhoaniaa.Fns
open Go.RowKit Go.WideShapes Go.Proofs.Ytomkglmlhoaniaa.Eng
set_option linter.unusedVariables false
set_option linter.unusedSimpArgs false
theorem eq_laws_szIntS (xs : List Int) (left : Int) (hl : xs.length ≤ maxLen) (h0 : 0 ≤ left) (h1 : left ≤ 1048576) : laws_szIntS.f xs left = some (if left < xs.length then -1 else left - xs.length) := by
  unfold laws_szIntS.f
  have hm : maxLen = 9223372036854775807 := rfl
  rw [wrap_id (by omega) (by omega)]
  by_cases h : left < xs.length
  · rw [if_pos h, if_pos (by omega)]
  · rw [if_neg h, if_neg (by omega)]
theorem eq_laws_szLinkS (xs : List S52) (left : Int) (hl : xs.length ≤ maxLen) (h0 : 0 ≤ left) (h1 : left ≤ 1048576) : laws_szLinkS.f xs left = some (if left < xs.length then -1 else left - xs.length) := by
  unfold laws_szLinkS.f
  have hm : maxLen = 9223372036854775807 := rfl
  rw [wrap_id (by omega) (by omega)]
  by_cases h : left < xs.length
  · rw [if_pos h, if_pos (by omega)]
  · rw [if_neg h, if_neg (by omega)]
theorem eq_laws_szWork (x : S24) (left : Int) (hs : x.f0.length ≤ maxLen) (hl : x.f1.length ≤ maxLen) (h0 : 0 ≤ left) (h1 : left ≤ 1048576) :
    laws_szWork.f x left = some (if left < x.f0.length then -1 else if left - x.f0.length < x.f1.length then -1 else left - x.f0.length - x.f1.length) := by
  unfold laws_szWork.f
  rw [eq_laws_szIntS x.f0 _ hs h0 h1]
  simp only [Option.bind_some]
  by_cases h : left < x.f0.length
  · simp only [if_pos h]; rfl
  · simp only [if_neg h, if_neg (show ¬ left - (x.f0.length : Int) < 0 by omega), eq_laws_szLinkS x.f1 _ hl (show 0 ≤ left - (x.f0.length : Int) by omega) (by omega), Option.bind_some]
    by_cases h2 : left - x.f0.length < x.f1.length
    · simp only [if_pos h2]; rfl
    · simp only [if_neg h2, if_neg (show ¬ left - (x.f0.length : Int) - (x.f1.length : Int) < 0 by omega)]
theorem sz2w_ok {left a b : Int} (h : ¬ (if left < a then -1 else if left - a < b then -1 else left - a - b) < 0) : a ≤ left ∧ b ≤ left - a := by
  by_cases h1 : left < a
  · rw [if_pos h1] at h; omega
  · rw [if_neg h1] at h
    by_cases h2 : left - a < b
    · rw [if_pos h2] at h; omega
    · omega
theorem ev_laws_toIntS (xs : List Int) (hl : xs.length ≤ 1048576) : Ev (fun k => laws_toIntS.f k xs) xs := by
  unfold laws_toIntS.f
  simp only [if_pos (show 0 ≤ (xs.length : Int) by omega), if_pos (show (xs.length : Int) * 8 ≤ 281474976710656 by omega), Int.toNat_natCast]
  refine ev_fill xs id 0 (fun k s i => laws_toIntS.l0 k xs s (i : Int)) ?_ ?_
  · intro i hi s hs hn
    refine Ev.step (fun k => by simp only [laws_toIntS.l0]; rfl) ?_
    simp only [if_pos (show (i : Int) < (xs.length : Int) by omega), if_pos (show 0 ≤ (i : Int) by omega), if_pos (show (i : Int) < (s.length : Int) by omega), Int.toNat_natCast, at_nat hi]
    rw [wrap_succ hi (by omega)]
    exact hn
  · refine Ev.step (fun k => by simp only [laws_toIntS.l0]; rfl) ?_
    simp only [if_neg (show ¬ (xs.length : Int) < (xs.length : Int) by omega)]
    exact ev_val (List.map_id xs)
theorem ev_laws_toLinkS (xs : List S52) (hl : xs.length ≤ 1048576) : Ev (fun k => laws_toLinkS.f k xs) xs := by
  unfold laws_toLinkS.f
  simp only [if_pos (show 0 ≤ (xs.length : Int) by omega), if_pos (show (xs.length : Int) * 32 ≤ 281474976710656 by omega), Int.toNat_natCast]
  refine ev_fill xs id _ (fun k s i => laws_toLinkS.l0 k xs s (i : Int)) ?_ ?_
  · intro i hi s hs hn
    refine Ev.step (fun k => by simp only [laws_toLinkS.l0]; rfl) ?_
    simp only [if_pos (show (i : Int) < (xs.length : Int) by omega), if_pos (show 0 ≤ (i : Int) by omega), laws_toLink.f, Option.bind_some, if_pos (show (i : Int) < (s.length : Int) by omega), Int.toNat_natCast, at_nat hi]
    rw [wrap_succ hi (by omega)]
    exact hn
  · refine Ev.step (fun k => by simp only [laws_toLinkS.l0]; rfl) ?_
    simp only [if_neg (show ¬ (xs.length : Int) < (xs.length : Int) by omega)]
    exact ev_val (List.map_id xs)
theorem ev_laws_toWork (x : S24) (hp : x.f0.length ≤ 1048576) (hl : x.f1.length ≤ 1048576) : Ev (fun k => laws_toWork.f k x) ⟨x.f0, x.f1, x.f2⟩ := by
  unfold laws_toWork.f
  exact Ev.bind (ev_laws_toIntS x.f0 hp) (Ev.bind (ev_laws_toLinkS x.f1 hl) (ev_val rfl))
theorem ev_laws_eqIntS (xs ys : List Int) (hl : xs.length ≤ 4611686018427387904) (b : Bool) (hb : b = true ↔ xs = ys) : Ev (fun k => laws_eqIntS.f k xs ys) b := by
  unfold laws_eqIntS.f
  refine Ev.ite (fun h => ?_) (fun h => ev_val (bool_not hb fun e => h (by rw [e])).symm)
  have hlen : xs.length = ys.length := by omega
  refine ev_same xs ys hlen (fun k i => laws_eqIntS.l0 k xs ys (i : Int)) hb ?_ ?_ ?_
  · intro i hi hi' he hn
    refine Ev.step (fun k => by simp only [laws_eqIntS.l0]; rfl) ?_
    simp only [if_pos (show (i : Int) < (xs.length : Int) by omega), if_pos (show 0 ≤ (i : Int) by omega), if_pos (show (i : Int) < (ys.length : Int) by omega), at_nat hi, at_nat hi', if_pos he]
    rw [wrap_succ hi (by omega)]
    exact hn
  · intro i hi hi' he
    refine Ev.step (fun k => by simp only [laws_eqIntS.l0]; rfl) ?_
    simp only [if_pos (show (i : Int) < (xs.length : Int) by omega), if_pos (show 0 ≤ (i : Int) by omega), if_pos (show (i : Int) < (ys.length : Int) by omega), at_nat hi, at_nat hi', if_neg he]
    exact ev_val rfl
  · refine Ev.step (fun k => by simp only [laws_eqIntS.l0]; rfl) ?_
    simp only [if_neg (show ¬ (xs.length : Int) < (xs.length : Int) by omega)]
    exact ev_val rfl
def markedInt (m : Nat) (a : Int) : List Int := (List.range m).map fun (i : Nat) => (a + (i : Int))
theorem markedInt_length (m : Nat) (a : Int) : (markedInt m a).length = m := by simp [markedInt]
theorem marked_set (i : Nat) (a : Int) (xs : List Int) (hi : i < xs.length) : (markedInt i a ++ xs.drop i).set i ((a + (i : Int))) = markedInt (i + 1) a ++ xs.drop (i + 1) := by
  have hl : (markedInt i a).length = i := by simp [markedInt]
  rw [List.set_append_right _ _ (by omega), hl, Nat.sub_self, List.drop_eq_getElem_cons hi, List.set_cons_zero]
  simp [markedInt, List.range_succ]
theorem ev_laws_markIntS (xs : List Int) (hl : xs.length ≤ 4194304) (a : Int) (h0 : 0 ≤ a) (h1 : a ≤ 1152921504606846976) : Ev (fun k => laws_markIntS.f k xs a) (a + (xs.length : Int), markedInt xs.length a) := by
  unfold laws_markIntS.f
  have hlen : ∀ i, i < xs.length → (markedInt i a ++ xs.drop i).length = xs.length := by
    intro i hi
    simp [markedInt]
    omega
  have key := ev_fold (fun k i => laws_markIntS.l0 k (markedInt i a ++ xs.drop i) (a + (i : Int)) (i : Int)) xs.length (r := (a + (xs.length : Int), markedInt xs.length a)) ?_ ?_
  · have e : a + 0 = a := by omega
    simpa [markedInt] using key
  · intro i hi hn
    refine Ev.step (fun k => by simp only [laws_markIntS.l0]; rfl) ?_
    simp only [if_pos (show (i : Int) < ((markedInt i a ++ xs.drop i).length : Int) by rw [hlen i hi]; omega), if_pos (show 0 ≤ (i : Int) by omega), Int.toNat_natCast]
    rw [marked_set i a xs hi, wrap_succ hi (by omega), wrap_id (by omega) (by omega), show a + (i : Int) + 1 = a + ((i + 1 : Nat) : Int) by omega]
    exact hn
  · refine Ev.step (fun k => by simp only [laws_markIntS.l0]; rfl) ?_
    have e : markedInt xs.length a ++ xs.drop xs.length = markedInt xs.length a := by simp
    rw [e]
    simp only [markedInt_length, if_neg (show ¬ (xs.length : Int) < (xs.length : Int) by omega)]
    exact ev_val rfl
def mkLink (a : Int) (i : Nat) : S52 := ⟨a + 4 * (i : Int), a + 4 * (i : Int) + 1, a + 4 * (i : Int) + 2, a + 4 * (i : Int) + 3⟩
def markedLink (m : Nat) (a : Int) : List S52 := (List.range m).map fun (i : Nat) => mkLink a i
theorem markedLink_length (m : Nat) (a : Int) : (markedLink m a).length = m := by simp [markedLink]
theorem marked_setLink (i : Nat) (a : Int) (xs : List S52) (hi : i < xs.length) : (markedLink i a ++ xs.drop i).set i (mkLink a i) = markedLink (i + 1) a ++ xs.drop (i + 1) := by
  have hl : (markedLink i a).length = i := by simp [markedLink]
  rw [List.set_append_right _ _ (by omega), hl, Nat.sub_self, List.drop_eq_getElem_cons hi, List.set_cons_zero]
  simp [markedLink, List.range_succ]
theorem ev_laws_markLinkS (xs : List S52) (hl : xs.length ≤ 4194304) (a : Int) (h0 : 0 ≤ a) (h1 : a ≤ 1152921504606846976) : Ev (fun k => laws_markLinkS.f k xs a) (a + 4 * (xs.length : Int), markedLink xs.length a) := by
  unfold laws_markLinkS.f
  have hlen : ∀ i, i < xs.length → (markedLink i a ++ xs.drop i).length = xs.length := by
    intro i hi
    simp [markedLink]
    omega
  have key := ev_fold (fun k i => laws_markLinkS.l0 k (markedLink i a ++ xs.drop i) (a + 4 * (i : Int)) (i : Int)) xs.length (r := (a + 4 * (xs.length : Int), markedLink xs.length a)) ?_ ?_
  · have e : a + 4 * 0 = a := by omega
    simpa [markedLink] using key
  · intro i hi hn
    refine Ev.step (fun k => by simp only [laws_markLinkS.l0]; rfl) ?_
    have hlt : i < (markedLink i a ++ xs.drop i).length := by rw [hlen i hi]; omega
    simp only [if_pos (show (i : Int) < ((markedLink i a ++ xs.drop i).length : Int) by omega), if_pos (show 0 ≤ (i : Int) by omega), Int.toNat_natCast]
    rw [wrap_id (x := a + 4 * (i : Int) + 1) (by omega) (by omega)]
    rw [wrap_id (x := a + 4 * (i : Int) + 1 + 1) (by omega) (by omega), show a + 4 * (i : Int) + 1 + 1 = a + 4 * (i : Int) + 2 by omega]
    rw [wrap_id (x := a + 4 * (i : Int) + 2 + 1) (by omega) (by omega), show a + 4 * (i : Int) + 2 + 1 = a + 4 * (i : Int) + 3 by omega]
    rw [wrap_id (x := a + 4 * (i : Int) + 3 + 1) (by omega) (by omega)]
    rw [wrap_succ hi (by omega)]
    have e := marked_setLink i a xs hi
    unfold mkLink at e
    rw [e, show a + 4 * (i : Int) + 3 + 1 = a + 4 * ((i + 1 : Nat) : Int) by omega]
    exact hn
  · refine Ev.step (fun k => by simp only [laws_markLinkS.l0]; rfl) ?_
    have e : markedLink xs.length a ++ xs.drop xs.length = markedLink xs.length a := by simp
    rw [e]
    simp only [markedLink_length, if_neg (show ¬ (xs.length : Int) < (xs.length : Int) by omega)]
    exact ev_val rfl
theorem ev_laws_markWork (x : S29) (hp : x.f0.length ≤ 4194304) (hl : x.f1.length ≤ 4194304) (a : Int) (h0 : 0 ≤ a) (h1 : a ≤ 1048576) : Ev (fun k => laws_markWork.f k x a) (a + (x.f0.length : Int) + 4 * (x.f1.length : Int), markedInt x.f0.length a, markedLink x.f1.length (a + (x.f0.length : Int))) := by
  unfold laws_markWork.f
  refine Ev.bind (ev_laws_markIntS x.f0 hp a h0 (by omega)) ?_
  refine Ev.bind (ev_laws_markLinkS x.f1 hl (a + (x.f0.length : Int)) (by omega) (by omega)) ?_
  exact ev_val rfl
theorem ev_laws_heldIntS (m : Nat) (hl : m ≤ 4194304) (a : Int) (h0 : 0 ≤ a) (h1 : a ≤ 1152921504606846976) : Ev (fun k => laws_heldIntS.f k (markedInt m a) a) (a + (m : Int)) := by
  unfold laws_heldIntS.f
  have e : ∀ i (hi : i < m), (markedInt m a)[i]'(by rw [markedInt_length]; exact hi) = (a + (i : Int)) := by
    intro i hi
    simp [markedInt]
  have key := ev_fold (fun k i => laws_heldIntS.l0 k (markedInt m a) (a + (i : Int)) (i : Int)) m (r := a + (m : Int)) ?_ ?_
  · simpa using key
  · intro i hi hn
    refine Ev.step (fun k => by simp only [laws_heldIntS.l0]; rfl) ?_
    simp only [if_pos (show (i : Int) < ((markedInt m a).length : Int) by rw [markedInt_length]; omega), if_pos (show 0 ≤ (i : Int) by omega), at_nat (show i < (markedInt m a).length by rw [markedInt_length]; exact hi), e i hi, if_true]
    rw [wrap_succ hi (by omega), wrap_id (by omega) (by omega), show a + (i : Int) + 1 = a + ((i + 1 : Nat) : Int) by omega]
    exact hn
  · refine Ev.step (fun k => by simp only [laws_heldIntS.l0]; rfl) ?_
    simp only [markedInt_length, if_neg (show ¬ (m : Int) < (m : Int) by omega)]
    exact ev_val rfl
theorem eq_impl_between (a b c : Int) : impl_between.f a b c = some (decide (b ≤ a ∧ a ≤ c)) := by
  unfold impl_between.f
  by_cases h : a ≥ b
  · rw [if_pos h]; simp [show b ≤ a from h]
  · rw [if_neg h]; simp [show ¬ b ≤ a from h]
theorem eq_spec_l01In (a b c : Int) : spec_l01In.f a b c = some (decide (b ≤ a ∧ a ≤ c)) := by
  unfold spec_l01In.f
  by_cases h : b ≤ a
  · rw [if_pos h]; simp [h]
  · rw [if_neg h]; simp [h]
theorem eq_impl_isMinute (a : Int) : impl_isMinute.f a = some (decide (0 ≤ a ∧ a ≤ 100000)) := by
  unfold impl_isMinute.f
  rw [eq_impl_between]
  rfl
def LinkP (plan : List Int) (x : S52) : Prop := 0 ≤ x.f0 ∧ x.f0 < x.f1 ∧ x.f1 < plan.length ∧ 0 ≤ x.f2 ∧ x.f2 ≤ 1000 ∧ 0 ≤ x.f3 ∧ x.f3 ≤ 1 ∧ at_ plan x.f0 + x.f2 ≤ at_ plan x.f1
def WorkP (w : S29) : Prop :=
  ((w.f0.length : Int) ≤ 60 ∧ (w.f1.length : Int) ≤ 150 ∧ 0 ≤ w.f2 ∧ w.f2 ≤ 60) ∧ (∀ i, i < w.f0.length → 0 ≤ at_ w.f0 (i : Int) ∧ at_ w.f0 (i : Int) ≤ 100000) ∧ ∀ i, i < w.f1.length → LinkP w.f0 (at_ w.f1 (i : Int))
theorem at_bd (plan : List Int) (h : ∀ i, i < plan.length → 0 ≤ at_ plan (i : Int) ∧ at_ plan (i : Int) ≤ 100000) (a : Int) (h0 : 0 ≤ a) (h1 : a < plan.length) : 0 ≤ at_ plan a ∧ at_ plan a ≤ 100000 := by
  have := h a.toNat (by omega)
  rw [show ((a.toNat : Nat) : Int) = a by omega] at this
  exact this
theorem ev_impl_WorkOk (w : S29) (b : Bool) (hb : b = true ↔ WorkP w) : Ev (fun k => impl_WorkOk.f k w) b := by
  classical
  unfold impl_WorkOk.f
  have bad : ¬ ((w.f0.length : Int) ≤ 60 ∧ (w.f1.length : Int) ≤ 150 ∧ 0 ≤ w.f2 ∧ w.f2 ≤ 60) → Ev (fun k => some false) b := fun h => ev_val (bool_not hb fun e => h e.1).symm
  refine Ev.ite (fun h => bad (by omega)) (fun h1 => ?_)
  refine Ev.ite (fun h => bad (by omega)) (fun h2 => ?_)
  simp only [eq_impl_between, Option.bind_some, decide_eq_true_eq]
  refine Ev.ite (fun h3 => ?_) (fun h3 => bad (by omega))
  have hb' : b = true ↔ (∀ i, i < w.f0.length → 0 ≤ at_ w.f0 (i : Int) ∧ at_ w.f0 (i : Int) ≤ 100000) ∧ ∀ i, i < w.f1.length → LinkP w.f0 (at_ w.f1 (i : Int)) :=
    hb.trans ⟨fun h => h.2, fun h => ⟨⟨by omega, by omega, h3.1, h3.2⟩, h⟩⟩
  refine ev_allI w.f0.length (fun i => 0 ≤ at_ w.f0 (i : Int) ∧ at_ w.f0 (i : Int) ≤ 100000) (fun k i => impl_WorkOk.l0 k w (i : Int)) _ hb' ?_ ?_ ?_
  · intro i hi hp hn
    refine Ev.step (fun k => by simp only [impl_WorkOk.l0]; rfl) ?_
    simp only [if_pos (show (i : Int) < (w.f0.length : Int) by omega), if_pos (show 0 ≤ (i : Int) by omega), eq_impl_isMinute, Option.bind_some, decide_eq_true hp, if_true]
    rw [wrap_succ hi (by omega)]
    exact hn
  · intro i hi hp
    refine Ev.step (fun k => by simp only [impl_WorkOk.l0]; rfl) ?_
    simp only [if_pos (show (i : Int) < (w.f0.length : Int) by omega), if_pos (show 0 ≤ (i : Int) by omega), eq_impl_isMinute, Option.bind_some, decide_eq_false hp, Bool.false_eq_true, if_false]
    exact ev_val rfl
  · intro hplan hq
    refine Ev.step (fun k => by simp only [impl_WorkOk.l0]; rfl) ?_
    simp only [if_neg (show ¬ (w.f0.length : Int) < (w.f0.length : Int) by omega)]
    refine ev_allI w.f1.length (fun i => LinkP w.f0 (at_ w.f1 (i : Int))) (fun k i => impl_WorkOk.l1 k w (i : Int)) True (hq.trans (by simp)) ?_ ?_ ?_
    · intro i hi hp hn
      refine Ev.step (fun k => by simp only [impl_WorkOk.l1]; rfl) ?_
      unfold LinkP at hp
      have hx0 := at_bd w.f0 hplan (at_ w.f1 (i : Int)).f0 (by omega) (by omega)
      have hx1 := at_bd w.f0 hplan (at_ w.f1 (i : Int)).f1 (by omega) (by omega)
      simp only [eq_impl_between, Option.bind_some, decide_eq_true_eq]
      rw [wrap_id (x := at_ w.f0 (at_ w.f1 (i : Int)).f1 - at_ w.f0 (at_ w.f1 (i : Int)).f0) (by omega) (by omega), wrap_succ hi (by omega)]
      repeat' first
        | exact hn
        | refine Ev.ite (fun _ => ?_) (fun _ => ?_)
        | (exfalso; omega)
    · intro i hi hp
      refine Ev.step (fun k => by simp only [impl_WorkOk.l1]; rfl) ?_
      unfold LinkP at hp
      simp only [eq_impl_between, Option.bind_some, decide_eq_true_eq]
      refine Ev.ite (fun _ => ?_) (fun _ => (by exfalso; omega))
      refine Ev.ite (fun _ => ?_) (fun _ => (by exfalso; omega))
      repeat' first
        | exact ev_val rfl
        | refine Ev.ite (fun _ => ?_) (fun _ => ?_)
        | (exfalso; omega)
      all_goals
        have hx0 := at_bd w.f0 hplan (at_ w.f1 (i : Int)).f0 (by omega) (by omega)
        have hx1 := at_bd w.f0 hplan (at_ w.f1 (i : Int)).f1 (by omega) (by omega)
        rename_i hw
        rw [wrap_id (x := at_ w.f0 (at_ w.f1 (i : Int)).f1 - at_ w.f0 (at_ w.f1 (i : Int)).f0) (by omega) (by omega)] at hw
        exfalso; omega
    · intro _ hq2
      refine Ev.step (fun k => by simp only [impl_WorkOk.l1]; rfl) ?_
      simp only [if_neg (show ¬ (w.f1.length : Int) < (w.f1.length : Int) by omega)]
      exact ev_val (hq2.2 trivial).symm
theorem ev_spec_WorkOk (w : S29) (b : Bool) (hb : b = true ↔ WorkP w) : Ev (fun k => spec_WorkOk.f k w) b := by
  classical
  unfold spec_WorkOk.f
  have bad : ¬ ((w.f0.length : Int) ≤ 60 ∧ (w.f1.length : Int) ≤ 150 ∧ 0 ≤ w.f2 ∧ w.f2 ≤ 60) → Ev (fun k => some false) b := fun h => ev_val (bool_not hb fun e => h e.1).symm
  refine Ev.ite (fun h => bad (by omega)) (fun h1 => ?_)
  refine Ev.ite (fun h => bad (by omega)) (fun h2 => ?_)
  simp only [eq_spec_l01In, Option.bind_some, decide_eq_true_eq]
  refine Ev.ite (fun h3 => ?_) (fun h3 => bad (by omega))
  have hb' : b = true ↔ (∀ i, i < w.f0.length → 0 ≤ at_ w.f0 (i : Int) ∧ at_ w.f0 (i : Int) ≤ 100000) ∧ ∀ i, i < w.f1.length → LinkP w.f0 (at_ w.f1 (i : Int)) :=
    hb.trans ⟨fun h => h.2, fun h => ⟨⟨by omega, by omega, h3.1, h3.2⟩, h⟩⟩
  refine ev_allI w.f0.length (fun i => 0 ≤ at_ w.f0 (i : Int) ∧ at_ w.f0 (i : Int) ≤ 100000) (fun k i => spec_WorkOk.l0 k w (i : Int)) _ hb' ?_ ?_ ?_
  · intro i hi hp hn
    refine Ev.step (fun k => by simp only [spec_WorkOk.l0]; rfl) ?_
    simp only [if_pos (show (i : Int) < (w.f0.length : Int) by omega), if_pos (show 0 ≤ (i : Int) by omega), eq_spec_l01In, Option.bind_some, decide_eq_true hp, if_true]
    rw [wrap_succ hi (by omega)]
    exact hn
  · intro i hi hp
    refine Ev.step (fun k => by simp only [spec_WorkOk.l0]; rfl) ?_
    simp only [if_pos (show (i : Int) < (w.f0.length : Int) by omega), if_pos (show 0 ≤ (i : Int) by omega), eq_spec_l01In, Option.bind_some, decide_eq_false hp, Bool.false_eq_true, if_false]
    exact ev_val rfl
  · intro hplan hq
    refine Ev.step (fun k => by simp only [spec_WorkOk.l0]; rfl) ?_
    simp only [if_neg (show ¬ (w.f0.length : Int) < (w.f0.length : Int) by omega)]
    refine ev_allI w.f1.length (fun i => LinkP w.f0 (at_ w.f1 (i : Int))) (fun k i => spec_WorkOk.l1 k w (i : Int)) True (hq.trans (by simp)) ?_ ?_ ?_
    · intro i hi hp hn
      refine Ev.step (fun k => by simp only [spec_WorkOk.l1]; rfl) ?_
      unfold LinkP at hp
      have hx0 := at_bd w.f0 hplan (at_ w.f1 (i : Int)).f0 (by omega) (by omega)
      have hx1 := at_bd w.f0 hplan (at_ w.f1 (i : Int)).f1 (by omega) (by omega)
      simp only [eq_spec_l01In, Option.bind_some, decide_eq_true_eq]
      rw [wrap_id (x := (w.f0.length : Int) - 1) (by omega) (by omega), wrap_id (x := (at_ w.f1 (i : Int)).f1 - 1) (by omega) (by omega), wrap_id (x := at_ w.f0 (at_ w.f1 (i : Int)).f0 + (at_ w.f1 (i : Int)).f2) (by omega) (by omega), wrap_succ hi (by omega)]
      repeat' first
        | exact hn
        | refine Ev.ite (fun _ => ?_) (fun _ => ?_)
        | (exfalso; omega)
    · intro i hi hp
      refine Ev.step (fun k => by simp only [spec_WorkOk.l1]; rfl) ?_
      unfold LinkP at hp
      simp only [eq_spec_l01In, Option.bind_some, decide_eq_true_eq]
      rw [wrap_id (x := (w.f0.length : Int) - 1) (by omega) (by omega)]
      refine Ev.ite (fun _ => ?_) (fun _ => (by exfalso; omega))
      refine Ev.ite (fun _ => ?_) (fun _ => (by exfalso; omega))
      refine Ev.ite (fun g1 => ?_) (fun _ => ev_val rfl)
      rw [wrap_id (x := (at_ w.f1 (i : Int)).f1 - 1) (by omega) (by omega)]
      refine Ev.ite (fun g2 => ?_) (fun _ => ev_val rfl)
      have hx0 := at_bd w.f0 hplan (at_ w.f1 (i : Int)).f0 (by omega) (by omega)
      have hx1 := at_bd w.f0 hplan (at_ w.f1 (i : Int)).f1 (by omega) (by omega)
      refine Ev.ite (fun g3 => ?_) (fun _ => ev_val rfl)
      rw [wrap_id (x := at_ w.f0 (at_ w.f1 (i : Int)).f0 + (at_ w.f1 (i : Int)).f2) (by omega) (by omega)]
      repeat' first
        | exact ev_val rfl
        | refine Ev.ite (fun _ => ?_) (fun _ => ?_)
        | (exfalso; omega)
    · intro _ hq2
      refine Ev.step (fun k => by simp only [spec_WorkOk.l1]; rfl) ?_
      simp only [if_neg (show ¬ (w.f1.length : Int) < (w.f1.length : Int) by omega)]
      exact ev_val (hq2.2 trivial).symm
def LateP (w : S29) (late : List Int) : Prop := late.length = w.f0.length ∧ ∀ i, i < late.length → 0 ≤ at_ late (i : Int) ∧ at_ late (i : Int) ≤ 10000
theorem ev_spec_l11Late (w : S29) (late : List Int) (hl : late.length ≤ 4611686018427387904) (b : Bool) (hb : b = true ↔ LateP w late) : Ev (fun k => spec_l11Late.f k w late) b := by
  classical
  unfold spec_l11Late.f
  refine Ev.ite (fun h => ?_) (fun h => ev_val (bool_not hb fun e => h (by rw [e.1])).symm)
  refine ev_allI late.length (fun i => 0 ≤ at_ late (i : Int) ∧ at_ late (i : Int) ≤ 10000) (fun k i => spec_l11Late.l0 k late (i : Int)) True (hb.trans ⟨fun e => ⟨e.2, trivial⟩, fun e => ⟨by omega, e.1⟩⟩) ?_ ?_ ?_
  · intro i hi hp hn
    refine Ev.step (fun k => by simp only [spec_l11Late.l0]; rfl) ?_
    simp only [if_pos (show (i : Int) < (late.length : Int) by omega), if_pos (show 0 ≤ (i : Int) by omega), eq_spec_l01In, Option.bind_some, decide_eq_true hp, if_true]
    rw [wrap_succ hi (by omega)]
    exact hn
  · intro i hi hp
    refine Ev.step (fun k => by simp only [spec_l11Late.l0]; rfl) ?_
    simp only [if_pos (show (i : Int) < (late.length : Int) by omega), if_pos (show 0 ≤ (i : Int) by omega), eq_spec_l01In, Option.bind_some, decide_eq_false hp, Bool.false_eq_true, if_false]
    exact ev_val rfl
  · intro _ hq2
    refine Ev.step (fun k => by simp only [spec_l11Late.l0]; rfl) ?_
    simp only [if_neg (show ¬ (late.length : Int) < (late.length : Int) by omega)]
    exact ev_val (hq2.2 trivial).symm
theorem ev_impl_playable (w : S29) (late : List Int) (hl : late.length ≤ 4611686018427387904) (b : Bool) (hb : b = true ↔ WorkP w ∧ LateP w late) : Ev (fun k => impl_playable.f k w late) b := by
  classical
  unfold impl_playable.f
  refine Ev.bind (ev_impl_WorkOk w (decide (WorkP w)) decide_eq_true_iff) ?_
  refine Ev.ite (fun h => ?_) (fun h => ev_val (bool_not hb fun e => h (decide_eq_true e.1)).symm)
  have hw := of_decide_eq_true h
  refine Ev.ite (fun h => ?_) (fun h => ev_val (bool_not hb fun e => h (by rw [e.2.1])).symm)
  refine ev_allI late.length (fun i => 0 ≤ at_ late (i : Int) ∧ at_ late (i : Int) ≤ 10000) (fun k i => impl_playable.l0 k late (i : Int)) True (hb.trans ⟨fun e => ⟨e.2.2, trivial⟩, fun e => ⟨hw, by omega, e.1⟩⟩) ?_ ?_ ?_
  · intro i hi hp hn
    refine Ev.step (fun k => by simp only [impl_playable.l0]; rfl) ?_
    simp only [if_pos (show (i : Int) < (late.length : Int) by omega), if_pos (show 0 ≤ (i : Int) by omega), eq_impl_between, Option.bind_some, decide_eq_true hp, if_true]
    rw [wrap_succ hi (by omega)]
    exact hn
  · intro i hi hp
    refine Ev.step (fun k => by simp only [impl_playable.l0]; rfl) ?_
    simp only [if_pos (show (i : Int) < (late.length : Int) by omega), if_pos (show 0 ≤ (i : Int) by omega), eq_impl_between, Option.bind_some, decide_eq_false hp, Bool.false_eq_true, if_false]
    exact ev_val rfl
  · intro _ hq2
    refine Ev.step (fun k => by simp only [impl_playable.l0]; rfl) ?_
    simp only [if_neg (show ¬ (late.length : Int) < (late.length : Int) by omega)]
    exact ev_val (hq2.2 trivial).symm
theorem eq_laws_eqLink (x : S52) : laws_eqLink.f x x = some true := by
  unfold laws_eqLink.f
  simp
theorem ev_laws_eqLinkS_same (xs : List S52) (hl : xs.length ≤ 1048576) : Ev (fun k => laws_eqLinkS.f k xs xs) true := by
  unfold laws_eqLinkS.f
  simp only [if_true]
  refine ev_fold (fun k i => laws_eqLinkS.l0 k xs xs (i : Int)) xs.length ?_ ?_
  · intro i hi hn
    refine Ev.step (fun k => by simp only [laws_eqLinkS.l0]; rfl) ?_
    simp only [if_pos (show (i : Int) < (xs.length : Int) by omega), if_pos (show 0 ≤ (i : Int) by omega), eq_laws_eqLink, Option.bind_some, if_true]
    rw [wrap_succ hi (by omega)]
    exact hn
  · refine Ev.step (fun k => by simp only [laws_eqLinkS.l0]; rfl) ?_
    simp only [if_neg (show ¬ (xs.length : Int) < (xs.length : Int) by omega)]
    exact ev_val rfl
theorem ev_laws_eqWork_same (w : S29) (hp : w.f0.length ≤ 1048576) (hl : w.f1.length ≤ 1048576) : Ev (fun k => laws_eqWork.f k w w) true := by
  unfold laws_eqWork.f
  refine Ev.bind (ev_laws_eqIntS w.f0 w.f0 (by omega) true (by simp)) ?_
  simp only [if_true]
  refine Ev.bind (ev_laws_eqLinkS_same w.f1 hl) ?_
  simp only [if_true]
  exact ev_val rfl
/-- A list of m marks, by place. -/
def kl (m : Nat) (f : Nat → Bool) : List Bool := (List.range m).map f
theorem kl_length (m : Nat) (f : Nat → Bool) : (kl m f).length = m := by simp [kl]
theorem kl_congr {m : Nat} {f g : Nat → Bool} (h : ∀ j, j < m → f j = g j) : kl m f = kl m g :=
  List.map_congr_left fun j hj => h j (List.mem_range.1 hj)
theorem kl_set (m : Nat) (f : Nat → Bool) (i : Nat) (b : Bool) : (kl m f).set i b = kl m (fun j => if j = i then b else f j) := by
  refine List.ext_getElem (by simp [kl]) fun j h1 h2 => ?_
  simp only [kl, List.getElem_set, List.getElem_map, List.getElem_range]
  by_cases e : i = j
  · rw [if_pos e, if_pos e.symm]
  · rw [if_neg e, if_neg (fun g => e g.symm)]
theorem kl_const (m : Nat) (b : Bool) : List.replicate m b = kl m (fun _ => b) := by simp [kl, List.map_const']
theorem rdOf_kl (m : Nat) (f : Nat → Bool) (i : Nat) (h : i < m) : at_ (kl m f) (i : Int) = f i := by
  have h' : i < (kl m f).length := by rw [kl_length]; exact h
  have e : at_ (kl m f) (i : Int) = (kl m f)[i] := getD_nat _ h'
  rw [e]
  simp [kl]
def lk (links : List S52) (j : Nat) : S52 := at_ links (j : Int)
def readyT (ts : List Int) (x : S52) : Int := at_ ts x.f0 + x.f2
/-- An event's minute by what must be waited for, of the first i links. -/
def baseF (plan : List Int) (links : List S52) (ts : List Int) (e : Nat) : Nat → Int
  | 0 => at_ plan (e : Int)
  | i + 1 => if (lk links i).f1 = (e : Int) ∧ (lk links i).f3 = 0 then mx (baseF plan links ts e i) (readyT ts (lk links i)) else baseF plan links ts e i
/-- .. and by what is waited for. -/
def timeF (links : List S52) (ts : List Int) (wait base : Int) (e : Nat) : Nat → Int
  | 0 => base
  | i + 1 => if (lk links i).f1 = (e : Int) ∧ (lk links i).f3 = 1 ∧ readyT ts (lk links i) ≤ base + wait then mx (timeF links ts wait base e i) (readyT ts (lk links i)) else timeF links ts wait base e i
def timesTo (plan : List Int) (links : List S52) (wait : Int) (late : List Int) : Nat → List Int
  | 0 => []
  | e + 1 => timesTo plan links wait late e ++ [timeF links (timesTo plan links wait late e) wait (baseF plan links (timesTo plan links wait late e) e links.length) e links.length + at_ late (e : Int)]
theorem timesTo_succ (plan : List Int) (links : List S52) (wait : Int) (late : List Int) (e : Nat) : timesTo plan links wait late (e + 1) = timesTo plan links wait late e ++ [timeF links (timesTo plan links wait late e) wait (baseF plan links (timesTo plan links wait late e) e links.length) e links.length + at_ late (e : Int)] := rfl
theorem timesTo_length (plan : List Int) (links : List S52) (wait : Int) (late : List Int) : ∀ e, (timesTo plan links wait late e).length = e
  | 0 => rfl
  | e + 1 => by rw [timesTo, List.length_append, timesTo_length plan links wait late e]; rfl
theorem rd_app_left (a b : List Int) (i : Int) (h0 : 0 ≤ i) (h : i < a.length) : at_ (a ++ b) i = at_ a i := by
  unfold at_
  rw [List.getD_eq_getElem?_getD, List.getD_eq_getElem?_getD, List.getElem?_append_left (by omega)]
theorem rd_app_right (a b : List Int) (i : Int) (h : (a.length : Int) ≤ i) : at_ (a ++ b) i = at_ b (i - a.length) := by
  unfold at_
  rw [List.getD_eq_getElem?_getD, List.getD_eq_getElem?_getD, List.getElem?_append_right (by omega)]
  congr 2
  omega
/-- A connection is kept: by the times at its end. -/
def keptQ (plan : List Int) (links : List S52) (wait : Int) (late : List Int) (j : Nat) : Prop :=
  readyT (timesTo plan links wait late (lk links j).f1.toNat) (lk links j) ≤ baseF plan links (timesTo plan links wait late (lk links j).f1.toNat) (lk links j).f1.toNat links.length + wait
/-- The times, and which links are kept. -/
noncomputable def playOf (plan : List Int) (links : List S52) (wait : Int) (late : List Int) : List Int × List Bool :=
  open Classical in (timesTo plan links wait late plan.length, kl links.length (fun j => decide ((lk links j).f3 = 0 ∨ keptQ plan links wait late j)))
section
variable {plan late : List Int} {links : List S52} {wait : Int}
theorem lk_ok (hw : WorkP ⟨plan, links, wait⟩) (j : Nat) (h : j < links.length) : LinkP plan (lk links j) := hw.2.2 j h
theorem mx_bd {a b lo hi : Int} (h1 : lo ≤ a) (h2 : a ≤ hi) (h4 : b ≤ hi) : lo ≤ mx a b ∧ mx a b ≤ hi := by
  unfold mx
  split <;> omega
theorem baseF_bd (hw : WorkP ⟨plan, links, wait⟩) (ts : List Int) (e : Nat) (B : Int) (he : e < plan.length) (hB : 100000 ≤ B) (ht : ∀ i : Int, 0 ≤ i → i < e → at_ ts i + 1000 ≤ B) : ∀ i, i ≤ links.length → 0 ≤ baseF plan links ts e i ∧ baseF plan links ts e i ≤ B
  | 0, _ => by
    have : 0 ≤ at_ plan (e : Int) ∧ at_ plan (e : Int) ≤ 100000 := hw.2.1 e he
    unfold baseF
    omega
  | i + 1, hi => by
    have ih := baseF_bd hw ts e B he hB ht i (by omega)
    have hp := lk_ok hw i (by omega)
    unfold LinkP at hp
    unfold baseF
    split
    · have := ht (lk links i).f0 (by omega) (by omega)
      exact mx_bd ih.1 ih.2 (by unfold readyT; omega)
    · exact ih
theorem timeF_bd (hw : WorkP ⟨plan, links, wait⟩) (ts : List Int) (base : Int) (e : Nat) (B : Int) (hb0 : 0 ≤ base) (hb : base ≤ B) (ht : ∀ i : Int, 0 ≤ i → i < e → at_ ts i + 1000 ≤ B) : ∀ i, i ≤ links.length → 0 ≤ timeF links ts wait base e i ∧ timeF links ts wait base e i ≤ B
  | 0, _ => by unfold timeF; omega
  | i + 1, hi => by
    have ih := timeF_bd hw ts base e B hb0 hb ht i (by omega)
    have hp := lk_ok hw i (by omega)
    unfold LinkP at hp
    unfold timeF
    split
    · have := ht (lk links i).f0 (by omega) (by omega)
      exact mx_bd ih.1 ih.2 (by unfold readyT; omega)
    · exact ih
theorem timesTo_bd (hw : WorkP ⟨plan, links, wait⟩) (hl : LateP ⟨plan, links, wait⟩ late) : ∀ e, e ≤ plan.length → ∀ i : Int, 0 ≤ i → i < e → 0 ≤ at_ (timesTo plan links wait late e) i ∧ at_ (timesTo plan links wait late e) i ≤ 100000 + 11000 * (e : Int)
  | 0, _ => fun i h0 h1 => by omega
  | e + 1, he => fun i h0 h1 => by
    have ih := timesTo_bd hw hl e (by omega)
    have hlen := timesTo_length plan links wait late e
    unfold timesTo
    by_cases hi : i < e
    · rw [rd_app_left _ _ i h0 (by omega)]
      have := ih i h0 hi
      omega
    · rw [rd_app_right _ _ i (by omega)]
      have e1 : i - ((timesTo plan links wait late e).length : Int) = 0 := by omega
      rw [e1]
      have ht : ∀ i : Int, 0 ≤ i → i < e → at_ (timesTo plan links wait late e) i + 1000 ≤ 101000 + 11000 * (e : Int) := fun i a b => by have := ih i a b; omega
      have hb := baseF_bd hw (timesTo plan links wait late e) e (101000 + 11000 * (e : Int)) (by omega) (by omega) ht links.length (Nat.le_refl _)
      have hT := timeF_bd hw (timesTo plan links wait late e) _ e (101000 + 11000 * (e : Int)) hb.1 hb.2 ht links.length (Nat.le_refl _)
      have hle : late.length = plan.length := hl.1
      have hlt := hl.2 e (by omega)
      show 0 ≤ timeF links _ wait _ e links.length + at_ late (e : Int) ∧ _
      have : at_ [timeF links (timesTo plan links wait late e) wait (baseF plan links (timesTo plan links wait late e) e links.length) e links.length + at_ late (e : Int)] 0 = timeF links (timesTo plan links wait late e) wait (baseF plan links (timesTo plan links wait late e) e links.length) e links.length + at_ late (e : Int) := rfl
      rw [this]
      omega
end
section
open Classical
variable {plan late : List Int} {links : List S52} {wait : Int}
/-- Which links are told as kept when the events below e are played. -/
noncomputable def keptE (plan : List Int) (links : List S52) (wait : Int) (late : List Int) (e j : Nat) : Bool := decide ((lk links j).f1 < (e : Int) ∧ ((lk links j).f3 = 0 ∨ keptQ plan links wait late j))
theorem ev_impl_work (hw : WorkP ⟨plan, links, wait⟩) (hl : LateP ⟨plan, links, wait⟩ late) : Ev (fun k => impl_work.f k ⟨plan, links, wait⟩ late) (playOf plan links wait late) := by
  obtain ⟨⟨w1, w2, w3, w4⟩, w5, w6⟩ := hw
  dsimp only at w1 w2 w3 w4 w5 w6
  have hw : WorkP ⟨plan, links, wait⟩ := ⟨⟨w1, w2, w3, w4⟩, w5, w6⟩
  unfold impl_work.f
  simp only [if_pos (show 0 ≤ (plan.length : Int) by omega), Int.toNat_natCast, if_pos (show (plan.length : Int) * 8 ≤ 281474976710656 by omega), if_pos (show 0 ≤ (links.length : Int) by omega), if_pos (show (links.length : Int) * 1 ≤ 281474976710656 by omega)]
  have key := ev_fold (fun k e => impl_work.l0 k ⟨plan, links, wait⟩ late (timesTo plan links wait late e ++ List.replicate (plan.length - e) 0) (kl links.length (keptE plan links wait late e)) (e : Int)) plan.length (r := playOf plan links wait late) ?_ ?_
  · have e0 : kl links.length (keptE plan links wait late 0) = List.replicate links.length false := by
      rw [kl_const]
      refine kl_congr fun j hj => ?_
      have := lk_ok hw j hj
      unfold LinkP at this
      exact decide_eq_false (fun g => by omega)
    rw [← e0]
    simpa [timesTo] using key
  · intro e he hn
    refine Ev.step (fun k => by simp only [impl_work.l0]; rfl) ?_
    simp only [if_pos (show (e : Int) < (plan.length : Int) by omega), if_pos (show 0 ≤ (e : Int) by omega)]
    have hbd := timesTo_bd hw hl e (by omega)
    have hlen := timesTo_length plan links wait late e
    have ht : ∀ i : Int, 0 ≤ i → i < e → at_ (timesTo plan links wait late e) i + 1000 ≤ 1000000 := fun i a b => by have := hbd i a b; omega
    have hb := baseF_bd hw (timesTo plan links wait late e) e 1000000 he (by omega) ht
    obtain ⟨T, eT⟩ : ∃ T, T = timesTo plan links wait late e ++ List.replicate (plan.length - e) 0 := ⟨_, rfl⟩
    have hTl : T.length = plan.length := by rw [eT, List.length_append, hlen, List.length_replicate]; omega
    have hTr : ∀ i : Int, 0 ≤ i → i < e → at_ T i = at_ (timesTo plan links wait late e) i := fun i a b => by rw [eT]; exact rd_app_left _ _ i a (by omega)
    rw [← eT]
    -- the links that must be kept
    have k1 := ev_fold (fun k i => impl_work.l1 k ⟨plan, links, wait⟩ late T (e : Int) (kl links.length (fun j => keptE plan links wait late e j || decide (j < i ∧ (lk links j).f1 = (e : Int) ∧ (lk links j).f3 = 0))) (baseF plan links (timesTo plan links wait late e) e i) (i : Int)) links.length (r := playOf plan links wait late) ?_ ?_
    · simpa [baseF] using k1
    · intro i hi hn1
      refine Ev.step (fun k => by simp only [impl_work.l1]; rfl) ?_
      simp only [if_pos (show (i : Int) < (links.length : Int) by omega), if_pos (show 0 ≤ (i : Int) by omega), kl_length]
      rw [wrap_succ hi (by omega)]
      have hp := lk_ok hw i hi
      unfold LinkP at hp
      change Ev (fun k => if (lk links i).f1 = (e : Int) then _ else _) _
      by_cases g1 : (lk links i).f1 = (e : Int)
      · by_cases g2 : (lk links i).f3 = 0
        · refine Ev.ite (fun _ => ?_) (fun g => absurd g1 g)
          refine Ev.ite (fun _ => ?_) (fun g => absurd g2 g)
          refine Ev.ite (fun _ => ?_) (fun g => absurd hp.1 g)
          refine Ev.ite (fun _ => ?_) (fun g => by exfalso; exact g (show (lk links i).f0 < (T.length : Int) by omega))
          have hr := hbd (lk links i).f0 hp.1 (by omega)
          have er : at_ T (at_ links (i : Int)).f0 = at_ (timesTo plan links wait late e) (lk links i).f0 := hTr _ hp.1 (by show (lk links i).f0 < (e : Int); omega)
          rw [er]
          have ew : wrap64 (at_ (timesTo plan links wait late e) (lk links i).f0 + (at_ links (i : Int)).f2) = readyT (timesTo plan links wait late e) (lk links i) := wrap_id (by show _ ≤ _ + (lk links i).f2; omega) (by show _ + (lk links i).f2 < _; omega)
          rw [ew, Int.toNat_natCast, kl_set]
          unfold baseF at hn1
          rw [if_pos ⟨g1, g2⟩] at hn1
          have ek : kl links.length (fun j => if j = i then true else (keptE plan links wait late e j || decide (j < i ∧ (lk links j).f1 = (e : Int) ∧ (lk links j).f3 = 0))) = kl links.length (fun j => keptE plan links wait late e j || decide (j < i + 1 ∧ (lk links j).f1 = (e : Int) ∧ (lk links j).f3 = 0)) := by
            refine kl_congr fun j _ => ?_
            by_cases ej : j = i
            · subst ej
              rw [if_pos rfl, decide_eq_true (show j < j + 1 ∧ (lk links j).f1 = (e : Int) ∧ (lk links j).f3 = 0 from ⟨by omega, g1, g2⟩), Bool.or_true]
            · rw [if_neg ej]
              congr 1
              exact decide_eq_decide.2 ⟨fun g => ⟨by omega, g.2⟩, fun g => ⟨by omega, g.2⟩⟩
          rw [ek]
          exact hn1
        · refine Ev.ite (fun _ => ?_) (fun g => absurd g1 g)
          refine Ev.ite (fun g => absurd g g2) (fun _ => ?_)
          unfold baseF at hn1
          rw [if_neg (fun g => g2 g.2)] at hn1
          have ek : kl links.length (fun j => keptE plan links wait late e j || decide (j < i ∧ (lk links j).f1 = (e : Int) ∧ (lk links j).f3 = 0)) = kl links.length (fun j => keptE plan links wait late e j || decide (j < i + 1 ∧ (lk links j).f1 = (e : Int) ∧ (lk links j).f3 = 0)) := by
            refine kl_congr fun j _ => ?_
            congr 1
            refine decide_eq_decide.2 ⟨fun g => ⟨by omega, g.2⟩, fun g => ⟨?_, g.2⟩⟩
            rcases Nat.lt_or_ge j i with hlt | hge
            · exact hlt
            · obtain rfl : j = i := by omega
              exact absurd g.2.2 g2
          rw [ek]
          exact hn1
      · refine Ev.ite (fun g => absurd g g1) (fun _ => ?_)
        unfold baseF at hn1
        rw [if_neg (fun g => g1 g.1)] at hn1
        have ek : kl links.length (fun j => keptE plan links wait late e j || decide (j < i ∧ (lk links j).f1 = (e : Int) ∧ (lk links j).f3 = 0)) = kl links.length (fun j => keptE plan links wait late e j || decide (j < i + 1 ∧ (lk links j).f1 = (e : Int) ∧ (lk links j).f3 = 0)) := by
          refine kl_congr fun j _ => ?_
          congr 1
          refine decide_eq_decide.2 ⟨fun g => ⟨by omega, g.2⟩, fun g => ⟨?_, g.2⟩⟩
          rcases Nat.lt_or_ge j i with hlt | hge
          · exact hlt
          · obtain rfl : j = i := by omega
            exact absurd g.2.1 g1
        rw [ek]
        exact hn1
    · refine Ev.step (fun k => by simp only [impl_work.l1]; rfl) ?_
      simp only [if_neg (show ¬ (links.length : Int) < (links.length : Int) by omega)]
      have hB := hb links.length (Nat.le_refl _)
      obtain ⟨B, eB⟩ : ∃ B, B = baseF plan links (timesTo plan links wait late e) e links.length := ⟨_, rfl⟩
      rw [← eB] at hB ⊢
      have hT := timeF_bd hw (timesTo plan links wait late e) B e 1000000 hB.1 hB.2 ht
      -- the links that may be missed
      have kq : ∀ j, j < links.length → (lk links j).f1 = (e : Int) → (keptQ plan links wait late j ↔ readyT (timesTo plan links wait late e) (lk links j) ≤ B + wait) := by
        intro j _ g
        unfold keptQ
        rw [g, Int.toNat_natCast, eB]
      have k2 := ev_fold (fun k i => impl_work.l2 k ⟨plan, links, wait⟩ late T (e : Int) B (kl links.length (fun j => keptE plan links wait late e j || decide ((lk links j).f1 = (e : Int) ∧ (lk links j).f3 = 0) || decide (j < i ∧ (lk links j).f1 = (e : Int) ∧ (lk links j).f3 = 1 ∧ keptQ plan links wait late j))) (timeF links (timesTo plan links wait late e) wait B e i) (i : Int)) links.length (r := playOf plan links wait late) ?_ ?_
      · have ek : kl links.length (fun j => keptE plan links wait late e j || decide ((lk links j).f1 = (e : Int) ∧ (lk links j).f3 = 0) || decide (j < 0 ∧ (lk links j).f1 = (e : Int) ∧ (lk links j).f3 = 1 ∧ keptQ plan links wait late j)) = kl links.length (fun j => keptE plan links wait late e j || decide (j < links.length ∧ (lk links j).f1 = (e : Int) ∧ (lk links j).f3 = 0)) := by
          refine kl_congr fun j hj => ?_
          rw [decide_eq_false (p := j < 0 ∧ _) (fun g => by omega), Bool.or_false]
          congr 1
          exact decide_eq_decide.2 ⟨fun g => ⟨hj, g⟩, fun g => g.2⟩
        rw [ek] at k2
        exact k2
      · intro i hi hn1
        refine Ev.step (fun k => by simp only [impl_work.l2]; rfl) ?_
        simp only [if_pos (show (i : Int) < (links.length : Int) by omega), if_pos (show 0 ≤ (i : Int) by omega), kl_length]
        rw [wrap_succ hi (by omega), wrap_id (x := B + wait) (by omega) (by omega)]
        have hp := lk_ok hw i hi
        unfold LinkP at hp
        have ek : ¬ ((lk links i).f1 = (e : Int) ∧ (lk links i).f3 = 1 ∧ keptQ plan links wait late i) → kl links.length (fun j => keptE plan links wait late e j || decide ((lk links j).f1 = (e : Int) ∧ (lk links j).f3 = 0) || decide (j < i ∧ (lk links j).f1 = (e : Int) ∧ (lk links j).f3 = 1 ∧ keptQ plan links wait late j)) = kl links.length (fun j => keptE plan links wait late e j || decide ((lk links j).f1 = (e : Int) ∧ (lk links j).f3 = 0) || decide (j < i + 1 ∧ (lk links j).f1 = (e : Int) ∧ (lk links j).f3 = 1 ∧ keptQ plan links wait late j)) := by
          intro hno
          refine kl_congr fun j _ => ?_
          congr 1
          refine decide_eq_decide.2 ⟨fun g => ⟨by omega, g.2⟩, fun g => ⟨?_, g.2⟩⟩
          rcases Nat.lt_or_ge j i with hlt | hge
          · exact hlt
          · obtain rfl : j = i := by omega
            exact absurd g.2 hno
        change Ev (fun k => if (lk links i).f1 = (e : Int) then _ else _) _
        refine Ev.ite (fun g1 => ?_) (fun g1 => ?_)
        · refine Ev.ite (fun g2 => ?_) (fun g2 => ?_)
          · refine Ev.ite (fun _ => ?_) (fun g => absurd hp.1 g)
            refine Ev.ite (fun _ => ?_) (fun g => by exfalso; exact g (show (lk links i).f0 < (T.length : Int) by omega))
            have hr := hbd (lk links i).f0 hp.1 (by omega)
            have er : at_ T (at_ links (i : Int)).f0 = at_ (timesTo plan links wait late e) (lk links i).f0 := hTr _ hp.1 (by show (lk links i).f0 < (e : Int); omega)
            rw [er]
            have ew : wrap64 (at_ (timesTo plan links wait late e) (lk links i).f0 + (at_ links (i : Int)).f2) = readyT (timesTo plan links wait late e) (lk links i) := wrap_id (by show _ ≤ _ + (lk links i).f2; omega) (by show _ + (lk links i).f2 < _; omega)
            rw [ew]
            refine Ev.ite (fun g3 => ?_) (fun g3 => ?_)
            · rw [Int.toNat_natCast, kl_set]
              unfold timeF at hn1
              rw [if_pos ⟨g1, g2, g3⟩] at hn1
              have ek2 : kl links.length (fun j => if j = i then true else (keptE plan links wait late e j || decide ((lk links j).f1 = (e : Int) ∧ (lk links j).f3 = 0) || decide (j < i ∧ (lk links j).f1 = (e : Int) ∧ (lk links j).f3 = 1 ∧ keptQ plan links wait late j))) = kl links.length (fun j => keptE plan links wait late e j || decide ((lk links j).f1 = (e : Int) ∧ (lk links j).f3 = 0) || decide (j < i + 1 ∧ (lk links j).f1 = (e : Int) ∧ (lk links j).f3 = 1 ∧ keptQ plan links wait late j)) := by
                refine kl_congr fun j _ => ?_
                by_cases ej : j = i
                · subst ej
                  rw [if_pos rfl, decide_eq_true (show j < j + 1 ∧ (lk links j).f1 = (e : Int) ∧ (lk links j).f3 = 1 ∧ keptQ plan links wait late j from ⟨by omega, g1, g2, (kq j hi g1).2 g3⟩), Bool.or_true]
                · rw [if_neg ej]
                  congr 1
                  exact decide_eq_decide.2 ⟨fun g => ⟨by omega, g.2⟩, fun g => ⟨by omega, g.2⟩⟩
              rw [ek2]
              exact hn1
            · unfold timeF at hn1
              rw [if_neg (fun g => g3 g.2.2)] at hn1
              rw [ek (fun g => g3 ((kq i hi g1).1 g.2.2))]
              exact hn1
          · unfold timeF at hn1
            rw [if_neg (fun g => g2 g.2.1)] at hn1
            rw [ek (fun g => g2 g.2.1)]
            exact hn1
        · unfold timeF at hn1
          rw [if_neg (fun g => g1 g.1)] at hn1
          rw [ek (fun g => g1 g.1)]
          exact hn1
      · refine Ev.step (fun k => by simp only [impl_work.l2]; rfl) ?_
        simp only [if_neg (show ¬ (links.length : Int) < (links.length : Int) by omega), if_pos (show 0 ≤ (e : Int) by omega)]
        have hll : late.length = plan.length := hl.1
        have hlt := hl.2 e (by omega)
        have hTT := hT links.length (Nat.le_refl _)
        refine Ev.ite (fun _ => ?_) (fun g => by exfalso; omega)
        refine Ev.ite (fun _ => ?_) (fun g => by exfalso; omega)
        rw [wrap_succ he (by omega), wrap_id (x := timeF links (timesTo plan links wait late e) wait B e links.length + at_ late (e : Int)) (by omega) (by omega), Int.toNat_natCast]
        have eS : T.set e (timeF links (timesTo plan links wait late e) wait B e links.length + at_ late (e : Int)) = timesTo plan links wait late (e + 1) ++ List.replicate (plan.length - (e + 1)) 0 := by
          rw [eT, List.set_append_right _ _ (by omega), hlen, Nat.sub_self, show plan.length - e = (plan.length - (e + 1)) + 1 by omega, List.replicate_succ, List.set_cons_zero]
          rw [timesTo_succ, ← eB]
          simp
        rw [eS]
        have ek : kl links.length (fun j => keptE plan links wait late e j || decide ((lk links j).f1 = (e : Int) ∧ (lk links j).f3 = 0) || decide (j < links.length ∧ (lk links j).f1 = (e : Int) ∧ (lk links j).f3 = 1 ∧ keptQ plan links wait late j)) = kl links.length (keptE plan links wait late (e + 1)) := by
          refine kl_congr fun j hj => ?_
          have hp := lk_ok hw j hj
          unfold LinkP at hp
          unfold keptE
          rw [← Bool.decide_or, ← Bool.decide_or]
          refine decide_eq_decide.2 ⟨fun g => ?_, fun g => ?_⟩
          · rcases g with (g | g) | g
            · exact ⟨by omega, g.2⟩
            · exact ⟨by omega, .inl g.2⟩
            · exact ⟨by omega, .inr g.2.2.2⟩
          · by_cases h1 : (lk links j).f1 < (e : Int)
            · exact .inl (.inl ⟨h1, g.2⟩)
            · have h2 : (lk links j).f1 = (e : Int) := by omega
              by_cases h3 : (lk links j).f3 = 0
              · exact .inl (.inr ⟨h2, h3⟩)
              · exact .inr ⟨hj, h2, by omega, g.2.resolve_left h3⟩
        rw [ek]
        exact hn
  · refine Ev.step (fun k => by simp only [impl_work.l0]; rfl) ?_
    simp only [if_neg (show ¬ (plan.length : Int) < (plan.length : Int) by omega)]
    refine ev_val ?_
    unfold playOf
    simp only [Nat.sub_self, List.replicate_zero, List.append_nil, Prod.mk.injEq, true_and]
    refine kl_congr fun j hj => ?_
    have hp := lk_ok hw j hj
    unfold LinkP at hp
    unfold keptE
    exact decide_eq_decide.2 ⟨fun g => g.2, fun g => ⟨by omega, g⟩⟩
end
section
open Classical
variable {plan late : List Int} {links : List S52} {wait : Int}
noncomputable def keptS (plan : List Int) (links : List S52) (wait : Int) (late : List Int) (e j : Nat) : Bool := decide ((lk links j).f3 = 0 ∨ (lk links j).f1 < (e : Int) ∧ keptQ plan links wait late j)
theorem kl_snoc (m : Nat) (f : Nat → Bool) : kl (m + 1) f = kl m f ++ [f m] := by simp [kl, List.range_succ]
theorem ev_spec_l11Play (hw : WorkP ⟨plan, links, wait⟩) (hl : LateP ⟨plan, links, wait⟩ late) : Ev (fun k => spec_l11Play.f k ⟨plan, links, wait⟩ late) (playOf plan links wait late) := by
  obtain ⟨⟨w1, w2, w3, w4⟩, w5, w6⟩ := hw
  dsimp only at w1 w2 w3 w4 w5 w6
  have hw : WorkP ⟨plan, links, wait⟩ := ⟨⟨w1, w2, w3, w4⟩, w5, w6⟩
  unfold spec_l11Play.f
  have k0 := ev_fold (fun k i => spec_l11Play.l0 k ⟨plan, links, wait⟩ late (kl i (fun j => (lk links j).f3 == 0)) (i : Int)) links.length (r := playOf plan links wait late) ?_ ?_
  · simpa [kl] using k0
  · intro i hi hn
    refine Ev.step (fun k => by simp only [spec_l11Play.l0]; rfl) ?_
    simp only [if_pos (show (i : Int) < (links.length : Int) by omega), if_pos (show 0 ≤ (i : Int) by omega), kl_length, List.length_singleton, List.length_cons, List.length_nil, if_pos (show (i + (0 + 1)) * 1 ≤ 70368744177664 by omega), if_pos (show (i + 1) * 1 ≤ 70368744177664 by omega)]
    rw [wrap_succ hi (by omega)]
    rw [kl_snoc] at hn
    exact hn
  refine Ev.step (fun k => by simp only [spec_l11Play.l0]; rfl) ?_
  simp only [if_neg (show ¬ (links.length : Int) < (links.length : Int) by omega)]
  have key := ev_fold (fun k e => spec_l11Play.l1 k ⟨plan, links, wait⟩ late (timesTo plan links wait late e) (kl links.length (keptS plan links wait late e)) (e : Int)) plan.length (r := playOf plan links wait late) ?_ ?_
  · have e0 : kl links.length (keptS plan links wait late 0) = kl links.length (fun j => (lk links j).f3 == 0) := by
      refine kl_congr fun j hj => ?_
      have := lk_ok hw j hj
      unfold LinkP at this
      unfold keptS
      rw [Bool.eq_iff_iff, decide_eq_true_iff, beq_iff_eq]
      exact ⟨fun g => g.resolve_right (fun g2 => by omega), fun g => .inl g⟩
    rw [← e0]
    exact key
  · intro e he hn
    refine Ev.step (fun k => by simp only [spec_l11Play.l1]; rfl) ?_
    simp only [if_pos (show (e : Int) < (plan.length : Int) by omega), if_pos (show 0 ≤ (e : Int) by omega)]
    have hbd := timesTo_bd hw hl e (by omega)
    have hlen := timesTo_length plan links wait late e
    have ht : ∀ i : Int, 0 ≤ i → i < e → at_ (timesTo plan links wait late e) i + 1000 ≤ 1000000 := fun i a b => by have := hbd i a b; omega
    have hb := baseF_bd hw (timesTo plan links wait late e) e 1000000 he (by omega) ht
    have k1 := ev_fold (fun k i => spec_l11Play.l2 k ⟨plan, links, wait⟩ late (timesTo plan links wait late e) (kl links.length (keptS plan links wait late e)) (e : Int) (baseF plan links (timesTo plan links wait late e) e i) (i : Int)) links.length (r := playOf plan links wait late) ?_ ?_
    · simpa [baseF] using k1
    · intro i hi hn1
      refine Ev.step (fun k => by simp only [spec_l11Play.l2]; rfl) ?_
      simp only [if_pos (show (i : Int) < (links.length : Int) by omega), if_pos (show 0 ≤ (i : Int) by omega)]
      rw [wrap_succ hi (by omega)]
      have hp := lk_ok hw i hi
      unfold LinkP at hp
      change Ev (fun k => if (lk links i).f1 = (e : Int) then _ else _) _
      unfold baseF at hn1
      refine Ev.ite (fun g1 => ?_) (fun g1 => ?_)
      · refine Ev.ite (fun g2 => ?_) (fun g2 => ?_)
        · refine Ev.ite (fun _ => ?_) (fun g => absurd hp.1 g)
          refine Ev.ite (fun _ => ?_) (fun g => by exfalso; exact g (show (lk links i).f0 < ((timesTo plan links wait late e).length : Int) by omega))
          have hr := hbd (lk links i).f0 hp.1 (by omega)
          have ew : wrap64 (at_ (timesTo plan links wait late e) (at_ links (i : Int)).f0 + (at_ links (i : Int)).f2) = readyT (timesTo plan links wait late e) (lk links i) := wrap_id (by show _ ≤ at_ _ (lk links i).f0 + (lk links i).f2; omega) (by show at_ _ (lk links i).f0 + (lk links i).f2 < _; omega)
          rw [ew]
          rw [if_pos ⟨g1, g2⟩] at hn1
          unfold mx at hn1
          refine Ev.ite (fun g3 => ?_) (fun g3 => ?_)
          · rw [if_pos (show _ < _ from g3)] at hn1; exact hn1
          · rw [if_neg (show ¬ _ < _ from g3)] at hn1; exact hn1
        · rw [if_neg (fun g => g2 g.2)] at hn1; exact hn1
      · rw [if_neg (fun g => g1 g.1)] at hn1; exact hn1
    · refine Ev.step (fun k => by simp only [spec_l11Play.l2]; rfl) ?_
      simp only [if_neg (show ¬ (links.length : Int) < (links.length : Int) by omega)]
      have hB := hb links.length (Nat.le_refl _)
      obtain ⟨B, eB⟩ : ∃ B, B = baseF plan links (timesTo plan links wait late e) e links.length := ⟨_, rfl⟩
      rw [← eB] at hB ⊢
      have hT := timeF_bd hw (timesTo plan links wait late e) B e 1000000 hB.1 hB.2 ht
      have kq : ∀ j, j < links.length → (lk links j).f1 = (e : Int) → (keptQ plan links wait late j ↔ readyT (timesTo plan links wait late e) (lk links j) ≤ B + wait) := by
        intro j _ g
        unfold keptQ
        rw [g, Int.toNat_natCast, eB]
      have k2 := ev_fold (fun k i => spec_l11Play.l3 k ⟨plan, links, wait⟩ late (timesTo plan links wait late e) (e : Int) B (kl links.length (fun j => keptS plan links wait late e j || decide (j < i ∧ (lk links j).f1 = (e : Int) ∧ (lk links j).f3 = 1 ∧ keptQ plan links wait late j))) (timeF links (timesTo plan links wait late e) wait B e i) (i : Int)) links.length (r := playOf plan links wait late) ?_ ?_
      · have ek : kl links.length (fun j => keptS plan links wait late e j || decide (j < 0 ∧ (lk links j).f1 = (e : Int) ∧ (lk links j).f3 = 1 ∧ keptQ plan links wait late j)) = kl links.length (keptS plan links wait late e) := by
          refine kl_congr fun j hj => ?_
          rw [decide_eq_false (p := j < 0 ∧ _) (fun g => by omega), Bool.or_false]
        rw [ek] at k2
        exact k2
      · intro i hi hn1
        refine Ev.step (fun k => by simp only [spec_l11Play.l3]; rfl) ?_
        simp only [if_pos (show (i : Int) < (links.length : Int) by omega), if_pos (show 0 ≤ (i : Int) by omega)]
        rw [wrap_id (x := B + wait) (by omega) (by omega)]
        have hp := lk_ok hw i hi
        unfold LinkP at hp
        have ek : ¬ ((lk links i).f1 = (e : Int) ∧ (lk links i).f3 = 1 ∧ keptQ plan links wait late i) → kl links.length (fun j => keptS plan links wait late e j || decide (j < i ∧ (lk links j).f1 = (e : Int) ∧ (lk links j).f3 = 1 ∧ keptQ plan links wait late j)) = kl links.length (fun j => keptS plan links wait late e j || decide (j < i + 1 ∧ (lk links j).f1 = (e : Int) ∧ (lk links j).f3 = 1 ∧ keptQ plan links wait late j)) := by
          intro hno
          refine kl_congr fun j _ => ?_
          congr 1
          refine decide_eq_decide.2 ⟨fun g => ⟨by omega, g.2⟩, fun g => ⟨?_, g.2⟩⟩
          rcases Nat.lt_or_ge j i with hlt | hge
          · exact hlt
          · obtain rfl : j = i := by omega
            exact absurd g.2 hno
        change Ev (fun k => if (lk links i).f1 = (e : Int) then _ else _) _
        unfold timeF at hn1
        refine Ev.ite (fun g1 => ?_) (fun g1 => ?_)
        · refine Ev.ite (fun g2 => ?_) (fun g2 => ?_)
          · refine Ev.ite (fun _ => ?_) (fun g => absurd hp.1 g)
            refine Ev.ite (fun _ => ?_) (fun g => by exfalso; exact g (show (lk links i).f0 < ((timesTo plan links wait late e).length : Int) by omega))
            have hr := hbd (lk links i).f0 hp.1 (by omega)
            have ew : wrap64 (at_ (timesTo plan links wait late e) (at_ links (i : Int)).f0 + (at_ links (i : Int)).f2) = readyT (timesTo plan links wait late e) (lk links i) := wrap_id (by show _ ≤ at_ _ (lk links i).f0 + (lk links i).f2; omega) (by show at_ _ (lk links i).f0 + (lk links i).f2 < _; omega)
            rw [ew]
            refine Ev.ite (fun g3 => ?_) (fun g3 => ?_)
            · simp only [kl_length, if_pos (show (i : Int) < (links.length : Int) by omega)]
              rw [wrap_succ hi (by omega), Int.toNat_natCast, kl_set]
              rw [if_pos ⟨g1, g2, g3⟩] at hn1
              have ek2 : kl links.length (fun j => if j = i then true else (keptS plan links wait late e j || decide (j < i ∧ (lk links j).f1 = (e : Int) ∧ (lk links j).f3 = 1 ∧ keptQ plan links wait late j))) = kl links.length (fun j => keptS plan links wait late e j || decide (j < i + 1 ∧ (lk links j).f1 = (e : Int) ∧ (lk links j).f3 = 1 ∧ keptQ plan links wait late j)) := by
                refine kl_congr fun j _ => ?_
                by_cases ej : j = i
                · subst ej
                  rw [if_pos rfl, decide_eq_true (show j < j + 1 ∧ (lk links j).f1 = (e : Int) ∧ (lk links j).f3 = 1 ∧ keptQ plan links wait late j from ⟨by omega, g1, g2, (kq j hi g1).2 g3⟩), Bool.or_true]
                · rw [if_neg ej]
                  congr 1
                  exact decide_eq_decide.2 ⟨fun g => ⟨by omega, g.2⟩, fun g => ⟨by omega, g.2⟩⟩
              rw [ek2]
              unfold mx at hn1
              refine Ev.ite (fun g4 => ?_) (fun g4 => ?_)
              · rw [if_pos (show _ < _ from g4)] at hn1; exact hn1
              · rw [if_neg (show ¬ _ < _ from g4)] at hn1; exact hn1
            · rw [if_neg (fun g => g3 g.2.2)] at hn1
              rw [ek (fun g => g3 ((kq i hi g1).1 g.2.2)), wrap_succ hi (by omega)]
              exact hn1
          · rw [if_neg (fun g => g2 g.2.1)] at hn1
            rw [ek (fun g => g2 g.2.1)]
            rw [wrap_succ hi (by omega)]
            exact hn1
        · rw [if_neg (fun g => g1 g.1)] at hn1
          rw [ek (fun g => g1 g.1)]
          rw [wrap_succ hi (by omega)]
          exact hn1
      · refine Ev.step (fun k => by simp only [spec_l11Play.l3]; rfl) ?_
        simp only [if_neg (show ¬ (links.length : Int) < (links.length : Int) by omega), if_pos (show 0 ≤ (e : Int) by omega)]
        have hll : late.length = plan.length := hl.1
        have hlt := hl.2 e (by omega)
        have hTT := hT links.length (Nat.le_refl _)
        refine Ev.ite (fun _ => ?_) (fun g => by exfalso; omega)
        refine Ev.ite (fun _ => ?_) (fun g => by exfalso; simp only [List.length_cons, List.length_nil] at g; omega)
        rw [wrap_succ he (by omega), wrap_id (x := timeF links (timesTo plan links wait late e) wait B e links.length + at_ late (e : Int)) (by omega) (by omega)]
        rw [timesTo_succ, ← eB] at hn
        have ek : kl links.length (fun j => keptS plan links wait late e j || decide (j < links.length ∧ (lk links j).f1 = (e : Int) ∧ (lk links j).f3 = 1 ∧ keptQ plan links wait late j)) = kl links.length (keptS plan links wait late (e + 1)) := by
          refine kl_congr fun j hj => ?_
          have hp := lk_ok hw j hj
          unfold LinkP at hp
          unfold keptS
          rw [← Bool.decide_or]
          refine decide_eq_decide.2 ⟨fun g => ?_, fun g => ?_⟩
          · rcases g with (g | g) | g
            · exact .inl g
            · exact .inr ⟨by omega, g.2⟩
            · exact .inr ⟨by omega, g.2.2.2⟩
          · rcases g with g | g
            · exact .inl (.inl g)
            · by_cases h1 : (lk links j).f1 < (e : Int)
              · exact .inl (.inr ⟨h1, g.2⟩)
              · by_cases h3 : (lk links j).f3 = 0
                · exact .inl (.inl h3)
                · exact .inr ⟨hj, by omega, by omega, g.2⟩
        rw [ek]
        exact hn
  · refine Ev.step (fun k => by simp only [spec_l11Play.l1]; rfl) ?_
    simp only [if_neg (show ¬ (plan.length : Int) < (plan.length : Int) by omega)]
    refine ev_val ?_
    unfold playOf
    simp only [Prod.mk.injEq, true_and]
    refine kl_congr fun j hj => ?_
    have hp := lk_ok hw j hj
    unfold LinkP at hp
    unfold keptS
    exact decide_eq_decide.2 ⟨fun g => g.imp id (fun g => g.2), fun g => g.imp id (fun g => ⟨by omega, g⟩)⟩
end
section
variable {plan late : List Int} {links : List S52} {wait : Int}
theorem timesTo_pre (plan : List Int) (links : List S52) (wait : Int) (late : List Int) (m : Nat) (i : Int) (h0 : 0 ≤ i) (h : i < m) : ∀ n, m ≤ n → at_ (timesTo plan links wait late n) i = at_ (timesTo plan links wait late m) i
  | 0, hn => by omega
  | n + 1, hn => by
    by_cases e : m = n + 1
    · rw [e]
    · rw [timesTo_succ, rd_app_left _ _ i h0 (by rw [timesTo_length]; omega)]
      exact timesTo_pre plan links wait late m i h0 h n (by omega)
theorem base_why (plan : List Int) (links : List S52) (ts : List Int) (e : Nat) : ∀ i, at_ plan (e : Int) ≤ baseF plan links ts e i ∧ (baseF plan links ts e i = at_ plan (e : Int) ∨ ∃ j, j < i ∧ (lk links j).f1 = (e : Int) ∧ (lk links j).f3 = 0 ∧ baseF plan links ts e i = readyT ts (lk links j))
  | 0 => ⟨Int.le_refl _, .inl rfl⟩
  | i + 1 => by
    obtain ⟨h1, h2⟩ := base_why plan links ts e i
    have up : (baseF plan links ts e i = at_ plan (e : Int) ∨ ∃ j, j < i + 1 ∧ (lk links j).f1 = (e : Int) ∧ (lk links j).f3 = 0 ∧ baseF plan links ts e i = readyT ts (lk links j)) := by
      rcases h2 with h | ⟨j, a, b, c, d⟩
      · exact .inl h
      · exact .inr ⟨j, by omega, b, c, d⟩
    show at_ plan (e : Int) ≤ (if _ then _ else _) ∧ _
    rw [show baseF plan links ts e (i + 1) = (if (lk links i).f1 = (e : Int) ∧ (lk links i).f3 = 0 then mx (baseF plan links ts e i) (readyT ts (lk links i)) else baseF plan links ts e i) from rfl]
    split
    · next hc =>
      have hm : mx (baseF plan links ts e i) (readyT ts (lk links i)) = baseF plan links ts e i ∨ (baseF plan links ts e i ≤ readyT ts (lk links i) ∧ mx (baseF plan links ts e i) (readyT ts (lk links i)) = readyT ts (lk links i)) := by
        unfold mx
        split
        · right; exact ⟨by omega, by first | rfl | omega⟩
        · left; rfl
      rcases hm with hm | ⟨hm1, hm⟩
      · rw [hm]; exact ⟨h1, up⟩
      · rw [hm]; exact ⟨by omega, .inr ⟨i, by omega, hc.1, hc.2, rfl⟩⟩
    · exact ⟨h1, up⟩
theorem time_why (links : List S52) (ts : List Int) (wait base : Int) (e : Nat) : ∀ i, base ≤ timeF links ts wait base e i ∧ (timeF links ts wait base e i = base ∨ ∃ j, j < i ∧ (lk links j).f1 = (e : Int) ∧ readyT ts (lk links j) ≤ base + wait ∧ timeF links ts wait base e i = readyT ts (lk links j))
  | 0 => ⟨Int.le_refl _, .inl rfl⟩
  | i + 1 => by
    obtain ⟨h1, h2⟩ := time_why links ts wait base e i
    have up : (timeF links ts wait base e i = base ∨ ∃ j, j < i + 1 ∧ (lk links j).f1 = (e : Int) ∧ readyT ts (lk links j) ≤ base + wait ∧ timeF links ts wait base e i = readyT ts (lk links j)) := by
      rcases h2 with h | ⟨j, a, b, c, d⟩
      · exact .inl h
      · exact .inr ⟨j, by omega, b, c, d⟩
    rw [show timeF links ts wait base e (i + 1) = (if (lk links i).f1 = (e : Int) ∧ (lk links i).f3 = 1 ∧ readyT ts (lk links i) ≤ base + wait then mx (timeF links ts wait base e i) (readyT ts (lk links i)) else timeF links ts wait base e i) from rfl]
    split
    · next hc =>
      have hm : mx (timeF links ts wait base e i) (readyT ts (lk links i)) = timeF links ts wait base e i ∨ (timeF links ts wait base e i ≤ readyT ts (lk links i) ∧ mx (timeF links ts wait base e i) (readyT ts (lk links i)) = readyT ts (lk links i)) := by
        unfold mx
        split
        · right; exact ⟨by omega, by first | rfl | omega⟩
        · left; rfl
      rcases hm with hm | ⟨hm1, hm⟩
      · rw [hm]; exact ⟨h1, up⟩
      · rw [hm]; exact ⟨by omega, .inr ⟨i, by omega, hc.1, hc.2.2, rfl⟩⟩
    · exact ⟨h1, up⟩
/-- An event's own minute, without what came on top. -/
noncomputable def ownT (plan : List Int) (links : List S52) (wait : Int) (late : List Int) (e : Nat) : Int := at_ (playOf plan links wait late).1 (e : Int) - at_ late (e : Int)
/-- The link j is why the event e has its minute. -/
def causeP (plan : List Int) (links : List S52) (wait : Int) (late : List Int) (e j : Nat) : Prop :=
  (lk links j).f1 = (e : Int) ∧ at_ (playOf plan links wait late).2 (j : Int) = true ∧ readyT (playOf plan links wait late).1 (lk links j) = ownT plan links wait late e
theorem own_eq (e : Nat) (he : e < plan.length) : ownT plan links wait late e = timeF links (timesTo plan links wait late e) wait (baseF plan links (timesTo plan links wait late e) e links.length) e links.length := by
  unfold ownT playOf
  show at_ (timesTo plan links wait late plan.length) (e : Int) - _ = _
  rw [timesTo_pre plan links wait late (e + 1) (e : Int) (by omega) (by omega) plan.length (by omega), timesTo_succ, rd_app_right _ _ _ (by rw [timesTo_length]; omega)]
  have e1 : (e : Int) - ((timesTo plan links wait late e).length : Int) = 0 := by rw [timesTo_length]; omega
  rw [e1]
  show timeF links _ wait _ e links.length + at_ late (e : Int) - at_ late (e : Int) = _
  omega
theorem own_why (hw : WorkP ⟨plan, links, wait⟩) (e : Nat) (he : e < plan.length) : at_ plan (e : Int) ≤ ownT plan links wait late e ∧ (ownT plan links wait late e = at_ plan (e : Int) ∨ ∃ j, j < links.length ∧ causeP plan links wait late e j) := by
  classical
  have ho := own_eq (plan := plan) (late := late) (links := links) (wait := wait) e he
  have hb := base_why plan links (timesTo plan links wait late e) e links.length
  have ht := time_why links (timesTo plan links wait late e) wait (baseF plan links (timesTo plan links wait late e) e links.length) e links.length
  rw [← ho] at ht
  have pre : ∀ j, j < links.length → (lk links j).f1 = (e : Int) → readyT (playOf plan links wait late).1 (lk links j) = readyT (timesTo plan links wait late e) (lk links j) := by
    intro j hj h1
    have hp := lk_ok hw j hj
    unfold LinkP at hp
    unfold readyT playOf
    show at_ (timesTo plan links wait late plan.length) _ + _ = _
    rw [timesTo_pre plan links wait late e (lk links j).f0 (by omega) (by omega) plan.length (by omega)]
  have kq : ∀ j, j < links.length → ((lk links j).f3 = 0 ∨ keptQ plan links wait late j) → at_ (playOf plan links wait late).2 (j : Int) = true := by
    intro j hj h
    unfold playOf
    show at_ (kl links.length _) (j : Int) = true
    rw [rdOf_kl _ _ j hj]
    exact decide_eq_true h
  refine ⟨by omega, ?_⟩
  rcases ht.2 with h | ⟨j, hj, h1, h2, h3⟩
  · rcases hb.2 with g | ⟨j, hj, h1, h2, h3⟩
    · exact .inl (by rw [h, g])
    · exact .inr ⟨j, hj, h1, kq j hj (.inl h2), by rw [pre j hj h1, h, h3]⟩
  · refine .inr ⟨j, hj, h1, kq j hj (.inr ?_), by rw [pre j hj h1, h3]⟩
    unfold keptQ
    rw [show (lk links j).f1.toNat = e by omega]
    exact h2
/-- What stands behind an event, from the one that began it. -/
inductive ChainR (plan : List Int) (links : List S52) (wait : Int) (late : List Int) : Nat → List Int → List Int → Prop
  | stop (e : Nat) (acc : List Int) (h : ownT plan links wait late e = at_ plan (e : Int)) : ChainR plan links wait late e acc ((e : Int) :: acc)
  | go (e j : Nat) (acc r : List Int) (h : ownT plan links wait late e ≠ at_ plan (e : Int)) (hj : j < links.length) (hc : causeP plan links wait late e j) (hm : ∀ i, i < j → ¬ causeP plan links wait late e i)
      (hr : ChainR plan links wait late (lk links j).f0.toNat ((e : Int) :: acc) r) : ChainR plan links wait late e acc r
theorem chain_ex (hw : WorkP ⟨plan, links, wait⟩) (e : Nat) : e < plan.length → ∀ acc : List Int, ∃ r, ChainR plan links wait late e acc r ∧ r.length ≤ acc.length + e + 1 := by
  classical
  induction e using Nat.strongRecOn with
  | _ e ih =>
    intro he acc
    by_cases h : ownT plan links wait late e = at_ plan (e : Int)
    · exact ⟨_, .stop e acc h, by simp⟩
    · rcases (own_why (late := late) hw e he).2 with g | ⟨j0, g⟩
      · exact absurd g h
      · obtain ⟨j, ⟨h1, h2⟩, hm⟩ := least_of (p := fun j => j < links.length ∧ causeP plan links wait late e j) ⟨j0, g⟩
        have hp := lk_ok hw j h1
        unfold LinkP at hp
        have hq := h2.1
        obtain ⟨r, hr, hl⟩ := ih (lk links j).f0.toNat (by omega) (by omega) ((e : Int) :: acc)
        refine ⟨r, .go e j acc r h h1 h2 (fun i hi hc => hm i hi ⟨by omega, hc⟩) hr, ?_⟩
        simp only [List.length_cons] at hl
        omega
end
theorem play_len (plan : List Int) (links : List S52) (wait : Int) (late : List Int) : (playOf plan links wait late).2.length = links.length ∧ (playOf plan links wait late).1.length = plan.length := by
  unfold playOf
  exact ⟨by simp [kl], timesTo_length _ _ _ _ _⟩
section
variable {plan late : List Int} {links : List S52} {wait : Int}
theorem chain_bd (hw : WorkP ⟨plan, links, wait⟩) (hl : LateP ⟨plan, links, wait⟩ late) (i : Int) (h0 : 0 ≤ i) (h1 : i < plan.length) : 0 ≤ at_ (playOf plan links wait late).1 i ∧ at_ (playOf plan links wait late).1 i ≤ 100000 + 11000 * (plan.length : Int) ∧ 0 ≤ at_ late i ∧ at_ late i ≤ 10000 := by
  have h := timesTo_bd hw hl plan.length (Nat.le_refl _) i h0 (by omega)
  have hll : late.length = plan.length := hl.1
  have g := hl.2 i.toNat (by omega)
  rw [show ((i.toNat : Nat) : Int) = i by omega] at g
  exact ⟨h.1, h.2, g.1, g.2⟩
theorem ev_impl_cause (hw : WorkP ⟨plan, links, wait⟩) (hl : LateP ⟨plan, links, wait⟩ late) (hp : plan.length ≤ 1048576) (e : Nat) (he : e < plan.length) (r : Int)
    (hr : (ownT plan links wait late e = at_ plan (e : Int) ∧ r = -1) ∨ (ownT plan links wait late e ≠ at_ plan (e : Int) ∧ ∃ j, j < links.length ∧ causeP plan links wait late e j ∧ (∀ i, i < j → ¬ causeP plan links wait late e i) ∧ r = (lk links j).f0)) :
    Ev (fun k => impl_cause.f k ⟨plan, links, wait⟩ late (playOf plan links wait late).1 (playOf plan links wait late).2 (e : Int)) r := by
  have hlen := play_len plan links wait late
  have hlt : late.length = plan.length := hl.1
  have hb := chain_bd hw hl (e : Int) (by omega) (by omega)
  have hwl : ((plan.length : Int) ≤ 60 ∧ (links.length : Int) ≤ 150 ∧ 0 ≤ wait ∧ wait ≤ 60) := hw.1
  have hown : at_ (playOf plan links wait late).1 (e : Int) - at_ late (e : Int) = ownT plan links wait late e := rfl
  unfold impl_cause.f
  simp only [if_pos (show 0 ≤ (e : Int) by omega), if_pos (show (e : Int) < ((playOf plan links wait late).1.length : Int) by omega), if_pos (show (e : Int) < (late.length : Int) by omega), if_pos (show (e : Int) < (plan.length : Int) by omega)]
  rw [wrap_id (by omega) (by omega), hown]
  rcases hr with ⟨h1, h2⟩ | ⟨h1, j, h2, h3, h4, h5⟩
  · simp only [if_pos h1]
    exact ev_val (by rw [h2])
  simp only [if_neg h1]
  refine ev_find links.length (causeP plan links wait late e) (fun j => (lk links j).f0) (-1) r (fun k i => impl_cause.l0 k ⟨plan, links, wait⟩ late (playOf plan links wait late).1 (playOf plan links wait late).2 (e : Int) (i : Int)) (.inr ⟨j, h2, h3, h4, h5⟩) ?_ ?_ ?_
  · intro i hi hn hk
    refine Ev.step (fun k => by simp only [impl_cause.l0]; rfl) ?_
    have hq := lk_ok hw i hi
    unfold LinkP at hq
    have hb0 := chain_bd hw hl (lk links i).f0 (by omega) (by omega)
    simp only [if_pos (show (i : Int) < (links.length : Int) by omega), if_pos (show 0 ≤ (i : Int) by omega)]
    rw [wrap_succ hi (by omega)]
    refine Ev.ite (fun c1 => ?_) (fun _ => hk)
    simp only [if_pos (show (i : Int) < ((playOf plan links wait late).2.length : Int) by omega)]
    refine Ev.ite (fun c2 => ?_) (fun _ => hk)
    have e0 : at_ links (i : Int) = lk links i := rfl
    simp only [e0] at c1 c2 ⊢
    simp only [if_pos hq.1, if_pos (show (lk links i).f0 < ((playOf plan links wait late).1.length : Int) by omega)]
    rw [wrap_id (x := at_ (playOf plan links wait late).1 (lk links i).f0 + (lk links i).f2) (by omega) (by omega), wrap_id (x := at_ (playOf plan links wait late).1 (e : Int) - at_ late (e : Int)) (by omega) (by omega), hown]
    exact Ev.ite (fun c3 => absurd ⟨c1, c2, c3⟩ hn) (fun _ => hk)
  · intro i hi hc _
    refine Ev.step (fun k => by simp only [impl_cause.l0]; rfl) ?_
    have hq := lk_ok hw i hi
    unfold LinkP at hq
    have hb0 := chain_bd hw hl (lk links i).f0 (by omega) (by omega)
    have e0 : at_ links (i : Int) = lk links i := rfl
    obtain ⟨c1, c2, c3⟩ := hc
    unfold readyT at c3
    simp only [e0]
    simp only [if_pos (show (i : Int) < (links.length : Int) by omega), if_pos (show 0 ≤ (i : Int) by omega), if_pos c1, if_pos (show (i : Int) < ((playOf plan links wait late).2.length : Int) by omega), if_pos c2, if_pos hq.1, if_pos (show (lk links i).f0 < ((playOf plan links wait late).1.length : Int) by omega)]
    rw [wrap_id (x := at_ (playOf plan links wait late).1 (lk links i).f0 + (lk links i).f2) (by omega) (by omega), wrap_id (x := at_ (playOf plan links wait late).1 (e : Int) - at_ late (e : Int)) (by omega) (by omega), hown]
    simp only [if_pos c3]
    exact ev_val rfl
  · intro _
    refine Ev.step (fun k => by simp only [impl_cause.l0]; rfl) ?_
    simp only [if_neg (show ¬ (links.length : Int) < (links.length : Int) by omega)]
    exact ev_val rfl
theorem ev_impl_ChainL (hw : WorkP ⟨plan, links, wait⟩) (hl : LateP ⟨plan, links, wait⟩ late) (hp : plan.length ≤ 1048576) (e : Nat) (acc r : List Int) (hr : ChainR plan links wait late e acc r) : e < plan.length → acc.length + e + 1 ≤ 1048577 →
    Ev (fun k => impl_Chain.l0 k ⟨plan, links, wait⟩ late (playOf plan links wait late) acc (e : Int)) r := by
  induction hr with
  | stop e acc h =>
    intro he ha
    refine Ev.step (fun k => by simp only [impl_Chain.l0]; rfl) ?_
    simp only [if_pos (show (e : Int) ≥ 0 by omega), Option.bind_some, if_pos (show ([(e : Int)].length + acc.length) * 8 ≤ 70368744177664 by simp; omega)]
    refine Ev.bind (ev_impl_cause hw hl hp e he (-1) (.inl ⟨h, rfl⟩)) ?_
    refine Ev.step (fun k => by simp only [impl_Chain.l0]; rfl) ?_
    simp only [if_neg (show ¬ (-1 : Int) ≥ 0 by omega)]
    exact ev_val rfl
  | go e j acc r h hj hc hm hr ih =>
    intro he ha
    have hq := lk_ok hw j hj
    unfold LinkP at hq
    have hf := hc.1
    refine Ev.step (fun k => by simp only [impl_Chain.l0]; rfl) ?_
    simp only [if_pos (show (e : Int) ≥ 0 by omega), Option.bind_some, if_pos (show ([(e : Int)].length + acc.length) * 8 ≤ 70368744177664 by simp; omega)]
    refine Ev.bind (ev_impl_cause hw hl hp e he (lk links j).f0 (.inr ⟨h, j, hj, hc, hm, rfl⟩)) ?_
    have := ih (by omega) (by simp only [List.length_cons]; omega)
    rw [show (((lk links j).f0.toNat : Nat) : Int) = (lk links j).f0 by omega] at this
    exact this
end
/-- What the program and the reference give. -/
def ChainO (plan : List Int) (links : List S52) (wait : Int) (late : List Int) (e : Int) (r : List Int) : Prop :=
  ((WorkP ⟨plan, links, wait⟩ ∧ LateP ⟨plan, links, wait⟩ late ∧ 0 ≤ e ∧ e ≤ (plan.length : Int) - 1) ∧ ChainR plan links wait late e.toNat [] r) ∨ (¬ (WorkP ⟨plan, links, wait⟩ ∧ LateP ⟨plan, links, wait⟩ late ∧ 0 ≤ e ∧ e ≤ (plan.length : Int) - 1) ∧ r = [])
theorem chainO_ex (plan : List Int) (links : List S52) (wait : Int) (late : List Int) (e : Int) : ∃ r, ChainO plan links wait late e r ∧ r.length ≤ plan.length := by
  classical
  by_cases h : WorkP ⟨plan, links, wait⟩ ∧ LateP ⟨plan, links, wait⟩ late ∧ 0 ≤ e ∧ e ≤ (plan.length : Int) - 1
  · obtain ⟨r, hr, hl⟩ := chain_ex (late := late) h.1 e.toNat (by omega) []
    refine ⟨r, .inl ⟨h, hr⟩, ?_⟩
    have := h.2.2
    simp only [List.length_nil] at hl
    omega
  · exact ⟨[], .inr ⟨h, rfl⟩, by simp⟩
theorem ev_impl_Chain (plan late : List Int) (links : List S52) (wait e : Int) (r : List Int) (hlate : late.length ≤ 4611686018427387904) (hp : plan.length ≤ 1048576) (hr : ChainO plan links wait late e r) : Ev (fun k => impl_Chain.f k ⟨plan, links, wait⟩ late e) r := by
  classical
  unfold impl_Chain.f
  dsimp only
  have bad : ¬ (WorkP ⟨plan, links, wait⟩ ∧ LateP ⟨plan, links, wait⟩ late ∧ 0 ≤ e ∧ e ≤ (plan.length : Int) - 1) → Ev (fun k => some []) r := fun h => ev_val (by rcases hr with ⟨g, _⟩ | ⟨_, g⟩; exact absurd g h; exact g.symm)
  refine Ev.bind (ev_impl_playable ⟨plan, links, wait⟩ late hlate (decide (WorkP ⟨plan, links, wait⟩ ∧ LateP ⟨plan, links, wait⟩ late)) decide_eq_true_iff) ?_
  refine Ev.ite (fun h => ?_) (fun h => bad (fun g => h (decide_eq_true ⟨g.1, g.2.1⟩)))
  have hw := of_decide_eq_true h
  rw [wrap_id (by omega) (by omega)]
  rw [eq_impl_between]
  simp only [Option.bind_some]
  by_cases hb : 0 ≤ e ∧ e ≤ (plan.length : Int) - 1
  · simp only [decide_eq_true hb, if_true]
    refine Ev.bind (ev_impl_work hw.1 hw.2) ?_
    rcases hr with ⟨_, g⟩ | ⟨g, _⟩
    · have := ev_impl_ChainL hw.1 hw.2 hp e.toNat [] r g (by omega) (by simp only [List.length_nil]; omega)
      rw [show ((e.toNat : Nat) : Int) = e by omega] at this
      exact this
    · exact absurd ⟨hw.1, hw.2, hb.1, hb.2⟩ g
  · simp only [decide_eq_false hb, Bool.false_eq_true, if_false]
    exact bad (fun g => hb g.2.2)
section
variable {plan late : List Int} {links : List S52} {wait : Int}
theorem ev_spec_ChainL (hw : WorkP ⟨plan, links, wait⟩) (hl : LateP ⟨plan, links, wait⟩ late) (hp : plan.length ≤ 1048576) (e : Nat) (acc r : List Int) (hr : ChainR plan links wait late e acc r) : e < plan.length → acc.length + e + 1 ≤ 1048577 →
    Ev (fun k => spec_Chain.l0 k ⟨plan, links, wait⟩ late (playOf plan links wait late) ((e : Int) :: acc) (e : Int)) r := by
  have hlen := play_len plan links wait late
  have hlt : late.length = plan.length := hl.1
  have hwl : ((plan.length : Int) ≤ 60 ∧ (links.length : Int) ≤ 150 ∧ 0 ≤ wait ∧ wait ≤ 60) := hw.1
  induction hr with
  | stop e acc h =>
    intro he ha
    have hb := chain_bd hw hl (e : Int) (by omega) (by omega)
    have hown : at_ (playOf plan links wait late).1 (e : Int) - at_ late (e : Int) = ownT plan links wait late e := rfl
    refine Ev.step (fun k => by simp only [spec_Chain.l0]; rfl) ?_
    simp only [if_pos (show 0 ≤ (e : Int) by omega), if_pos (show (e : Int) < ((playOf plan links wait late).1.length : Int) by omega), if_pos (show (e : Int) < (late.length : Int) by omega), if_pos (show (e : Int) < (plan.length : Int) by omega)]
    rw [wrap_id (by omega) (by omega), hown]
    simp only [if_neg (show ¬ ownT plan links wait late e > at_ plan (e : Int) by omega)]
    exact ev_val rfl
  | go e j acc r h hj hc hm hr ih =>
    intro he ha
    have hb := chain_bd hw hl (e : Int) (by omega) (by omega)
    have hown : at_ (playOf plan links wait late).1 (e : Int) - at_ late (e : Int) = ownT plan links wait late e := rfl
    have hge := (own_why (late := late) hw e he).1
    refine Ev.step (fun k => by simp only [spec_Chain.l0]; rfl) ?_
    simp only [if_pos (show 0 ≤ (e : Int) by omega), if_pos (show (e : Int) < ((playOf plan links wait late).1.length : Int) by omega), if_pos (show (e : Int) < (late.length : Int) by omega), if_pos (show (e : Int) < (plan.length : Int) by omega)]
    rw [wrap_id (by omega) (by omega), hown]
    simp only [if_pos (show ownT plan links wait late e > at_ plan (e : Int) by omega)]
    refine ev_find links.length (causeP plan links wait late e) (fun _ => r) r r (fun k i => spec_Chain.l1 k ⟨plan, links, wait⟩ late (playOf plan links wait late) ((e : Int) :: acc) (e : Int) (i : Int)) (.inr ⟨j, hj, hc, hm, rfl⟩) ?_ ?_ (fun g => absurd hc (g j hj))
    · intro i hi hn hk
      refine Ev.step (fun k => by simp only [spec_Chain.l1]; rfl) ?_
      have hq := lk_ok hw i hi
      unfold LinkP at hq
      have hb0 := chain_bd hw hl (lk links i).f0 (by omega) (by omega)
      have e0 : at_ links (i : Int) = lk links i := rfl
      simp only [if_pos (show (i : Int) < (links.length : Int) by omega), if_pos (show 0 ≤ (i : Int) by omega), e0]
      rw [wrap_succ hi (by omega)]
      refine Ev.ite (fun c1 => ?_) (fun _ => hk)
      simp only [if_pos (show (i : Int) < ((playOf plan links wait late).2.length : Int) by omega)]
      refine Ev.ite (fun c2 => ?_) (fun _ => hk)
      simp only [if_pos hq.1, if_pos (show (lk links i).f0 < ((playOf plan links wait late).1.length : Int) by omega), if_pos (show 0 ≤ (e : Int) by omega), if_pos (show (e : Int) < ((playOf plan links wait late).1.length : Int) by omega), if_pos (show (e : Int) < (late.length : Int) by omega)]
      rw [wrap_id (x := at_ (playOf plan links wait late).1 (lk links i).f0 + (lk links i).f2) (by omega) (by omega), wrap_id (x := at_ (playOf plan links wait late).1 (e : Int) - at_ late (e : Int)) (by omega) (by omega), hown]
      exact Ev.ite (fun c3 => absurd ⟨c1, c2, c3⟩ hn) (fun _ => hk)
    · intro i hi hci hmi
      have hij : i = j := by
        rcases Nat.lt_trichotomy i j with h | h | h
        · exact absurd hci (hm i h)
        · exact h
        · exact absurd hc (hmi j h)
      subst hij
      refine Ev.step (fun k => by simp only [spec_Chain.l1]; rfl) ?_
      have hq := lk_ok hw i hi
      unfold LinkP at hq
      have hb0 := chain_bd hw hl (lk links i).f0 (by omega) (by omega)
      have e0 : at_ links (i : Int) = lk links i := rfl
      obtain ⟨c1, c2, c3⟩ := hc
      unfold readyT at c3
      simp only [e0]
      simp only [if_pos (show (i : Int) < (links.length : Int) by omega), if_pos (show 0 ≤ (i : Int) by omega), if_pos c1, if_pos (show (i : Int) < ((playOf plan links wait late).2.length : Int) by omega), if_pos c2, if_pos hq.1, if_pos (show (lk links i).f0 < ((playOf plan links wait late).1.length : Int) by omega), if_pos (show 0 ≤ (e : Int) by omega), if_pos (show (e : Int) < ((playOf plan links wait late).1.length : Int) by omega), if_pos (show (e : Int) < (late.length : Int) by omega)]
      rw [wrap_id (x := at_ (playOf plan links wait late).1 (lk links i).f0 + (lk links i).f2) (by omega) (by omega), wrap_id (x := at_ (playOf plan links wait late).1 (e : Int) - at_ late (e : Int)) (by omega) (by omega), hown]
      simp only [if_pos c3, Option.bind_some, if_pos (show ([(lk links i).f0].length + ((e : Int) :: acc).length) * 8 ≤ 70368744177664 by simp; omega)]
      have := ih (by omega) (by simp only [List.length_cons]; omega)
      rw [show (((lk links i).f0.toNat : Nat) : Int) = (lk links i).f0 by omega] at this
      exact this
end
theorem ev_spec_Chain (plan late : List Int) (links : List S52) (wait e : Int) (r : List Int) (hlate : late.length ≤ 4611686018427387904) (hp : plan.length ≤ 1048576) (hr : ChainO plan links wait late e r) : Ev (fun k => spec_Chain.f k ⟨plan, links, wait⟩ late e) r := by
  classical
  unfold spec_Chain.f
  dsimp only
  have bad : ¬ (WorkP ⟨plan, links, wait⟩ ∧ LateP ⟨plan, links, wait⟩ late ∧ 0 ≤ e ∧ e ≤ (plan.length : Int) - 1) → Ev (fun k => some []) r := fun h => ev_val (by rcases hr with ⟨g, _⟩ | ⟨_, g⟩; exact absurd g h; exact g.symm)
  refine Ev.bind (ev_spec_WorkOk ⟨plan, links, wait⟩ (decide (WorkP ⟨plan, links, wait⟩)) decide_eq_true_iff) ?_
  refine Ev.ite (fun h => ?_) (fun h => bad (fun g => h (decide_eq_true g.1)))
  have hw1 := of_decide_eq_true h
  refine Ev.bind (ev_spec_l11Late ⟨plan, links, wait⟩ late hlate (decide (LateP ⟨plan, links, wait⟩ late)) decide_eq_true_iff) ?_
  refine Ev.ite (fun h2 => ?_) (fun h2 => bad (fun g => h2 (decide_eq_true g.2.1)))
  have hw2 := of_decide_eq_true h2
  rw [wrap_id (by omega) (by omega)]
  rw [eq_spec_l01In]
  simp only [Option.bind_some]
  by_cases hb : 0 ≤ e ∧ e ≤ (plan.length : Int) - 1
  · simp only [decide_eq_true hb, if_true]
    refine Ev.bind (ev_spec_l11Play hw1 hw2) ?_
    rcases hr with ⟨_, g⟩ | ⟨g, _⟩
    · have := ev_spec_ChainL hw1 hw2 hp e.toNat [] r g (by omega) (by simp only [List.length_nil]; omega)
      rw [show ((e.toNat : Nat) : Int) = e by omega] at this
      exact this
    · exact absurd ⟨hw1, hw2, hb.1, hb.2⟩ g
  · simp only [decide_eq_false hb, Bool.false_eq_true, if_false]
    exact bad (fun g => hb g.2.2)
theorem pure_FnExactChain : Pure := by
  intro x late e ⟨⟨hp, _⟩, ⟨hm, _⟩, _⟩ ⟨hml, _⟩ _
  refine Ev.rounds ?_
  unfold laws_FnExactChain.f
  refine Ev.ite (fun _ => ev_val rfl) (fun hlb => ?_)
  rw [eq_laws_szWork _ _ hp hm (by omega) (by omega)]
  simp only [Option.bind_some]
  refine Ev.ite (fun _ => ev_val rfl) (fun hbig => ?_)
  have hz := sz2w_ok hbig
  have hl1 : x.f0.length ≤ 1048576 := by omega
  have hl2 : x.f1.length ≤ 1048576 := by omega
  have hl3 : late.length ≤ 1048576 := by omega
  obtain ⟨r, hO, hr⟩ := chainO_ex x.f0 x.f1 x.f2 late e
  have e1 := ev_spec_Chain x.f0 late x.f1 x.f2 e r (by omega) hl1 hO
  have e2 := ev_impl_Chain x.f0 late x.f1 x.f2 e r (by omega) hl1 hO
  refine Ev.bind (ev_laws_toWork _ hl1 hl2) ?_
  refine Ev.bind (ev_laws_toIntS _ hl3) ?_
  refine Ev.bind e1 ?_
  refine Ev.bind (ev_laws_toWork _ hl1 hl2) ?_
  refine Ev.bind (ev_laws_toIntS _ hl3) ?_
  refine Ev.bind e2 ?_
  refine Ev.bind (ev_laws_eqIntS _ _ (by omega) true (by simp)) ?_
  simp only [if_true]
  refine Ev.bind (ev_laws_toWork _ hl1 hl2) ?_
  refine Ev.bind (ev_laws_eqWork_same _ hl1 hl2) ?_
  simp only [if_true]
  refine Ev.bind (ev_laws_toIntS _ hl3) ?_
  refine Ev.bind (ev_laws_eqIntS _ _ (by omega) true (by simp)) ?_
  simp only [if_true]
  refine Ev.bind (ev_laws_markWork ⟨x.f0, x.f1, x.f2⟩ (by dsimp only; omega) (by dsimp only; omega) 1 (by omega) (by omega)) ?_
  refine Ev.bind (ev_laws_markIntS late (by omega) (1 + (x.f0.length : Int) + 4 * (x.f1.length : Int)) (by omega) (by omega)) ?_
  simp only [if_neg (show ¬ 1 + (x.f0.length : Int) + 4 * (x.f1.length : Int) + (late.length : Int) < 0 by omega)]
  refine Ev.bind (ev_laws_eqIntS _ _ (by omega) true (by simp)) ?_
  simp only [if_true]
  refine Ev.bind (ev_laws_markIntS r (by omega) 1 (by omega) (by omega)) ?_
  refine Ev.bind (ev_laws_heldIntS r.length (by omega) 1 (by omega) (by omega)) ?_
  simp only [if_neg (show ¬ 1 + (r.length : Int) < 0 by omega), if_true]
  refine Ev.bind (ev_laws_toWork _ hl1 hl2) ?_
  refine Ev.bind (ev_laws_toIntS _ hl3) ?_
  refine Ev.bind e2 ?_
  refine Ev.bind (ev_laws_eqIntS _ _ (by omega) true (by simp)) ?_
  simp only [if_true]
  refine Ev.bind (ev_laws_heldIntS r.length (by omega) 1 (by omega) (by omega)) ?_
  simp only [if_neg (show ¬ 1 + (r.length : Int) < 0 by omega), if_true]
  exact ev_val rfl
end Go.Proofs.Ytomkglmlhoaniaa.Fns
