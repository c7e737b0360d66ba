/- The pure statement of the law FnExactWhere: what the program's functions and the reference's compute is told in plain words, and the two agree. -/
import Derived.Test.YtoeedickghjdbaaSFnExactWhere
import Derived.Test.YtoeedickghjdbaaPlFnExactWhere
namespace Go.Proofs.Ytoeedickghjdbaa.Pure
open Go.RowKit Go.Proofs.Ytoeedickghjdbaa.PFnExactWhere Go.Proofs.Ytoeedickghjdbaa.RFnExactWhere Go.Proofs.YtoeedickghjdbaaW.PrintWords Go.Proofs.YtoeedickghjdbaaW.PrintLast Go.Proofs.YtoeedickghjdbaaW.PrintMore Go.Proofs.Ytoeedickghjdbaa.Pl
set_option linter.unusedSimpArgs false
set_option linter.unusedVariables false
theorem Ev.ite {R : Type} {c : Prop} [Decidable c] {f g : Nat → Option R} {r : R} (h1 : c → Ev f r) (h2 : ¬ c → Ev g r) : Ev (fun k => if c then f k else g k) r := by
  by_cases h : c
  · simp only [if_pos h]; exact h1 h
  · simp only [if_neg h]; exact h2 h
theorem wrap_pred {i : Nat} (h : 0 < i) (hn : i ≤ 9223372036854775807) : wrap64 ((i : Int) - 1) = ((i - 1 : Nat) : Int) := by unfold wrap64; omega
/-- All places are right, or one is not. -/
theorem ev_allI (n : Nat) (P : Nat → Prop) (G : Nat → Nat → Option Bool) {b : Bool} (Q : Prop) (hb : b = true ↔ (∀ i, i < n → P i) ∧ Q)
    (hstep : ∀ i, i < n → P i → Ev (fun k => G k (i + 1)) b → Ev (fun k => G k i) b)
    (hbad : ∀ i, i < n → ¬ P i → Ev (fun k => G k i) false)
    (hend : (∀ i, i < n → P i) → (b = true ↔ Q) → Ev (fun k => G k n) b) : Ev (fun k => G k 0) b := by
  classical
  refine ev_run G (fun i => decide (¬ P i)) n ?_ ?_ ?_
  · intro i hi hc hn
    exact hstep i hi (Classical.not_not.1 (of_decide_eq_false hc)) hn
  · intro i hi hc _
    have hne := of_decide_eq_true hc
    exact Ev.cast (hbad i hi hne) (bool_not hb fun e => hne (e.1 i hi)).symm
  · intro hc
    have hp : ∀ i, i < n → P i := fun i hi => Classical.not_not.1 (of_decide_eq_false (hc i hi))
    exact hend hp ⟨fun h => (hb.1 h).2, fun h => hb.2 ⟨hp, h⟩⟩

theorem eq_laws_szCallS (xs : List S83) (left : Int) (hl : xs.length ≤ maxLen) (h0 : 0 ≤ left) (h1 : left ≤ 1048576) : laws_szCallS.f xs left = some (if left < xs.length then -1 else left - xs.length) := by
  unfold laws_szCallS.f
  have hm : maxLen = 9223372036854775807 := rfl
  rw [wrap_id (by omega) (by omega)]
  by_cases h : left < xs.length
  · rw [if_pos h, if_pos (by omega)]
  · rw [if_neg h, if_neg (by omega)]

def cvCall (x : S83) : S55 := ⟨x.f0, x.f1, x.f2⟩
theorem extCall (a b : S55) (h : a.f0 = b.f0 ∧ a.f1 = b.f1 ∧ a.f2 = b.f2) : a = b := by
  cases a; cases b
  simp only at h
  simp [h]
theorem eq_laws_toCall (a0 a1 a2 : Int) : laws_toCall.f a0 a1 a2 = some (a0, a1, a2) := rfl
theorem ev_laws_toCallS (xs : List S83) (hl : xs.length ≤ 1048576) : Ev (fun k => laws_toCallS.f k xs) (xs.map cvCall) := by
  unfold laws_toCallS.f
  simp only [if_pos (show 0 ≤ (xs.length : Int) by omega), Int.toNat_natCast, if_pos (show xs.length ≤ 11728124029610 by omega)]
  refine ev_fill xs cvCall z55 (fun k s i => laws_toCallS.l0 k xs s (i : Int)) ?_ ?_
  · intro i hi s hs hn
    refine Ev.step (fun k => by simp only [laws_toCallS.l0]; rfl) ?_
    have e : rd_T83 xs (i : Int) = xs[i] := getD_nat _ hi
    simp only [if_pos (show (i : Int) < (xs.length : Int) by omega), if_pos (show 0 ≤ (i : Int) by omega), if_pos (show (i : Int) < (s.length : Int) by omega), eq_laws_toCall, Option.bind_some, e]
    rw [wrap_succ hi (by omega), Int.toNat_natCast]
    exact hn
  · refine Ev.step (fun k => by simp only [laws_toCallS.l0]; rfl) ?_
    simp only [if_neg (show ¬ (xs.length : Int) < (xs.length : Int) by omega)]
    exact ev_val rfl

theorem eq_laws_szTrip (s : ByteArray) (cs : List S83) (left : Int) (hs : s.size ≤ maxLen) (hl : cs.length ≤ maxLen) (h0 : 0 ≤ left) (h1 : left ≤ 1048576) :
    laws_szTrip.f s cs left = some (if left < s.size then -1 else if left - s.size < cs.length then -1 else left - s.size - cs.length) := by
  unfold laws_szTrip.f
  have hm : maxLen = 9223372036854775807 := rfl
  rw [wrap_id (by omega) (by omega)]
  by_cases h : left < s.size
  · rw [if_pos h, if_pos (by omega)]
  · rw [if_neg h, if_neg (by omega), eq_laws_szCallS cs _ hl (by omega) (by omega)]
    simp only [Option.bind_some]
    by_cases h2 : left - s.size < cs.length
    · rw [if_pos h2]; simp
    · rw [if_neg h2, if_neg (by omega)]
theorem ev_laws_toTrip (s : ByteArray) (cs : List S83) (hl : cs.length ≤ 1048576) : Ev (fun k => laws_toTrip.f k s cs) (s, cs.map cvCall) := by
  unfold laws_toTrip.f
  exact Ev.bind (ev_laws_toCallS cs hl) (ev_val rfl)
theorem sz2_ok {left a b : Int} (h : ¬ (if left < a then -1 else if left - a < b then -1 else left - a - b) < 0) : a ≤ left ∧ b ≤ left - a := by
  by_cases h1 : left < a
  · rw [if_pos h1] at h; omega
  · rw [if_neg h1] at h
    by_cases h2 : left - a < b
    · rw [if_pos h2] at h; omega
    · omega

def ByteP (b : Int) : Prop := (97 ≤ b ∧ b ≤ 122) ∨ (48 ≤ b ∧ b ≤ 57)
def NameP (s : ByteArray) : Prop := (∀ i, i < s.size → ByteP (bt s (i : Int))) ∧ (1 ≤ (s.size : Int) ∧ (s.size : Int) ≤ 12)

def CallP (c : S55) : Prop := 0 ≤ c.f0 ∧ c.f0 ≤ 29 ∧ 0 ≤ c.f1 ∧ c.f1 ≤ c.f2 ∧ c.f2 ≤ 100000
/-- A call is right, and right behind the one ahead of it. -/
def StepP (cs : List S55) (i : Nat) : Prop := CallP (rd_T55 cs (i : Int)) ∧ (0 < i → (rd_T55 cs ((i - 1 : Nat) : Int)).f2 < (rd_T55 cs (i : Int)).f1 ∧ (rd_T55 cs ((i - 1 : Nat) : Int)).f0 ≠ (rd_T55 cs (i : Int)).f0)
def TripP (s : ByteArray) (cs : List S55) : Prop := (∀ i, i < cs.length → StepP cs i) ∧ (NameP s ∧ 2 ≤ (cs.length : Int) ∧ (cs.length : Int) ≤ 12)

theorem least_of {p : Nat → Prop} (h : ∃ n, p n) : ∃ n, p n ∧ ∀ m, m < n → ¬ p m := by
  classical
  obtain ⟨n, hn⟩ := h
  induction n using Nat.strongRecOn with
  | ind n ih =>
    by_cases hm : ∃ m, m < n ∧ p m
    · obtain ⟨m, h1, h2⟩ := hm
      exact ih m h1 h2
    · exact ⟨n, hn, fun m h1 h2 => hm ⟨m, h1, h2⟩⟩

/-- The first place where c holds, or none. -/
def FindR {R : Type} (n : Nat) (c : Nat → Prop) (out : Nat → R) (fin r : R) : Prop :=
  (r = fin ∧ ∀ i, i < n → ¬ c i) ∨ ∃ i, i < n ∧ c i ∧ (∀ j, j < i → ¬ c j) ∧ r = out i
theorem FindR.exists {R : Type} (n : Nat) (c : Nat → Prop) (out : Nat → R) (fin : R) : ∃ r, FindR n c out fin r := by
  classical
  by_cases h : ∃ i, i < n ∧ c i
  · obtain ⟨i, ⟨h1, h2⟩, hm⟩ := least_of h
    exact ⟨out i, .inr ⟨i, h1, h2, fun j hj hc => hm j hj ⟨Nat.lt_trans hj h1, hc⟩, rfl⟩⟩
  · exact ⟨fin, .inl ⟨rfl, fun i hi hc => h ⟨i, hi, hc⟩⟩⟩
theorem ev_find {R : Type} (n : Nat) (c : Nat → Prop) (out : Nat → R) (fin r : R) (G : Nat → Nat → Option R) (hr : FindR n c out fin r)
    (hstep : ∀ i, i < n → ¬ c i → Ev (fun k => G k (i + 1)) r → Ev (fun k => G k i) r)
    (hx : ∀ i, i < n → c i → (∀ j, j < i → ¬ c j) → Ev (fun k => G k i) (out i)) (hend : (∀ i, i < n → ¬ c i) → Ev (fun k => G k n) fin) : Ev (fun k => G k 0) r := by
  classical
  refine ev_run G (fun i => decide (c i)) n ?_ ?_ ?_
  · intro i hi hc hn
    exact hstep i hi (of_decide_eq_false hc) hn
  · intro i hi hc hno
    have hci := of_decide_eq_true hc
    have hno' : ∀ j, j < i → ¬ c j := fun j hj => of_decide_eq_false (hno j hj)
    refine Ev.cast (hx i hi hci hno') ?_
    rcases hr with ⟨_, h⟩ | ⟨i0, h1, h2, h3, h4⟩
    · exact absurd hci (h i hi)
    · rcases Nat.lt_trichotomy i0 i with hl | he | hg
      · exact absurd h2 (hno' i0 hl)
      · rw [h4, he]
      · exact absurd hci (h3 i hg)
  · intro hc
    have hno : ∀ i, i < n → ¬ c i := fun i hi => of_decide_eq_false (hc i hi)
    refine Ev.cast (hend hno) ?_
    rcases hr with ⟨h, _⟩ | ⟨i0, h1, h2, _⟩
    · exact h.symm
    · exact absurd h2 (hno i0 h1)

/-- Where a trip is in a minute. -/
def WhereR (s : ByteArray) (cs : List S55) (m : Int) (r : Int × Int) : Prop :=
  (¬ TripP s cs → r = (-1, 2)) ∧ (TripP s cs → m < (rd_T55 cs 0).f1 → r = (-1, 0)) ∧
  (TripP s cs → ¬ m < (rd_T55 cs 0).f1 → FindR cs.length (fun i => m ≤ (rd_T55 cs (i : Int)).f2) (fun i => if m < (rd_T55 cs (i : Int)).f1 then ((i : Int) - 1, 1) else ((i : Int), 0)) (-1, 1) r)
theorem WhereR.exists (s : ByteArray) (cs : List S55) (m : Int) : ∃ r, WhereR s cs m r := by
  classical
  by_cases h : TripP s cs
  · by_cases h2 : m < (rd_T55 cs 0).f1
    · exact ⟨(-1, 0), fun g => absurd h g, fun _ _ => rfl, fun _ g => absurd h2 g⟩
    · obtain ⟨r, hr⟩ := FindR.exists (R := Int × Int) cs.length (fun i => m ≤ (rd_T55 cs (i : Int)).f2) (fun i => if m < (rd_T55 cs (i : Int)).f1 then ((i : Int) - 1, 1) else ((i : Int), 0)) (-1, 1)
      exact ⟨r, fun g => absurd h g, fun _ g => absurd g h2, fun _ _ => hr⟩
  · exact ⟨(-1, 2), fun _ => rfl, fun g => absurd g h, fun g => absurd g h⟩

theorem eq_spec_l01In (a b c : Int) : spec_l01In.f a b c = some (decide (b ≤ a ∧ a ≤ c)) := by
  unfold spec_l01In.f
  by_cases h : b ≤ a
  · rw [if_pos h]; simp [h]
  · rw [if_neg h]; simp [h]

theorem ev_spec_l01Name (s : ByteArray) (hs : s.size ≤ 4611686018427387904) (b : Bool) (hb : b = true ↔ NameP s) : Ev (fun k => spec_l01Name.f k s) b := by
  unfold spec_l01Name.f
  refine ev_allI s.size (fun i => ByteP (bt s (i : Int))) (fun k i => spec_l01Name.l0 k s (i : Int)) _ hb ?_ ?_ ?_
  · intro i hi hp hn
    refine Ev.step (fun k => by simp only [spec_l01Name.l0]; rfl) ?_
    unfold ByteP at hp
    rw [wrap_succ hi (by omega)]
    repeat' first
      | exact hn
      | refine Ev.ite (fun _ => ?_) (fun _ => ?_)
      | (exfalso; omega)
  · intro i hi hp
    refine Ev.step (fun k => by simp only [spec_l01Name.l0]; rfl) ?_
    unfold ByteP at hp
    repeat' first
      | refine Ev.ite (fun _ => ?_) (fun _ => ?_)
      | exact ev_val rfl
      | (exfalso; omega)
  · intro _ hq
    refine Ev.step (fun k => by simp only [spec_l01Name.l0]; rfl) ?_
    simp only [if_neg (show ¬ (s.size : Int) < (s.size : Int) by omega), eq_spec_l01In, Option.bind_some]
    exact ev_val (Bool.eq_iff_iff.2 (by rw [hq, decide_eq_true_iff]))

theorem ev_spec_TripOk (s : ByteArray) (cs : List S55) (hs : s.size ≤ 4611686018427387904) (hl : cs.length ≤ 4611686018427387904) (b : Bool) (hb : b = true ↔ TripP s cs) : Ev (fun k => spec_TripOk.f k s cs) b := by
  classical
  unfold spec_TripOk.f
  have bad : ¬ (NameP s ∧ 2 ≤ (cs.length : Int) ∧ (cs.length : Int) ≤ 12) → Ev (fun k => spec_TripOk.j0 k true s cs) b := fun h =>
    Ev.step (fun k => by simp only [spec_TripOk.j0]; rfl) (ev_val (bool_not hb fun e => h e.2).symm)
  refine Ev.bind (ev_spec_l01Name s hs (decide (NameP s)) decide_eq_true_iff) ?_
  refine Ev.ite (fun h => ?_) (fun h => ?_)
  · have hn := of_decide_eq_true h
    simp only [eq_spec_l01In, Option.bind_some]
    by_cases h2 : 2 ≤ (cs.length : Int) ∧ (cs.length : Int) ≤ 12
    · simp only [decide_eq_true h2, Bool.not_true]
      refine Ev.step (fun k => by simp only [spec_TripOk.j0]; rfl) ?_
      simp only [Bool.false_eq_true, if_false]
      refine ev_allI cs.length (StepP cs) (fun k i => spec_TripOk.l0 k (i : Int) s cs) _ hb ?_ ?_ ?_
      · intro i hi hp hn
        refine Ev.step (fun k => by simp only [spec_TripOk.l0]; rfl) ?_
        unfold StepP CallP at hp
        simp only [eq_spec_l01In, Option.bind_some, decide_eq_true_eq]
        repeat' first
          | exact hn
          | (rw [wrap_pred (by omega) (by omega)])
          | refine Ev.ite (fun _ => ?_) (fun _ => ?_)
          | refine Ev.step (fun k => by simp only [spec_TripOk.j2]; rfl) ?_
          | (rw [wrap_succ hi (by omega)])
          | (exfalso; first | omega | (simp only [decide_eq_true_eq, Bool.not_eq_true', decide_eq_false_iff_not, Bool.not_eq_false, not_true_eq_false] at *; done) | (simp only [decide_eq_true_eq, Bool.not_eq_true', decide_eq_false_iff_not, Bool.not_eq_false, not_true_eq_false] at *; omega))
      · intro i hi hp
        refine Ev.step (fun k => by simp only [spec_TripOk.l0]; rfl) ?_
        unfold StepP CallP at hp
        simp only [eq_spec_l01In, Option.bind_some, decide_eq_true_eq]
        repeat' first
          | (rw [wrap_pred (by omega) (by omega)])
          | refine Ev.ite (fun _ => ?_) (fun _ => ?_)
          | exact ev_val rfl
          | refine Ev.step (fun k => by simp only [spec_TripOk.j2]; rfl) ?_
          | (exfalso; first | omega | (simp only [decide_eq_true_eq, Bool.not_eq_true', decide_eq_false_iff_not, Bool.not_eq_false, not_true_eq_false] at *; done) | (simp only [decide_eq_true_eq, Bool.not_eq_true', decide_eq_false_iff_not, Bool.not_eq_false, not_true_eq_false] at *; omega))
      · intro _ hq
        refine Ev.step (fun k => by simp only [spec_TripOk.l0]; rfl) ?_
        simp only [if_neg (show ¬ (cs.length : Int) < (cs.length : Int) by omega)]
        exact ev_val (hq.2 ⟨hn, h2⟩).symm
    · simp only [decide_eq_false h2, Bool.not_false]
      exact bad (fun g => h2 g.2)
  · exact bad (fun g => h (decide_eq_true g.1))

theorem ev_spec_Where (s : ByteArray) (cs : List S55) (m : Int) (hs : s.size ≤ 4611686018427387904) (hl : cs.length ≤ 4611686018427387904) (r : Int × Int) (hr : WhereR s cs m r) : Ev (fun k => spec_Where.f k s cs m) r := by
  classical
  unfold spec_Where.f
  refine Ev.bind (ev_spec_TripOk s cs hs hl (decide (TripP s cs)) decide_eq_true_iff) ?_
  by_cases h : TripP s cs
  · simp only [decide_eq_true h, if_true]
    have h2 := h.2.2
    simp only [if_pos (show 0 < (cs.length : Int) by omega)]
    by_cases h3 : m < (rd_T55 cs 0).f1
    · simp only [if_pos h3]
      exact ev_val (hr.2.1 h h3).symm
    · simp only [if_neg h3]
      refine ev_find cs.length _ _ _ r (fun k i => spec_Where.l0 k m (i : Int) s cs) (hr.2.2 h h3) ?_ ?_ ?_
      · intro i hi hc hn
        refine Ev.step (fun k => by simp only [spec_Where.l0]; rfl) ?_
        simp only [if_pos (show (i : Int) < (cs.length : Int) by omega), if_pos (show 0 ≤ (i : Int) by omega), if_neg hc]
        rw [wrap_succ hi (by omega)]
        exact hn
      · intro i hi hc hno
        refine Ev.step (fun k => by simp only [spec_Where.l0]; rfl) ?_
        simp only [if_pos (show (i : Int) < (cs.length : Int) by omega), if_pos (show 0 ≤ (i : Int) by omega), if_pos hc]
        by_cases h4 : m < (rd_T55 cs (i : Int)).f1
        · simp only [if_pos h4, if_neg (show ¬ m ≥ (rd_T55 cs (i : Int)).f1 by omega)]
          exact ev_val (by rw [wrap_id (by omega) (by omega)])
        · simp only [if_neg h4, if_pos (show m ≥ (rd_T55 cs (i : Int)).f1 by omega)]
          exact ev_val rfl
      · intro _
        refine Ev.step (fun k => by simp only [spec_Where.l0]; rfl) ?_
        simp only [if_neg (show ¬ (cs.length : Int) < (cs.length : Int) by omega)]
        exact ev_val rfl
  · simp only [decide_eq_false h, Bool.false_eq_true, if_false]
    exact ev_val (hr.1 h).symm

theorem ev_impl_nameOk (s : ByteArray) (hs : s.size ≤ 4611686018427387904) (b : Bool) (hb : b = true ↔ NameP s) : Ev (fun k => impl_nameOk.f k s) b := by
  unfold impl_nameOk.f
  have bad : ¬ (1 ≤ (s.size : Int) ∧ (s.size : Int) ≤ 12) → Ev (fun k => impl_nameOk.j0 k s true) b := fun h =>
    Ev.step (fun k => by simp only [impl_nameOk.j0]; rfl) (ev_val (bool_not hb fun e => h e.2).symm)
  refine Ev.ite (fun h => bad (by omega)) (fun h => ?_)
  by_cases h2 : (s.size : Int) > 12
  · simp only [decide_eq_true h2]
    exact bad (by omega)
  simp only [decide_eq_false h2]
  refine Ev.step (fun k => by simp only [impl_nameOk.j0]; rfl) ?_
  simp only [Bool.false_eq_true, if_false]
  refine ev_allI s.size (fun i => ByteP (bt s (i : Int))) (fun k i => impl_nameOk.l0 k s (i : Int)) _ hb ?_ ?_ ?_
  · intro i hi hp hn
    refine Ev.step (fun k => by simp only [impl_nameOk.l0]; rfl) ?_
    unfold ByteP at hp
    rw [wrap_succ hi (by omega)]
    repeat' first
      | exact hn
      | refine Ev.ite (fun _ => ?_) (fun _ => ?_)
      | (exfalso; omega)
  · intro i hi hp
    refine Ev.step (fun k => by simp only [impl_nameOk.l0]; rfl) ?_
    unfold ByteP at hp
    repeat' first
      | refine Ev.ite (fun _ => ?_) (fun _ => ?_)
      | exact ev_val rfl
      | (exfalso; omega)
  · intro _ hq
    refine Ev.step (fun k => by simp only [impl_nameOk.l0]; rfl) ?_
    simp only [if_neg (show ¬ (s.size : Int) < (s.size : Int) by omega)]
    exact ev_val (hq.2 (by omega)).symm

theorem eq_impl_between (a b c : Int) : impl_between.f a b c = some (decide (b ≤ a ∧ a ≤ c)) := by
  unfold impl_between.f
  by_cases h : a ≥ b
  · rw [if_pos h]; simp [show b ≤ a from h]
  · rw [if_neg h]; simp [show ¬ b ≤ a from h]

theorem eq_impl_isMinute (a : Int) : impl_isMinute.f a = some (decide (0 ≤ a ∧ a ≤ 100000)) := by
  unfold impl_isMinute.f
  rw [eq_impl_between]
  rfl

theorem ev_impl_TripOk (s : ByteArray) (cs : List S55) (hs : s.size ≤ 4611686018427387904) (hl : cs.length ≤ 4611686018427387904) (b : Bool) (hb : b = true ↔ TripP s cs) : Ev (fun k => impl_TripOk.f k s cs) b := by
  classical
  unfold impl_TripOk.f
  have bad : ¬ (NameP s ∧ 2 ≤ (cs.length : Int) ∧ (cs.length : Int) ≤ 12) → Ev (fun k => impl_TripOk.j0 k true s cs) b := fun h =>
    Ev.step (fun k => by simp only [impl_TripOk.j0]; rfl) (ev_val (bool_not hb fun e => h e.2).symm)
  refine Ev.bind (ev_impl_nameOk s hs (decide (NameP s)) decide_eq_true_iff) ?_
  refine Ev.ite (fun h => ?_) (fun h => ?_)
  · have hn := of_decide_eq_true h
    simp only [eq_impl_between, Option.bind_some]
    by_cases h2 : 2 ≤ (cs.length : Int) ∧ (cs.length : Int) ≤ 12
    · simp only [decide_eq_true h2, Bool.not_true]
      refine Ev.step (fun k => by simp only [impl_TripOk.j0]; rfl) ?_
      simp only [Bool.false_eq_true, if_false]
      refine ev_allI cs.length (StepP cs) (fun k i => impl_TripOk.l0 k cs (cs.length : Int) (i : Int) s cs) _ hb ?_ ?_ ?_
      · intro i hi hp hn
        refine Ev.step (fun k => by simp only [impl_TripOk.l0]; rfl) ?_
        unfold StepP CallP at hp
        simp only [eq_impl_between, eq_impl_isMinute, Option.bind_some, decide_eq_true_eq]
        repeat' first
          | exact hn
          | (rw [wrap_pred (by omega) (by omega)])
          | refine Ev.ite (fun _ => ?_) (fun _ => ?_)
          | refine Ev.step (fun k => by simp only [impl_TripOk.j2]; rfl) ?_
          | (rw [wrap_succ hi (by omega)])
          | (exfalso; first | omega | (simp only [decide_eq_true_eq, Bool.not_eq_true', decide_eq_false_iff_not, Bool.not_eq_false, not_true_eq_false] at *; done) | (simp only [decide_eq_true_eq, Bool.not_eq_true', decide_eq_false_iff_not, Bool.not_eq_false, not_true_eq_false] at *; omega))
      · intro i hi hp
        refine Ev.step (fun k => by simp only [impl_TripOk.l0]; rfl) ?_
        unfold StepP CallP at hp
        simp only [eq_impl_between, eq_impl_isMinute, Option.bind_some, decide_eq_true_eq]
        repeat' first
          | (rw [wrap_pred (by omega) (by omega)])
          | refine Ev.ite (fun _ => ?_) (fun _ => ?_)
          | exact ev_val rfl
          | refine Ev.step (fun k => by simp only [impl_TripOk.j2]; rfl) ?_
          | (exfalso; first | omega | (simp only [decide_eq_true_eq, Bool.not_eq_true', decide_eq_false_iff_not, Bool.not_eq_false, not_true_eq_false] at *; done) | (simp only [decide_eq_true_eq, Bool.not_eq_true', decide_eq_false_iff_not, Bool.not_eq_false, not_true_eq_false] at *; omega))
      · intro _ hq
        refine Ev.step (fun k => by simp only [impl_TripOk.l0]; rfl) ?_
        simp only [if_neg (show ¬ (cs.length : Int) < (cs.length : Int) by omega)]
        exact ev_val (hq.2 ⟨hn, h2⟩).symm
    · simp only [decide_eq_false h2, Bool.not_false]
      exact bad (fun g => h2 g.2)
  · exact bad (fun g => h (decide_eq_true g.1))

theorem ev_impl_Where (s : ByteArray) (cs : List S55) (m : Int) (hs : s.size ≤ 4611686018427387904) (hl : cs.length ≤ 4611686018427387904) (r : Int × Int) (hr : WhereR s cs m r) : Ev (fun k => impl_Where.f k s cs m) r := by
  classical
  unfold impl_Where.f
  refine Ev.bind (ev_impl_TripOk s cs hs hl (decide (TripP s cs)) decide_eq_true_iff) ?_
  by_cases h : TripP s cs
  · simp only [decide_eq_true h, if_true]
    have h2 := h.2.2
    simp only [if_pos (show 0 < (cs.length : Int) by omega)]
    by_cases h3 : m < (rd_T55 cs 0).f1
    · simp only [if_pos h3]
      exact ev_val (hr.2.1 h h3).symm
    · simp only [if_neg h3]
      refine ev_find cs.length _ _ _ r (fun k i => impl_Where.l0 k m cs (cs.length : Int) (i : Int)) (hr.2.2 h h3) ?_ ?_ ?_
      · intro i hi hc hn
        have hp := h.1 i hi
        unfold StepP CallP at hp
        refine Ev.step (fun k => by simp only [impl_Where.l0]; rfl) ?_
        simp only [if_pos (show (i : Int) < (cs.length : Int) by omega), if_pos (show 0 ≤ (i : Int) by omega), if_neg (show ¬ m < (rd_T55 cs (i : Int)).f1 by omega), if_neg hc]
        rw [wrap_succ hi (by omega)]
        exact hn
      · intro i hi hc hno
        refine Ev.step (fun k => by simp only [impl_Where.l0]; rfl) ?_
        simp only [if_pos (show (i : Int) < (cs.length : Int) by omega), if_pos (show 0 ≤ (i : Int) by omega)]
        by_cases h4 : m < (rd_T55 cs (i : Int)).f1
        · simp only [if_pos h4]
          exact ev_val (by rw [wrap_id (by omega) (by omega)])
        · simp only [if_neg h4, if_pos hc]
          exact ev_val rfl
      · intro _
        refine Ev.step (fun k => by simp only [impl_Where.l0]; rfl) ?_
        simp only [if_neg (show ¬ (cs.length : Int) < (cs.length : Int) by omega)]
        exact ev_val rfl
  · simp only [decide_eq_false h, Bool.false_eq_true, if_false]
    exact ev_val (hr.1 h).symm

theorem eq_laws_eqCall (a0 a1 a2 b0 b1 b2 : Int) : laws_eqCall.f a0 a1 a2 b0 b1 b2 = some (decide (a0 = b0 ∧ a1 = b1 ∧ a2 = b2)) := by
  unfold laws_eqCall.f
  (repeat' split) <;> simp_all
theorem ev_laws_eqCallS (xs ys : List S55) (hl : xs.length ≤ 4611686018427387904) (b : Bool) (hb : b = true ↔ xs = ys) : Ev (fun k => laws_eqCallS.f k xs ys) b := by
  unfold laws_eqCallS.f
  by_cases he : xs.length = ys.length
  · simp only [if_pos (show (xs.length : Int) = (ys.length : Int) by omega)]
    have e : ∀ (zs : List S55) (i : Nat) (hi : i < zs.length), rd_T55 zs (i : Int) = zs[i] := fun zs i hi => getD_nat _ hi
    refine ev_same xs ys he (fun k i => laws_eqCallS.l0 k xs ys (i : Int)) hb ?_ ?_ ?_
    · intro i hi hi' e1 hn
      refine Ev.step (fun k => by simp only [laws_eqCallS.l0]; rfl) ?_
      simp only [if_pos (show (i : Int) < (xs.length : Int) by omega), if_pos (show 0 ≤ (i : Int) by omega), if_pos (show (i : Int) < (ys.length : Int) by omega), eq_laws_eqCall, e _ _ hi, e _ _ hi', e1, Option.bind_some, and_self, decide_true, if_true]
      rw [wrap_succ hi (by omega)]
      exact hn
    · intro i hi hi' e1
      refine Ev.step (fun k => by simp only [laws_eqCallS.l0]; rfl) ?_
      have e2 : ¬ (xs[i].f0 = ys[i].f0 ∧ xs[i].f1 = ys[i].f1 ∧ xs[i].f2 = ys[i].f2) := fun h => e1 (extCall _ _ h)
      simp only [if_pos (show (i : Int) < (xs.length : Int) by omega), if_pos (show 0 ≤ (i : Int) by omega), if_pos (show (i : Int) < (ys.length : Int) by omega), eq_laws_eqCall, e _ _ hi, e _ _ hi', decide_eq_false e2, Option.bind_some]
      exact ev_val rfl
    · refine Ev.step (fun k => by simp only [laws_eqCallS.l0]; rfl) ?_
      simp only [if_neg (show ¬ (xs.length : Int) < (xs.length : Int) by omega)]
      exact ev_val rfl
  · simp only [if_neg (show ¬ (xs.length : Int) = (ys.length : Int) by omega)]
    exact ev_val (bool_not hb fun e => he (by rw [e])).symm

theorem ev_laws_eqTrip_same (s : ByteArray) (cs : List S55) (hl : cs.length ≤ 1048576) : Ev (fun k => laws_eqTrip.f k s cs s cs) true := by
  unfold laws_eqTrip.f
  simp only [if_true]
  exact Ev.bind (ev_laws_eqCallS _ _ (by omega) true (by simp)) (ev_val rfl)

theorem FnExactWhere : RFnExactWhere.Pure := by
  intro x m ⟨hs, hm, _⟩ _
  refine Ev.rounds ?_
  unfold laws_FnExactWhere.f
  rw [eq_laws_szTrip _ _ _ hs hm (by omega) (by omega)]
  simp only [Option.bind_some]
  refine Ev.ite (fun _ => ev_val rfl) (fun hbig => ?_)
  have hz := sz2_ok hbig
  have hl : x.f1.length ≤ 1048576 := by omega
  have hs' : x.f0.size ≤ 4611686018427387904 := by omega
  have hl' : (x.f1.map cvCall).length ≤ 1048576 := by simpa using hl
  have hl2 : (x.f1.map cvCall).length ≤ 4611686018427387904 := by omega
  obtain ⟨r, hr⟩ := WhereR.exists x.f0 (x.f1.map cvCall) m
  refine Ev.bind (ev_laws_toTrip _ _ hl) ?_
  refine Ev.bind (ev_spec_Where _ _ _ hs' hl2 _ hr) ?_
  refine Ev.bind (ev_laws_toTrip _ _ hl) ?_
  refine Ev.bind (ev_impl_Where _ _ _ hs' hl2 _ hr) ?_
  simp only [if_true, bne_self_eq_false]
  refine Ev.step (fun k => by simp only [laws_FnExactWhere.j0]; rfl) ?_
  simp only [Bool.false_eq_true, if_false]
  refine Ev.bind (ev_laws_toTrip _ _ hl) ?_
  refine Ev.bind (ev_laws_eqTrip_same _ _ hl') ?_
  exact ev_val rfl

end Go.Proofs.Ytoeedickghjdbaa.Pure
