/- The pure statement of the law FnExactBack: what the program's functions and the reference's compute is told in plain words, and the two agree. -/
import Derived.Test.YtoeedickghjdbaaSFnExactBack
import Derived.Test.YtoeedickghjdbaaPlFnExactBack
namespace Go.Proofs.Ytoeedickghjdbaa.Pure
open Go.RowKit Go.Proofs.Ytoeedickghjdbaa.PFnExactBack Go.Proofs.Ytoeedickghjdbaa.RFnExactBack Go.Proofs.YtoeedickghjdbaaW.PrintWords Go.Proofs.YtoeedickghjdbaaW.PrintLast Go.Proofs.YtoeedickghjdbaaW.PrintMore Go.Proofs.Ytoeedickghjdbaa.Pl
set_option linter.unusedSimpArgs false
set_option linter.unusedVariables false
def ByteP (b : Int) : Prop := (97 ≤ b ∧ b ≤ 122) ∨ (48 ≤ b ∧ b ≤ 57)
def NameP (s : ByteArray) : Prop := (∀ i, i < s.size → ByteP (bt s (i : Int))) ∧ (1 ≤ (s.size : Int) ∧ (s.size : Int) ≤ 12)

def CallP (c : S55) : Prop := 0 ≤ c.f0 ∧ c.f0 ≤ 29 ∧ 0 ≤ c.f1 ∧ c.f1 ≤ c.f2 ∧ c.f2 ≤ 100000
/-- A call is right, and right behind the one ahead of it. -/
def StepP (cs : List S55) (i : Nat) : Prop := CallP (rd_T55 cs (i : Int)) ∧ (0 < i → (rd_T55 cs ((i - 1 : Nat) : Int)).f2 < (rd_T55 cs (i : Int)).f1 ∧ (rd_T55 cs ((i - 1 : Nat) : Int)).f0 ≠ (rd_T55 cs (i : Int)).f0)
def TripP (s : ByteArray) (cs : List S55) : Prop := (∀ i, i < cs.length → StepP cs i) ∧ (NameP s ∧ 2 ≤ (cs.length : Int) ∧ (cs.length : Int) ≤ 12)

def turnC (e : Int) (c : S55) : S55 := ⟨c.f0, e - c.f2, e - c.f1⟩
def endOf (cs : List S55) (st : Int) : Int := st + (rd_T55 cs ((cs.length - 1 : Nat) : Int)).f2
def turned (cs : List S55) (st : Int) : List S55 := (cs.map (turnC (endOf cs st))).reverse
/-- A trip turned round. -/
noncomputable def backOf (s : ByteArray) (cs : List S55) (st : Int) : ByteArray × List S55 :=
  open Classical in if (TripP s cs ∧ 0 ≤ st ∧ st ≤ 100000) ∧ TripP s (turned cs st) then (s, turned cs st) else (⟨#[]⟩, [])
/-- What is turned so far: the last t calls. -/
def turnedSo (cs : List S55) (st : Int) (t : Nat) : List S55 := ((cs.drop (cs.length - t)).map (turnC (endOf cs st))).reverse
theorem turnedSo_len (cs : List S55) (st : Int) (t : Nat) (h : t ≤ cs.length) : (turnedSo cs st t).length = t := by
  simp [turnedSo]
  omega
theorem turnedSo_zero (cs : List S55) (st : Int) : turnedSo cs st 0 = [] := by simp [turnedSo]
theorem turnedSo_all (cs : List S55) (st : Int) : turnedSo cs st cs.length = turned cs st := by simp [turnedSo, turned]
theorem turnedSo_succ (cs : List S55) (st : Int) (t : Nat) (h : t < cs.length) : turnedSo cs st (t + 1) = turnedSo cs st t ++ [turnC (endOf cs st) (rd_T55 cs ((cs.length - 1 - t : Nat) : Int))] := by
  unfold turnedSo
  have h1 : cs.length - (t + 1) < cs.length := by omega
  have e : rd_T55 cs ((cs.length - 1 - t : Nat) : Int) = cs[cs.length - (t + 1)] := by
    have := getD_nat z55 h1
    rw [← this]
    unfold rd_T55
    congr 2
    omega
  rw [List.drop_eq_getElem_cons h1, e, show cs.length - (t + 1) + 1 = cs.length - t by omega]
  simp

theorem Ev.ite {R : Type} {c : Prop} [Decidable c] {f g : Nat → Option R} {r : R} (h1 : c → Ev f r) (h2 : ¬ c → Ev g r) : Ev (fun k => if c then f k else g k) r := by
  by_cases h : c
  · simp only [if_pos h]; exact h1 h
  · simp only [if_neg h]; exact h2 h
theorem wrap_pred {i : Nat} (h : 0 < i) (hn : i ≤ 9223372036854775807) : wrap64 ((i : Int) - 1) = ((i - 1 : Nat) : Int) := by unfold wrap64; omega
/-- All places are right, or one is not. -/
theorem ev_allI (n : Nat) (P : Nat → Prop) (G : Nat → Nat → Option Bool) {b : Bool} (Q : Prop) (hb : b = true ↔ (∀ i, i < n → P i) ∧ Q)
    (hstep : ∀ i, i < n → P i → Ev (fun k => G k (i + 1)) b → Ev (fun k => G k i) b)
    (hbad : ∀ i, i < n → ¬ P i → Ev (fun k => G k i) false)
    (hend : (∀ i, i < n → P i) → (b = true ↔ Q) → Ev (fun k => G k n) b) : Ev (fun k => G k 0) b := by
  classical
  refine ev_run G (fun i => decide (¬ P i)) n ?_ ?_ ?_
  · intro i hi hc hn
    exact hstep i hi (Classical.not_not.1 (of_decide_eq_false hc)) hn
  · intro i hi hc _
    have hne := of_decide_eq_true hc
    exact Ev.cast (hbad i hi hne) (bool_not hb fun e => hne (e.1 i hi)).symm
  · intro hc
    have hp : ∀ i, i < n → P i := fun i hi => Classical.not_not.1 (of_decide_eq_false (hc i hi))
    exact hend hp ⟨fun h => (hb.1 h).2, fun h => hb.2 ⟨hp, h⟩⟩

theorem eq_laws_szCallS (xs : List S83) (left : Int) (hl : xs.length ≤ maxLen) (h0 : 0 ≤ left) (h1 : left ≤ 1048576) : laws_szCallS.f xs left = some (if left < xs.length then -1 else left - xs.length) := by
  unfold laws_szCallS.f
  have hm : maxLen = 9223372036854775807 := rfl
  rw [wrap_id (by omega) (by omega)]
  by_cases h : left < xs.length
  · rw [if_pos h, if_pos (by omega)]
  · rw [if_neg h, if_neg (by omega)]

def cvCall (x : S83) : S55 := ⟨x.f0, x.f1, x.f2⟩
theorem extCall (a b : S55) (h : a.f0 = b.f0 ∧ a.f1 = b.f1 ∧ a.f2 = b.f2) : a = b := by
  cases a; cases b
  simp only at h
  simp [h]
theorem eq_laws_toCall (a0 a1 a2 : Int) : laws_toCall.f a0 a1 a2 = some (a0, a1, a2) := rfl
theorem ev_laws_toCallS (xs : List S83) (hl : xs.length ≤ 1048576) : Ev (fun k => laws_toCallS.f k xs) (xs.map cvCall) := by
  unfold laws_toCallS.f
  simp only [if_pos (show 0 ≤ (xs.length : Int) by omega), Int.toNat_natCast, if_pos (show xs.length ≤ 11728124029610 by omega)]
  refine ev_fill xs cvCall z55 (fun k s i => laws_toCallS.l0 k xs s (i : Int)) ?_ ?_
  · intro i hi s hs hn
    refine Ev.step (fun k => by simp only [laws_toCallS.l0]; rfl) ?_
    have e : rd_T83 xs (i : Int) = xs[i] := getD_nat _ hi
    simp only [if_pos (show (i : Int) < (xs.length : Int) by omega), if_pos (show 0 ≤ (i : Int) by omega), if_pos (show (i : Int) < (s.length : Int) by omega), eq_laws_toCall, Option.bind_some, e]
    rw [wrap_succ hi (by omega), Int.toNat_natCast]
    exact hn
  · refine Ev.step (fun k => by simp only [laws_toCallS.l0]; rfl) ?_
    simp only [if_neg (show ¬ (xs.length : Int) < (xs.length : Int) by omega)]
    exact ev_val rfl

theorem eq_laws_szTrip (s : ByteArray) (cs : List S83) (left : Int) (hs : s.size ≤ maxLen) (hl : cs.length ≤ maxLen) (h0 : 0 ≤ left) (h1 : left ≤ 1048576) :
    laws_szTrip.f s cs left = some (if left < s.size then -1 else if left - s.size < cs.length then -1 else left - s.size - cs.length) := by
  unfold laws_szTrip.f
  have hm : maxLen = 9223372036854775807 := rfl
  rw [wrap_id (by omega) (by omega)]
  by_cases h : left < s.size
  · rw [if_pos h, if_pos (by omega)]
  · rw [if_neg h, if_neg (by omega), eq_laws_szCallS cs _ hl (by omega) (by omega)]
    simp only [Option.bind_some]
    by_cases h2 : left - s.size < cs.length
    · rw [if_pos h2]; simp
    · rw [if_neg h2, if_neg (by omega)]
theorem ev_laws_toTrip (s : ByteArray) (cs : List S83) (hl : cs.length ≤ 1048576) : Ev (fun k => laws_toTrip.f k s cs) (s, cs.map cvCall) := by
  unfold laws_toTrip.f
  exact Ev.bind (ev_laws_toCallS cs hl) (ev_val rfl)
theorem sz2_ok {left a b : Int} (h : ¬ (if left < a then -1 else if left - a < b then -1 else left - a - b) < 0) : a ≤ left ∧ b ≤ left - a := by
  by_cases h1 : left < a
  · rw [if_pos h1] at h; omega
  · rw [if_neg h1] at h
    by_cases h2 : left - a < b
    · rw [if_pos h2] at h; omega
    · omega

theorem eq_spec_l01In (a b c : Int) : spec_l01In.f a b c = some (decide (b ≤ a ∧ a ≤ c)) := by
  unfold spec_l01In.f
  by_cases h : b ≤ a
  · rw [if_pos h]; simp [h]
  · rw [if_neg h]; simp [h]

theorem ev_spec_l01Name (s : ByteArray) (hs : s.size ≤ 4611686018427387904) (b : Bool) (hb : b = true ↔ NameP s) : Ev (fun k => spec_l01Name.f k s) b := by
  unfold spec_l01Name.f
  refine ev_allI s.size (fun i => ByteP (bt s (i : Int))) (fun k i => spec_l01Name.l0 k s (i : Int)) _ hb ?_ ?_ ?_
  · intro i hi hp hn
    refine Ev.step (fun k => by simp only [spec_l01Name.l0]; rfl) ?_
    unfold ByteP at hp
    rw [wrap_succ hi (by omega)]
    repeat' first
      | exact hn
      | refine Ev.ite (fun _ => ?_) (fun _ => ?_)
      | (exfalso; omega)
  · intro i hi hp
    refine Ev.step (fun k => by simp only [spec_l01Name.l0]; rfl) ?_
    unfold ByteP at hp
    repeat' first
      | refine Ev.ite (fun _ => ?_) (fun _ => ?_)
      | exact ev_val rfl
      | (exfalso; omega)
  · intro _ hq
    refine Ev.step (fun k => by simp only [spec_l01Name.l0]; rfl) ?_
    simp only [if_neg (show ¬ (s.size : Int) < (s.size : Int) by omega), eq_spec_l01In, Option.bind_some]
    exact ev_val (Bool.eq_iff_iff.2 (by rw [hq, decide_eq_true_iff]))

theorem ev_spec_TripOk (s : ByteArray) (cs : List S55) (hs : s.size ≤ 4611686018427387904) (hl : cs.length ≤ 4611686018427387904) (b : Bool) (hb : b = true ↔ TripP s cs) : Ev (fun k => spec_TripOk.f k s cs) b := by
  classical
  unfold spec_TripOk.f
  have bad : ¬ (NameP s ∧ 2 ≤ (cs.length : Int) ∧ (cs.length : Int) ≤ 12) → Ev (fun k => spec_TripOk.j0 k true s cs) b := fun h =>
    Ev.step (fun k => by simp only [spec_TripOk.j0]; rfl) (ev_val (bool_not hb fun e => h e.2).symm)
  refine Ev.bind (ev_spec_l01Name s hs (decide (NameP s)) decide_eq_true_iff) ?_
  refine Ev.ite (fun h => ?_) (fun h => ?_)
  · have hn := of_decide_eq_true h
    simp only [eq_spec_l01In, Option.bind_some]
    by_cases h2 : 2 ≤ (cs.length : Int) ∧ (cs.length : Int) ≤ 12
    · simp only [decide_eq_true h2, Bool.not_true]
      refine Ev.step (fun k => by simp only [spec_TripOk.j0]; rfl) ?_
      simp only [Bool.false_eq_true, if_false]
      refine ev_allI cs.length (StepP cs) (fun k i => spec_TripOk.l0 k (i : Int) s cs) _ hb ?_ ?_ ?_
      · intro i hi hp hn
        refine Ev.step (fun k => by simp only [spec_TripOk.l0]; rfl) ?_
        unfold StepP CallP at hp
        simp only [eq_spec_l01In, Option.bind_some, decide_eq_true_eq]
        repeat' first
          | exact hn
          | (rw [wrap_pred (by omega) (by omega)])
          | refine Ev.ite (fun _ => ?_) (fun _ => ?_)
          | refine Ev.step (fun k => by simp only [spec_TripOk.j2]; rfl) ?_
          | (rw [wrap_succ hi (by omega)])
          | (exfalso; first | omega | (simp only [decide_eq_true_eq, Bool.not_eq_true', decide_eq_false_iff_not, Bool.not_eq_false, not_true_eq_false] at *; done) | (simp only [decide_eq_true_eq, Bool.not_eq_true', decide_eq_false_iff_not, Bool.not_eq_false, not_true_eq_false] at *; omega))
      · intro i hi hp
        refine Ev.step (fun k => by simp only [spec_TripOk.l0]; rfl) ?_
        unfold StepP CallP at hp
        simp only [eq_spec_l01In, Option.bind_some, decide_eq_true_eq]
        repeat' first
          | (rw [wrap_pred (by omega) (by omega)])
          | refine Ev.ite (fun _ => ?_) (fun _ => ?_)
          | exact ev_val rfl
          | refine Ev.step (fun k => by simp only [spec_TripOk.j2]; rfl) ?_
          | (exfalso; first | omega | (simp only [decide_eq_true_eq, Bool.not_eq_true', decide_eq_false_iff_not, Bool.not_eq_false, not_true_eq_false] at *; done) | (simp only [decide_eq_true_eq, Bool.not_eq_true', decide_eq_false_iff_not, Bool.not_eq_false, not_true_eq_false] at *; omega))
      · intro _ hq
        refine Ev.step (fun k => by simp only [spec_TripOk.l0]; rfl) ?_
        simp only [if_neg (show ¬ (cs.length : Int) < (cs.length : Int) by omega)]
        exact ev_val (hq.2 ⟨hn, h2⟩).symm
    · simp only [decide_eq_false h2, Bool.not_false]
      exact bad (fun g => h2 g.2)
  · exact bad (fun g => h (decide_eq_true g.1))

theorem ev_spec_Back (s : ByteArray) (cs : List S55) (st : Int) (hs : s.size ≤ 4611686018427387904) (hl : cs.length ≤ 1048576) : Ev (fun k => spec_Back.f k s cs st) (backOf s cs st) := by
  classical
  unfold spec_Back.f
  have bad : ¬ (TripP s cs ∧ 0 ≤ st ∧ st ≤ 100000) → Ev (fun k => spec_Back.j0 k st true s cs) (backOf s cs st) := fun h =>
    Ev.step (fun k => by simp only [spec_Back.j0]; rfl) (ev_val (by unfold backOf; rw [if_neg (fun g => h g.1)]))
  refine Ev.bind (ev_spec_TripOk s cs hs (by omega) (decide (TripP s cs)) decide_eq_true_iff) ?_
  refine Ev.ite (fun h => ?_) (fun h => bad (fun g => h (decide_eq_true g.1)))
  have ht := of_decide_eq_true h
  have h2n := ht.2.2
  simp only [eq_spec_l01In, Option.bind_some]
  by_cases h2 : 0 ≤ st ∧ st ≤ 100000
  · simp only [decide_eq_true h2, Bool.not_true]
    refine Ev.step (fun k => by simp only [spec_Back.j0]; rfl) ?_
    have ew : wrap64 ((cs.length : Int) - 1) = ((cs.length - 1 : Nat) : Int) := wrap_pred (by omega) (by omega)
    simp only [Bool.false_eq_true, if_false, ew]
    simp only [if_pos (show 0 ≤ ((cs.length - 1 : Nat) : Int) by omega), if_pos (show ((cs.length - 1 : Nat) : Int) < (cs.length : Int) by omega)]
    have key := ev_fold (fun k t => spec_Back.l0 k st (rd_T55 cs ((cs.length - 1 : Nat) : Int)).f2 ((cs.length : Int) - 1 - (t : Int)) s cs s (turnedSo cs st t)) cs.length (r := backOf s cs st) ?_ ?_
    · have e : (cs.length : Int) - 1 - ((0 : Nat) : Int) = ((cs.length - 1 : Nat) : Int) := by omega
      simp only [e, turnedSo_zero] at key
      exact key
    · intro t hi hn
      refine Ev.step (fun k => by simp only [spec_Back.l0]; rfl) ?_
      have ei : (cs.length : Int) - 1 - (t : Int) = ((cs.length - 1 - t : Nat) : Int) := by omega
      have hc := (ht.1 (cs.length - 1 - t) (by omega)).1
      have hz := (ht.1 (cs.length - 1) (by omega)).1
      have hlen := turnedSo_len cs st t (by omega)
      rw [turnedSo_succ cs st t hi] at hn
      rw [ei]
      unfold CallP at hc hz
      have e2 : (cs.length : Int) - 1 - ((t + 1 : Nat) : Int) = ((cs.length - 1 - t : Nat) : Int) - 1 := by omega
      rw [e2] at hn
      unfold turnC endOf at hn
      simp only [if_pos (show ((cs.length - 1 - t : Nat) : Int) ≥ 0 by omega), if_pos (show 0 ≤ ((cs.length - 1 - t : Nat) : Int) by omega), if_pos (show ((cs.length - 1 - t : Nat) : Int) < (cs.length : Int) by omega), if_pos (show (turnedSo cs st t).length < 5864062014805 by omega)]
      rw [wrap_id (x := ((cs.length - 1 - t : Nat) : Int) - 1) (by omega) (by omega), wrap_id (x := st + _) (by omega) (by omega), wrap_id (by omega) (by omega), wrap_id (by omega) (by omega)]
      exact hn
    · refine Ev.step (fun k => by simp only [spec_Back.l0]; rfl) ?_
      simp only [if_neg (show ¬ (cs.length : Int) - 1 - (cs.length : Int) ≥ 0 by omega), turnedSo_all]
      refine Ev.bind (ev_spec_TripOk s _ hs (by simp [turned]; omega) (decide (TripP s (turned cs st))) decide_eq_true_iff) ?_
      refine Ev.ite (fun h3 => ev_val ?_) (fun h3 => ev_val ?_)
      · unfold backOf; rw [if_pos ⟨⟨ht, h2⟩, of_decide_eq_true h3⟩]
      · unfold backOf; rw [if_neg (fun g => h3 (decide_eq_true g.2))]
  · simp only [decide_eq_false h2, Bool.not_false]
    exact bad (fun g => h2 g.2)

theorem ev_impl_nameOk (s : ByteArray) (hs : s.size ≤ 4611686018427387904) (b : Bool) (hb : b = true ↔ NameP s) : Ev (fun k => impl_nameOk.f k s) b := by
  unfold impl_nameOk.f
  have bad : ¬ (1 ≤ (s.size : Int) ∧ (s.size : Int) ≤ 12) → Ev (fun k => impl_nameOk.j0 k s true) b := fun h =>
    Ev.step (fun k => by simp only [impl_nameOk.j0]; rfl) (ev_val (bool_not hb fun e => h e.2).symm)
  refine Ev.ite (fun h => bad (by omega)) (fun h => ?_)
  by_cases h2 : (s.size : Int) > 12
  · simp only [decide_eq_true h2]
    exact bad (by omega)
  simp only [decide_eq_false h2]
  refine Ev.step (fun k => by simp only [impl_nameOk.j0]; rfl) ?_
  simp only [Bool.false_eq_true, if_false]
  refine ev_allI s.size (fun i => ByteP (bt s (i : Int))) (fun k i => impl_nameOk.l0 k s (i : Int)) _ hb ?_ ?_ ?_
  · intro i hi hp hn
    refine Ev.step (fun k => by simp only [impl_nameOk.l0]; rfl) ?_
    unfold ByteP at hp
    rw [wrap_succ hi (by omega)]
    repeat' first
      | exact hn
      | refine Ev.ite (fun _ => ?_) (fun _ => ?_)
      | (exfalso; omega)
  · intro i hi hp
    refine Ev.step (fun k => by simp only [impl_nameOk.l0]; rfl) ?_
    unfold ByteP at hp
    repeat' first
      | refine Ev.ite (fun _ => ?_) (fun _ => ?_)
      | exact ev_val rfl
      | (exfalso; omega)
  · intro _ hq
    refine Ev.step (fun k => by simp only [impl_nameOk.l0]; rfl) ?_
    simp only [if_neg (show ¬ (s.size : Int) < (s.size : Int) by omega)]
    exact ev_val (hq.2 (by omega)).symm

theorem eq_impl_between (a b c : Int) : impl_between.f a b c = some (decide (b ≤ a ∧ a ≤ c)) := by
  unfold impl_between.f
  by_cases h : a ≥ b
  · rw [if_pos h]; simp [show b ≤ a from h]
  · rw [if_neg h]; simp [show ¬ b ≤ a from h]

theorem eq_impl_isMinute (a : Int) : impl_isMinute.f a = some (decide (0 ≤ a ∧ a ≤ 100000)) := by
  unfold impl_isMinute.f
  rw [eq_impl_between]
  rfl

theorem ev_impl_TripOk (s : ByteArray) (cs : List S55) (hs : s.size ≤ 4611686018427387904) (hl : cs.length ≤ 4611686018427387904) (b : Bool) (hb : b = true ↔ TripP s cs) : Ev (fun k => impl_TripOk.f k s cs) b := by
  classical
  unfold impl_TripOk.f
  have bad : ¬ (NameP s ∧ 2 ≤ (cs.length : Int) ∧ (cs.length : Int) ≤ 12) → Ev (fun k => impl_TripOk.j0 k true s cs) b := fun h =>
    Ev.step (fun k => by simp only [impl_TripOk.j0]; rfl) (ev_val (bool_not hb fun e => h e.2).symm)
  refine Ev.bind (ev_impl_nameOk s hs (decide (NameP s)) decide_eq_true_iff) ?_
  refine Ev.ite (fun h => ?_) (fun h => ?_)
  · have hn := of_decide_eq_true h
    simp only [eq_impl_between, Option.bind_some]
    by_cases h2 : 2 ≤ (cs.length : Int) ∧ (cs.length : Int) ≤ 12
    · simp only [decide_eq_true h2, Bool.not_true]
      refine Ev.step (fun k => by simp only [impl_TripOk.j0]; rfl) ?_
      simp only [Bool.false_eq_true, if_false]
      refine ev_allI cs.length (StepP cs) (fun k i => impl_TripOk.l0 k cs (cs.length : Int) (i : Int) s cs) _ hb ?_ ?_ ?_
      · intro i hi hp hn
        refine Ev.step (fun k => by simp only [impl_TripOk.l0]; rfl) ?_
        unfold StepP CallP at hp
        simp only [eq_impl_between, eq_impl_isMinute, Option.bind_some, decide_eq_true_eq]
        repeat' first
          | exact hn
          | (rw [wrap_pred (by omega) (by omega)])
          | refine Ev.ite (fun _ => ?_) (fun _ => ?_)
          | refine Ev.step (fun k => by simp only [impl_TripOk.j2]; rfl) ?_
          | (rw [wrap_succ hi (by omega)])
          | (exfalso; first | omega | (simp only [decide_eq_true_eq, Bool.not_eq_true', decide_eq_false_iff_not, Bool.not_eq_false, not_true_eq_false] at *; done) | (simp only [decide_eq_true_eq, Bool.not_eq_true', decide_eq_false_iff_not, Bool.not_eq_false, not_true_eq_false] at *; omega))
      · intro i hi hp
        refine Ev.step (fun k => by simp only [impl_TripOk.l0]; rfl) ?_
        unfold StepP CallP at hp
        simp only [eq_impl_between, eq_impl_isMinute, Option.bind_some, decide_eq_true_eq]
        repeat' first
          | (rw [wrap_pred (by omega) (by omega)])
          | refine Ev.ite (fun _ => ?_) (fun _ => ?_)
          | exact ev_val rfl
          | refine Ev.step (fun k => by simp only [impl_TripOk.j2]; rfl) ?_
          | (exfalso; first | omega | (simp only [decide_eq_true_eq, Bool.not_eq_true', decide_eq_false_iff_not, Bool.not_eq_false, not_true_eq_false] at *; done) | (simp only [decide_eq_true_eq, Bool.not_eq_true', decide_eq_false_iff_not, Bool.not_eq_false, not_true_eq_false] at *; omega))
      · intro _ hq
        refine Ev.step (fun k => by simp only [impl_TripOk.l0]; rfl) ?_
        simp only [if_neg (show ¬ (cs.length : Int) < (cs.length : Int) by omega)]
        exact ev_val (hq.2 ⟨hn, h2⟩).symm
    · simp only [decide_eq_false h2, Bool.not_false]
      exact bad (fun g => h2 g.2)
  · exact bad (fun g => h (decide_eq_true g.1))

def nowAt (cs : List S55) (st : Int) (t : Nat) : Int := if t < cs.length then endOf cs st - (rd_T55 cs ((cs.length - 1 - t : Nat) : Int)).f2 else endOf cs st - (rd_T55 cs 0).f1
theorem ev_impl_Back (s : ByteArray) (cs : List S55) (st : Int) (hs : s.size ≤ 4611686018427387904) (hl : cs.length ≤ 1048576) : Ev (fun k => impl_Back.f k s cs st) (backOf s cs st) := by
  classical
  unfold impl_Back.f
  have bad : ¬ (TripP s cs ∧ 0 ≤ st ∧ st ≤ 100000) → Ev (fun k => impl_Back.j0 k st true s cs) (backOf s cs st) := fun h =>
    Ev.step (fun k => by simp only [impl_Back.j0]; rfl) (ev_val (by unfold backOf; rw [if_neg (fun g => h g.1)]))
  refine Ev.bind (ev_impl_TripOk s cs hs (by omega) (decide (TripP s cs)) decide_eq_true_iff) ?_
  refine Ev.ite (fun h => ?_) (fun h => bad (fun g => h (decide_eq_true g.1)))
  have ht := of_decide_eq_true h
  have h2n := ht.2.2
  simp only [eq_impl_isMinute, Option.bind_some]
  by_cases h2 : 0 ≤ st ∧ st ≤ 100000
  · simp only [decide_eq_true h2, Bool.not_true]
    refine Ev.step (fun k => by simp only [impl_Back.j0]; rfl) ?_
    have ew : wrap64 ((cs.length : Int) - 1) = ((cs.length - 1 : Nat) : Int) := wrap_pred (by omega) (by omega)
    simp only [Bool.false_eq_true, if_false, ew]
    have key := ev_fold (fun k t => impl_Back.l0 k (nowAt cs st t) ((cs.length : Int) - 1 - (t : Int)) s cs s (turnedSo cs st t)) cs.length (r := backOf s cs st) ?_ ?_
    · have e : (cs.length : Int) - 1 - ((0 : Nat) : Int) = ((cs.length - 1 : Nat) : Int) := by omega
      have e0 : nowAt cs st 0 = st := by
        unfold nowAt endOf
        rw [if_pos (by omega)]
        simp only [Nat.sub_zero]
        omega
      simp only [e, e0, turnedSo_zero] at key
      exact key
    · intro t hi hn
      refine Ev.step (fun k => by simp only [impl_Back.l0]; rfl) ?_
      have ei : (cs.length : Int) - 1 - (t : Int) = ((cs.length - 1 - t : Nat) : Int) := by omega
      have hc := (ht.1 (cs.length - 1 - t) (by omega)).1
      have hz := (ht.1 (cs.length - 1) (by omega)).1
      have hlen := turnedSo_len cs st t (by omega)
      rw [turnedSo_succ cs st t hi] at hn
      rw [ei]
      unfold CallP at hc hz
      have e2 : (cs.length : Int) - 1 - ((t + 1 : Nat) : Int) = ((cs.length - 1 - t : Nat) : Int) - 1 := by omega
      rw [e2] at hn
      have en : nowAt cs st t = endOf cs st - (rd_T55 cs ((cs.length - 1 - t : Nat) : Int)).f2 := by unfold nowAt; rw [if_pos hi]
      rw [en]
      unfold turnC at hn
      have hE : endOf cs st = st + (rd_T55 cs ((cs.length - 1 : Nat) : Int)).f2 := rfl
      simp only [if_pos (show ((cs.length - 1 - t : Nat) : Int) ≥ 0 by omega), if_pos (show 0 ≤ ((cs.length - 1 - t : Nat) : Int) by omega), if_pos (show ((cs.length - 1 - t : Nat) : Int) < (cs.length : Int) by omega), if_pos (show (turnedSo cs st t).length < 5864062014805 by omega), Option.bind_some]
      rw [wrap_id (x := endOf cs st - (rd_T55 cs ((cs.length - 1 - t : Nat) : Int)).f2 + (rd_T55 cs ((cs.length - 1 - t : Nat) : Int)).f2) (by omega) (by omega), wrap_id (x := endOf cs st - (rd_T55 cs ((cs.length - 1 - t : Nat) : Int)).f2 + (rd_T55 cs ((cs.length - 1 - t : Nat) : Int)).f2 - (rd_T55 cs ((cs.length - 1 - t : Nat) : Int)).f1) (by omega) (by omega)]
      rw [show endOf cs st - (rd_T55 cs ((cs.length - 1 - t : Nat) : Int)).f2 + (rd_T55 cs ((cs.length - 1 - t : Nat) : Int)).f2 - (rd_T55 cs ((cs.length - 1 - t : Nat) : Int)).f1 = endOf cs st - (rd_T55 cs ((cs.length - 1 - t : Nat) : Int)).f1 by omega]
      refine Ev.ite (fun h5 => ?_) (fun h5 => ?_)
      · have hc2 := (ht.1 (cs.length - 1 - t - 1) (by omega)).1
        unfold CallP at hc2
        rw [wrap_pred (i := cs.length - 1 - t) (by omega) (by omega)]
        simp only [if_pos (show 0 ≤ ((cs.length - 1 - t - 1 : Nat) : Int) by omega), if_pos (show ((cs.length - 1 - t - 1 : Nat) : Int) < (cs.length : Int) by omega)]
        have en2 : nowAt cs st (t + 1) = endOf cs st - (rd_T55 cs ((cs.length - 1 - t - 1 : Nat) : Int)).f2 := by
          unfold nowAt
          rw [if_pos (by omega), show cs.length - 1 - (t + 1) = cs.length - 1 - t - 1 by omega]
        rw [en2, show ((cs.length - 1 - t : Nat) : Int) - 1 = ((cs.length - 1 - t - 1 : Nat) : Int) by omega] at hn
        rw [wrap_id (x := (rd_T55 cs ((cs.length - 1 - t : Nat) : Int)).f2 - _) (by omega) (by omega), wrap_id (x := (rd_T55 cs ((cs.length - 1 - t : Nat) : Int)).f1 - _) (by omega) (by omega), wrap_id (x := endOf cs st - (rd_T55 cs ((cs.length - 1 - t : Nat) : Int)).f2 + ((rd_T55 cs ((cs.length - 1 - t : Nat) : Int)).f2 - (rd_T55 cs ((cs.length - 1 - t : Nat) : Int)).f1)) (by omega) (by omega), wrap_id (x := endOf cs st - (rd_T55 cs ((cs.length - 1 - t : Nat) : Int)).f2 + ((rd_T55 cs ((cs.length - 1 - t : Nat) : Int)).f2 - (rd_T55 cs ((cs.length - 1 - t : Nat) : Int)).f1) + ((rd_T55 cs ((cs.length - 1 - t : Nat) : Int)).f1 - (rd_T55 cs ((cs.length - 1 - t - 1 : Nat) : Int)).f2)) (by omega) (by omega)]
        rw [show endOf cs st - (rd_T55 cs ((cs.length - 1 - t : Nat) : Int)).f2 + ((rd_T55 cs ((cs.length - 1 - t : Nat) : Int)).f2 - (rd_T55 cs ((cs.length - 1 - t : Nat) : Int)).f1) + ((rd_T55 cs ((cs.length - 1 - t : Nat) : Int)).f1 - (rd_T55 cs ((cs.length - 1 - t - 1 : Nat) : Int)).f2) = endOf cs st - (rd_T55 cs ((cs.length - 1 - t - 1 : Nat) : Int)).f2 by omega]
        exact hn
      · have e0 : cs.length - 1 - t = 0 := by omega
        have en2 : nowAt cs st (t + 1) = endOf cs st - (rd_T55 cs ((cs.length - 1 - t : Nat) : Int)).f1 := by
          unfold nowAt
          rw [if_neg (by omega), e0]
          rfl
        rw [en2] at hn
        rw [wrap_id (x := ((cs.length - 1 - t : Nat) : Int) - 1) (by omega) (by omega), wrap_id (x := (rd_T55 cs ((cs.length - 1 - t : Nat) : Int)).f2 - _) (by omega) (by omega), wrap_id (x := endOf cs st - (rd_T55 cs ((cs.length - 1 - t : Nat) : Int)).f2 + ((rd_T55 cs ((cs.length - 1 - t : Nat) : Int)).f2 - (rd_T55 cs ((cs.length - 1 - t : Nat) : Int)).f1)) (by omega) (by omega)]
        rw [show endOf cs st - (rd_T55 cs ((cs.length - 1 - t : Nat) : Int)).f2 + ((rd_T55 cs ((cs.length - 1 - t : Nat) : Int)).f2 - (rd_T55 cs ((cs.length - 1 - t : Nat) : Int)).f1) = endOf cs st - (rd_T55 cs ((cs.length - 1 - t : Nat) : Int)).f1 by omega]
        exact hn
    · refine Ev.step (fun k => by simp only [impl_Back.l0]; rfl) ?_
      simp only [if_neg (show ¬ (cs.length : Int) - 1 - (cs.length : Int) ≥ 0 by omega), turnedSo_all]
      refine Ev.bind (ev_impl_TripOk s _ hs (by simp [turned]; omega) (decide (TripP s (turned cs st))) decide_eq_true_iff) ?_
      refine Ev.ite (fun h3 => ev_val ?_) (fun h3 => ev_val ?_)
      · unfold backOf; rw [if_pos ⟨⟨ht, h2⟩, of_decide_eq_true h3⟩]
      · unfold backOf; rw [if_neg (fun g => h3 (decide_eq_true g.2))]
  · simp only [decide_eq_false h2, Bool.not_false]
    exact bad (fun g => h2 g.2)

theorem eq_laws_eqCall (a0 a1 a2 b0 b1 b2 : Int) : laws_eqCall.f a0 a1 a2 b0 b1 b2 = some (decide (a0 = b0 ∧ a1 = b1 ∧ a2 = b2)) := by
  unfold laws_eqCall.f
  (repeat' split) <;> simp_all
theorem ev_laws_eqCallS (xs ys : List S55) (hl : xs.length ≤ 4611686018427387904) (b : Bool) (hb : b = true ↔ xs = ys) : Ev (fun k => laws_eqCallS.f k xs ys) b := by
  unfold laws_eqCallS.f
  by_cases he : xs.length = ys.length
  · simp only [if_pos (show (xs.length : Int) = (ys.length : Int) by omega)]
    have e : ∀ (zs : List S55) (i : Nat) (hi : i < zs.length), rd_T55 zs (i : Int) = zs[i] := fun zs i hi => getD_nat _ hi
    refine ev_same xs ys he (fun k i => laws_eqCallS.l0 k xs ys (i : Int)) hb ?_ ?_ ?_
    · intro i hi hi' e1 hn
      refine Ev.step (fun k => by simp only [laws_eqCallS.l0]; rfl) ?_
      simp only [if_pos (show (i : Int) < (xs.length : Int) by omega), if_pos (show 0 ≤ (i : Int) by omega), if_pos (show (i : Int) < (ys.length : Int) by omega), eq_laws_eqCall, e _ _ hi, e _ _ hi', e1, Option.bind_some, and_self, decide_true, if_true]
      rw [wrap_succ hi (by omega)]
      exact hn
    · intro i hi hi' e1
      refine Ev.step (fun k => by simp only [laws_eqCallS.l0]; rfl) ?_
      have e2 : ¬ (xs[i].f0 = ys[i].f0 ∧ xs[i].f1 = ys[i].f1 ∧ xs[i].f2 = ys[i].f2) := fun h => e1 (extCall _ _ h)
      simp only [if_pos (show (i : Int) < (xs.length : Int) by omega), if_pos (show 0 ≤ (i : Int) by omega), if_pos (show (i : Int) < (ys.length : Int) by omega), eq_laws_eqCall, e _ _ hi, e _ _ hi', decide_eq_false e2, Option.bind_some]
      exact ev_val rfl
    · refine Ev.step (fun k => by simp only [laws_eqCallS.l0]; rfl) ?_
      simp only [if_neg (show ¬ (xs.length : Int) < (xs.length : Int) by omega)]
      exact ev_val rfl
  · simp only [if_neg (show ¬ (xs.length : Int) = (ys.length : Int) by omega)]
    exact ev_val (bool_not hb fun e => he (by rw [e])).symm

theorem ev_laws_eqTrip_same (s : ByteArray) (cs : List S55) (hl : cs.length ≤ 1048576) : Ev (fun k => laws_eqTrip.f k s cs s cs) true := by
  unfold laws_eqTrip.f
  simp only [if_true]
  exact Ev.bind (ev_laws_eqCallS _ _ (by omega) true (by simp)) (ev_val rfl)

def mkCall (a : Int) (i : Nat) : S55 := ⟨a + 3 * (i : Int), a + 3 * (i : Int) + 1, a + 3 * (i : Int) + 2⟩
def markedCall (m : Nat) (a : Int) : List S55 := (List.range m).map fun i => mkCall a i
theorem markedCall_length (m : Nat) (a : Int) : (markedCall m a).length = m := by simp [markedCall]
theorem marked_setCall (i : Nat) (a : Int) (xs : List S55) (hi : i < xs.length) : (markedCall i a ++ xs.drop i).set i (mkCall a i) = markedCall (i + 1) a ++ xs.drop (i + 1) := by
  have hl : (markedCall i a).length = i := by simp [markedCall]
  rw [List.set_append_right _ _ (by omega), hl, Nat.sub_self, List.drop_eq_getElem_cons hi, List.set_cons_zero]
  simp [markedCall, List.range_succ]
theorem rds_Call (xs : List S55) (i : Nat) (v : S55) (hi : i < xs.length) : rd_T55 (xs.set i v) (i : Int) = v := by
  have h : i < (xs.set i v).length := by rw [List.length_set]; exact hi
  have e : rd_T55 (xs.set i v) (i : Int) = (xs.set i v)[i] := getD_nat _ h
  rw [e, List.getElem_set_self]
theorem ev_laws_markCallS (xs : List S55) (hl : xs.length ≤ 4194304) (a : Int) (h0 : 0 ≤ a) (h1 : a ≤ 1152921504606846976) : Ev (fun k => laws_markCallS.f k xs a) (a + 3 * (xs.length : Int), markedCall xs.length a) := by
  unfold laws_markCallS.f
  have hlen : ∀ i, i < xs.length → (markedCall i a ++ xs.drop i).length = xs.length := by
    intro i hi
    simp [markedCall]
    omega
  have key := ev_fold (fun k i => laws_markCallS.l0 k (markedCall i a ++ xs.drop i) (a + 3 * (i : Int)) (i : Int)) xs.length (r := (a + 3 * (xs.length : Int), markedCall xs.length a)) ?_ ?_
  · have e : a + 3 * 0 = a := by omega
    simpa [markedCall] using key
  · intro i hi hn
    refine Ev.step (fun k => by simp only [laws_markCallS.l0]; rfl) ?_
    have hlt : i < (markedCall i a ++ xs.drop i).length := by rw [hlen i hi]; omega
    simp only [if_pos (show (i : Int) < ((markedCall i a ++ xs.drop i).length : Int) by omega), if_pos (show 0 ≤ (i : Int) by omega), Int.toNat_natCast, Option.bind_some]
    simp only [rds_Call _ _ _ hlt, List.length_set, List.set_set]
    rw [wrap_id (x := a + 3 * (i : Int) + 1) (by omega) (by omega)]
    rw [wrap_id (x := a + 3 * (i : Int) + 1 + 1) (by omega) (by omega), show a + 3 * (i : Int) + 1 + 1 = a + 3 * (i : Int) + 2 by omega]
    rw [wrap_id (x := a + 3 * (i : Int) + 2 + 1) (by omega) (by omega)]
    rw [wrap_succ hi (by omega)]
    have e := marked_setCall i a xs hi
    unfold mkCall at e
    simp only [e]
    rw [show a + 3 * (i : Int) + 2 + 1 = a + 3 * ((i + 1 : Nat) : Int) by omega]
    exact hn
  · refine Ev.step (fun k => by simp only [laws_markCallS.l0]; rfl) ?_
    have e : markedCall xs.length a ++ xs.drop xs.length = markedCall xs.length a := by simp
    rw [e]
    simp only [markedCall_length, if_neg (show ¬ (xs.length : Int) < (xs.length : Int) by omega)]
    exact ev_val rfl
theorem ev_laws_heldCallS (m : Nat) (hl : m ≤ 4194304) (a : Int) (h0 : 0 ≤ a) (h1 : a ≤ 1152921504606846976) : Ev (fun k => laws_heldCallS.f k (markedCall m a) a) (a + 3 * (m : Int)) := by
  unfold laws_heldCallS.f
  have e : ∀ i (hi : i < m), (markedCall m a)[i]'(by rw [markedCall_length]; exact hi) = mkCall a i := by
    intro i hi
    simp [markedCall]
  have key := ev_fold (fun k i => laws_heldCallS.l0 k (markedCall m a) (a + 3 * (i : Int)) (i : Int)) m (r := a + 3 * (m : Int)) ?_ ?_
  · simpa using key
  · intro i hi hn
    refine Ev.step (fun k => by simp only [laws_heldCallS.l0]; rfl) ?_
    have e2 : rd_T55 (markedCall m a) (i : Int) = mkCall a i := by
      have e1 : rd_T55 (markedCall m a) (i : Int) = (markedCall m a)[i]'(by rw [markedCall_length]; exact hi) := getD_nat _ _
      rw [e1]; exact e i hi
    simp only [if_pos (show (i : Int) < ((markedCall m a).length : Int) by rw [markedCall_length]; omega), if_pos (show 0 ≤ (i : Int) by omega), e2, mkCall, if_true]
    rw [wrap_id (x := a + 3 * (i : Int) + 1) (by omega) (by omega)]
    simp only [if_true]
    rw [wrap_id (x := a + 3 * (i : Int) + 1 + 1) (by omega) (by omega), show a + 3 * (i : Int) + 1 + 1 = a + 3 * (i : Int) + 2 by omega]
    simp only [if_true]
    rw [wrap_id (x := a + 3 * (i : Int) + 2 + 1) (by omega) (by omega)]
    rw [wrap_succ hi (by omega)]
    rw [show a + 3 * (i : Int) + 2 + 1 = a + 3 * ((i + 1 : Nat) : Int) by omega]
    exact hn
  · refine Ev.step (fun k => by simp only [laws_heldCallS.l0]; rfl) ?_
    simp only [markedCall_length, if_neg (show ¬ (m : Int) < (m : Int) by omega)]
    exact ev_val rfl

theorem ev_laws_markTrip (s : ByteArray) (cs : List S55) (hl : cs.length ≤ 4194304) : Ev (fun k => laws_markTrip.f k s cs 1) (1 + 3 * (cs.length : Int), markedCall cs.length 1) := by
  unfold laws_markTrip.f
  exact Ev.bind (ev_laws_markCallS cs hl 1 (by omega) (by omega)) (ev_val rfl)
theorem ev_laws_heldTrip (s : ByteArray) (m : Nat) (hl : m ≤ 4194304) : Ev (fun k => laws_heldTrip.f k s (markedCall m 1) 1) (1 + 3 * (m : Int)) := by
  unfold laws_heldTrip.f
  refine Ev.bind (ev_laws_heldCallS m hl 1 (by omega) (by omega)) ?_
  simp only [if_neg (show ¬ 1 + 3 * (m : Int) < 0 by omega)]
  exact ev_val rfl

theorem back_len (s : ByteArray) (cs : List S55) (b : Int) : (backOf s cs b).2.length ≤ cs.length := by
  unfold backOf
  split
  · simp [turned]
  · simp
theorem FnExactBack : RFnExactBack.Pure := by
  intro x b ⟨hs, hm, _⟩ _
  refine Ev.rounds ?_
  unfold laws_FnExactBack.f
  rw [eq_laws_szTrip _ _ _ hs hm (by omega) (by omega)]
  simp only [Option.bind_some]
  refine Ev.ite (fun _ => ev_val rfl) (fun hbig => ?_)
  have hz := sz2_ok hbig
  have hl : x.f1.length ≤ 1048576 := by omega
  have hs' : x.f0.size ≤ 4611686018427387904 := by omega
  have hl' : (x.f1.map cvCall).length ≤ 1048576 := by simpa using hl
  have hr := back_len x.f0 (x.f1.map cvCall) b
  obtain ⟨r, er⟩ : ∃ r, r = backOf x.f0 (x.f1.map cvCall) b := ⟨_, rfl⟩
  have h1 := ev_spec_Back x.f0 (x.f1.map cvCall) b hs' hl'
  have h2 := ev_impl_Back x.f0 (x.f1.map cvCall) b hs' hl'
  rw [← er] at h1 h2 hr
  refine Ev.bind (ev_laws_toTrip _ _ hl) ?_
  refine Ev.bind h1 ?_
  refine Ev.bind (ev_laws_toTrip _ _ hl) ?_
  refine Ev.bind h2 ?_
  refine Ev.bind (ev_laws_eqTrip_same _ _ (by omega)) ?_
  simp only [if_true]
  refine Ev.bind (ev_laws_toTrip _ _ hl) ?_
  refine Ev.bind (ev_laws_eqTrip_same _ _ hl') ?_
  simp only [if_true]
  refine Ev.bind (ev_laws_markTrip _ _ (by omega)) ?_
  simp only [if_neg (show ¬ 1 + 3 * ((x.f1.map cvCall).length : Int) < 0 by omega)]
  refine Ev.bind (ev_laws_eqTrip_same _ _ (by omega)) ?_
  simp only [Bool.not_true]
  refine Ev.step (fun k => by simp only [laws_FnExactBack.j0]; rfl) ?_
  simp only [Bool.false_eq_true, if_false]
  refine Ev.bind (ev_laws_markTrip _ _ (by omega)) ?_
  refine Ev.bind (ev_laws_heldTrip _ _ (by omega)) ?_
  simp only [if_neg (show ¬ 1 + 3 * (r.2.length : Int) < 0 by omega), if_true]
  refine Ev.bind (ev_laws_toTrip _ _ hl) ?_
  refine Ev.bind h2 ?_
  refine Ev.bind (ev_laws_eqTrip_same _ _ (by omega)) ?_
  simp only [if_true]
  refine Ev.bind (ev_laws_heldTrip _ _ (by omega)) ?_
  simp only [if_neg (show ¬ 1 + 3 * (r.2.length : Int) < 0 by omega), if_true]
  exact ev_val rfl

end Go.Proofs.Ytoeedickghjdbaa.Pure
