/- The pure statement of the law FnExactFirstClash: what the program's functions and the reference's compute is told in plain words, and the two agree. -/
import Derived.Test.YtebgaiokpncacaaSFnExactFirstClash
import Derived.Test.YtebgaiokpncacaaPlFnExactFirstClash
namespace Go.Proofs.Ytebgaiokpncacaa.Pure
open Go.RowKit Go.Proofs.Ytebgaiokpncacaa.PFnExactFirstClash Go.Proofs.Ytebgaiokpncacaa.RFnExactFirstClash Go.Proofs.YtebgaiokpncacaaW.PrintWords Go.Proofs.YtebgaiokpncacaaW.PrintLast Go.Proofs.YtebgaiokpncacaaW.PrintMore Go.Proofs.Ytebgaiokpncacaa.Pl
set_option linter.unusedSimpArgs false
set_option linter.unusedVariables false
theorem eq_laws_szUseS (xs : List S23) (left : Int) (hl : xs.length ≤ maxLen) (h0 : 0 ≤ left) (h1 : left ≤ 1048576) : laws_szUseS.f xs left = some (if left < xs.length then -1 else left - xs.length) := by
  unfold laws_szUseS.f
  have hm : maxLen = 9223372036854775807 := rfl
  rw [wrap_id (by omega) (by omega)]
  by_cases h : left < xs.length
  · rw [if_pos h, if_pos (by omega)]
  · rw [if_neg h, if_neg (by omega)]

def cvUse (x : S23) : S25 := ⟨x.f0, x.f1, x.f2, x.f3, x.f4⟩
theorem extUse (a b : S25) (h : a.f0 = b.f0 ∧ a.f1 = b.f1 ∧ a.f2 = b.f2 ∧ a.f3 = b.f3 ∧ a.f4 = b.f4) : a = b := by
  cases a; cases b
  simp only at h
  simp [h]
theorem eq_laws_toUse (a0 a1 a2 a3 a4 : Int) : laws_toUse.f a0 a1 a2 a3 a4 = some (a0, a1, a2, a3, a4) := rfl
theorem ev_laws_toUseS (xs : List S23) (hl : xs.length ≤ 1048576) : Ev (fun k => laws_toUseS.f k xs) (xs.map cvUse) := by
  unfold laws_toUseS.f
  simp only [if_pos (show 0 ≤ (xs.length : Int) by omega), Int.toNat_natCast, if_pos (show xs.length ≤ 7036874417766 by omega)]
  refine ev_fill xs cvUse z25 (fun k s i => laws_toUseS.l0 k xs s (i : Int)) ?_ ?_
  · intro i hi s hs hn
    refine Ev.step (fun k => by simp only [laws_toUseS.l0]; rfl) ?_
    have e : rd_T23 xs (i : Int) = xs[i] := getD_nat _ hi
    simp only [if_pos (show (i : Int) < (xs.length : Int) by omega), if_pos (show 0 ≤ (i : Int) by omega), if_pos (show (i : Int) < (s.length : Int) by omega), eq_laws_toUse, Option.bind_some, e]
    rw [wrap_succ hi (by omega), Int.toNat_natCast]
    exact hn
  · refine Ev.step (fun k => by simp only [laws_toUseS.l0]; rfl) ?_
    simp only [if_neg (show ¬ (xs.length : Int) < (xs.length : Int) by omega)]
    exact ev_val rfl

def UseP (a b c d e : Int) : Prop := 0 ≤ a ∧ a ≤ 59 ∧ 0 ≤ b ∧ b ≤ 1 ∧ 0 ≤ c ∧ c < d ∧ d ≤ 100000 ∧ 0 ≤ e ∧ e ≤ 23
def ClashP (a0 a1 a2 a3 a4 b0 b1 b2 b3 b4 h : Int) : Prop := UseP a0 a1 a2 a3 a4 ∧ UseP b0 b1 b2 b3 b4 ∧ 0 ≤ h ∧ h ≤ 60 ∧ a0 = b0 ∧ (a1 ≠ b1 → a2 < b3 ∧ b2 < a3) ∧ (a1 = b1 → ¬ (a2 + h ≤ b2 ∧ a3 + h ≤ b3) ∧ ¬ (b2 + h ≤ a2 ∧ b3 + h ≤ a3))

theorem least_of {p : Nat → Prop} (h : ∃ n, p n) : ∃ n, p n ∧ ∀ m, m < n → ¬ p m := by
  classical
  obtain ⟨n, hn⟩ := h
  induction n using Nat.strongRecOn with
  | ind n ih =>
    by_cases hm : ∃ m, m < n ∧ p m
    · obtain ⟨m, h1, h2⟩ := hm
      exact ih m h1 h2
    · exact ⟨n, hn, fun m h1 h2 => hm ⟨m, h1, h2⟩⟩
/-- The first pair (by the first place, then by the second) for which hit holds, or none. -/
def PairR {R : Type} (n : Nat) (hit : Nat → Nat → Prop) (out : Nat → Nat → R) (fin r : R) : Prop :=
  (r = fin ∧ ∀ i j, i < j → j < n → ¬ hit i j) ∨ ∃ i j, r = out i j ∧ i < j ∧ j < n ∧ hit i j ∧ (∀ j', i < j' → j' < j → ¬ hit i j') ∧ ∀ i' j', i' < i → i' < j' → j' < n → ¬ hit i' j'
theorem PairR.exists {R : Type} (n : Nat) (hit : Nat → Nat → Prop) (out : Nat → Nat → R) (fin : R) : ∃ r, PairR n hit out fin r := by
  classical
  by_cases h : ∃ i, ∃ j, i < j ∧ j < n ∧ hit i j
  · obtain ⟨i, hi, mi⟩ := least_of h
    obtain ⟨j, ⟨h1, h2, h3⟩, mj⟩ := least_of hi
    exact ⟨out i j, .inr ⟨i, j, rfl, h1, h2, h3, fun j' g1 g2 hh => mj j' g2 ⟨g1, Nat.lt_trans g2 h2, hh⟩, fun i' j' g1 g2 g3 hh => mi i' g1 ⟨j', g2, g3, hh⟩⟩⟩
  · exact ⟨fin, .inl ⟨rfl, fun i j h1 h2 hh => h ⟨i, j, h1, h2, hh⟩⟩⟩
theorem ev_pairs {R : Type} (n : Nat) (hit : Nat → Nat → Prop) (out : Nat → Nat → R) (fin r : R) (L0 : Nat → Nat → Option R) (L1 : Nat → Nat → Nat → Option R)
    (h0 : ∀ i, i < n → Ev (fun k => L1 k i (i + 1)) r → Ev (fun k => L0 k i) r) (hend : Ev (fun k => L0 k n) fin)
    (h1 : ∀ i j, i < j → j < n → ¬ hit i j → Ev (fun k => L1 k i (j + 1)) r → Ev (fun k => L1 k i j) r)
    (hx : ∀ i j, i < j → j < n → hit i j → Ev (fun k => L1 k i j) (out i j))
    (he : ∀ i, i < n → Ev (fun k => L0 k (i + 1)) r → Ev (fun k => L1 k i n) r) (hr : PairR n hit out fin r) : Ev (fun k => L0 k 0) r := by
  classical
  have A : ∀ d i, i + d = n → (∀ i' j, i' < i → i' < j → j < n → ¬ hit i' j) → Ev (fun k => L0 k i) r := by
    intro d
    induction d with
    | zero =>
      intro i hi hno
      obtain rfl : i = n := by omega
      rcases hr with ⟨rfl, _⟩ | ⟨i0, j0, _, a1, a2, a3, _⟩
      · exact hend
      · exact absurd a3 (hno i0 j0 (by omega) a1 a2)
    | succ d ih =>
      intro i hi hno
      refine h0 i (by omega) ?_
      have B : ∀ e j, j + e = n → i < j → (∀ j', i < j' → j' < j → ¬ hit i j') → Ev (fun k => L1 k i j) r := by
        intro e
        induction e with
        | zero =>
          intro j hj _ hnj
          obtain rfl : j = n := by omega
          refine he i (by omega) (ih (i + 1) (by omega) fun i' j' g1 g2 g3 => ?_)
          rcases Nat.lt_or_ge i' i with hl | hg
          · exact hno i' j' hl g2 g3
          · obtain rfl : i' = i := by omega
            exact hnj j' g2 g3
        | succ e ihe =>
          intro j hj hij hnj
          by_cases hh : hit i j
          · have key : r = out i j := by
              rcases hr with ⟨_, a⟩ | ⟨i0, j0, a0, a1, a2, a3, a4, a5⟩
              · exact absurd hh (a i j hij (by omega))
              · have hi0 : i0 = i := by
                  rcases Nat.lt_trichotomy i0 i with hl | he | hg
                  · exact absurd a3 (hno i0 j0 hl a1 a2)
                  · exact he
                  · exact absurd hh (a5 i j hg hij (by omega))
                subst hi0
                have hj0 : j0 = j := by
                  rcases Nat.lt_trichotomy j0 j with hl | he | hg
                  · exact absurd a3 (hnj j0 a1 hl)
                  · exact he
                  · exact absurd hh (a4 j hij hg)
                subst hj0
                exact a0
            rw [key]
            exact hx i j hij (by omega) hh
          · refine h1 i j hij (by omega) hh (ihe (j + 1) (by omega) (by omega) fun j' g1 g2 => ?_)
            rcases Nat.lt_or_ge j' j with hl | hg
            · exact hnj j' g1 hl
            · obtain rfl : j' = j := by omega
              exact hh
      exact B (n - (i + 1)) (i + 1) (by omega) (by omega) (fun j' g1 g2 => by omega)
  exact A n 0 (by omega) (fun i' j g => absurd g (Nat.not_lt_zero _))

abbrev ClashU (a b : S25) (h : Int) : Prop := ClashP a.f0 a.f1 a.f2 a.f3 a.f4 b.f0 b.f1 b.f2 b.f3 b.f4 h
def HitP (xs : List S25) (h : Int) (i j : Nat) : Prop := (xs.getD i z25).f4 ≠ (xs.getD j z25).f4 ∧ ClashU (xs.getD i z25) (xs.getD j z25) h
/-- What FirstClash tells. -/
def FirstR (xs : List S25) (h : Int) (r : Int × Int) : Prop :=
  if (xs.length : Int) ≤ 300 ∧ 0 ≤ h ∧ h ≤ 60 then PairR xs.length (HitP xs h) (fun i j => ((i : Int), (j : Int))) (-1, -1) r else r = (-1, -1)
theorem FirstR.exists (xs : List S25) (h : Int) : ∃ r, FirstR xs h r := by
  unfold FirstR
  split
  · exact PairR.exists _ _ _ _
  · exact ⟨_, rfl⟩

theorem eq_spec_l01In (a b c : Int) : spec_l01In.f a b c = some (decide (b ≤ a ∧ a ≤ c)) := by
  unfold spec_l01In.f
  by_cases h : b ≤ a
  · rw [if_pos h]; simp [h]
  · rw [if_neg h]; simp [h]

theorem eq_spec_UseOk (a b c d e : Int) [Decidable (UseP a b c d e)] : spec_UseOk.f a b c d e = some (decide (UseP a b c d e)) := by
  unfold spec_UseOk.f
  simp only [eq_spec_l01In, Option.bind_some, wrap64]
  (repeat' split) <;> (refine congrArg some (Bool.eq_iff_iff.2 ?_); simp only [decide_eq_true_eq, Bool.false_eq_true, false_iff] at *; (try simp only [UseP] at *); omega)

theorem spec_Clash_j0_bad (k : Nat) (h a0 a1 a2 a3 a4 b0 b1 b2 b3 b4 : Int) : spec_Clash.j0 (k + 1) h true a0 a1 a2 a3 a4 b0 b1 b2 b3 b4 = some false := by
  simp [spec_Clash.j0]
theorem ev_spec_Clash (a0 a1 a2 a3 a4 b0 b1 b2 b3 b4 h : Int) [Decidable (ClashP a0 a1 a2 a3 a4 b0 b1 b2 b3 b4 h)] : Ev (fun k => spec_Clash.f k a0 a1 a2 a3 a4 b0 b1 b2 b3 b4 h) (decide (ClashP a0 a1 a2 a3 a4 b0 b1 b2 b3 b4 h)) := by
  classical
  unfold spec_Clash.f
  simp only [eq_spec_l01In, eq_spec_UseOk, Option.bind_some]
  by_cases h1 : UseP a0 a1 a2 a3 a4
  · by_cases h2 : UseP b0 b1 b2 b3 b4
    · simp only [h1, h2, decide_true, if_true]
      by_cases h3 : 0 ≤ h ∧ h ≤ 60
      · simp only [decide_eq_true h3, if_true]
        by_cases h4 : a0 = b0
        · have e : ∀ x : Int, UseP a0 a1 a2 a3 a4 → UseP b0 b1 b2 b3 b4 → (x = a2 ∨ x = a3 ∨ x = b2 ∨ x = b3) → wrap64 (x + h) = x + h := by
            intro x g1 g2 g3
            unfold UseP at g1 g2
            unfold wrap64
            omega
          have h5 : (a0 != b0) = false := by simp [h4]
          simp only [h5]
          refine Ev.step (fun k => by simp only [spec_Clash.j0]; rfl) ?_
          simp only [Bool.false_eq_true, if_false]
          rw [e a2 h1 h2 (by simp), e a3 h1 h2 (by simp), e b2 h1 h2 (by simp), e b3 h1 h2 (by simp)]
          refine ev_opt ?_
          unfold ClashP
          simp only [h1, h2, true_and]
          (repeat' split) <;> (refine congrArg some (Bool.eq_iff_iff.2 ?_); simp only [Option.bind_some, decide_eq_true_eq, Bool.false_eq_true, false_iff, Bool.not_eq_true', decide_eq_false_iff_not, Bool.not_false, true_iff] at *; omega)
        · have h5 : (a0 != b0) = true := by simp [h4]
          simp only [h5]
          refine Ev.step (fun k => by rw [spec_Clash_j0_bad]) (ev_val (decide_eq_false ?_).symm)
          exact fun g => h4 g.2.2.2.2.1
      · simp only [decide_eq_false h3, Bool.false_eq_true, if_false]
        refine Ev.step (fun k => by rw [spec_Clash_j0_bad]) (ev_val (decide_eq_false ?_).symm)
        unfold ClashP
        omega
    · simp only [h1, h2, decide_true, if_true, decide_false, Bool.false_eq_true, if_false]
      refine Ev.step (fun k => by rw [spec_Clash_j0_bad]) (ev_val (decide_eq_false ?_).symm)
      exact fun g => h2 g.2.1
  · simp only [h1, decide_false, Bool.false_eq_true, if_false]
    refine Ev.step (fun k => by rw [spec_Clash_j0_bad]) (ev_val (decide_eq_false ?_).symm)
    exact fun g => h1 g.1

theorem ev_spec_FirstClash (xs : List S25) (h : Int) (r : Int × Int) (hr : FirstR xs h r) : Ev (fun k => spec_FirstClash.f k xs h) r := by
  classical
  unfold spec_FirstClash.f
  have bad : Ev (fun k => spec_FirstClash.j0 k xs h true) (((-1), (-1)) : Int × Int) := Ev.step (fun k => by simp only [spec_FirstClash.j0]; rfl) (ev_val rfl)
  by_cases hl : (xs.length : Int) > 300
  · simp only [if_pos hl]
    unfold FirstR at hr
    rw [if_neg (by omega)] at hr
    rw [hr]
    exact bad
  simp only [if_neg hl, eq_spec_l01In, Option.bind_some]
  by_cases hh : 0 ≤ h ∧ h ≤ 60
  · simp only [decide_eq_true hh, Bool.not_true]
    unfold FirstR at hr
    rw [if_pos ⟨by omega, hh.1, hh.2⟩] at hr
    refine Ev.step (fun k => by simp only [spec_FirstClash.j0]; rfl) ?_
    simp only [Bool.false_eq_true, if_false]
    refine ev_pairs xs.length (HitP xs h) _ _ r (fun k i => spec_FirstClash.l0 k xs h (i : Int)) (fun k i j => spec_FirstClash.l1 k xs h (i : Int) (j : Int)) ?_ ?_ ?_ ?_ ?_ hr
    · intro i hi hn
      refine Ev.step (fun k => by simp only [spec_FirstClash.l0]; rfl) ?_
      simp only [if_pos (show (i : Int) < (xs.length : Int) by omega)]
      rw [wrap_succ hi (by omega)]
      exact hn
    · refine Ev.step (fun k => by simp only [spec_FirstClash.l0]; rfl) ?_
      simp only [if_neg (show ¬ (xs.length : Int) < (xs.length : Int) by omega)]
      exact ev_val rfl
    · intro i j hij hj hno hn
      refine Ev.step (fun k => by simp only [spec_FirstClash.l1]; rfl) ?_
      simp only [if_pos (show (j : Int) < (xs.length : Int) by omega), if_pos (show 0 ≤ (i : Int) by omega), if_pos (show (i : Int) < (xs.length : Int) by omega), if_pos (show 0 ≤ (j : Int) by omega)]
      rw [wrap_succ hj (by omega)]
      by_cases ht : (rd_T25 xs (i : Int)).f4 = (rd_T25 xs (j : Int)).f4
      · simp only [if_pos ht]
        exact hn
      · simp only [if_neg ht]
        refine Ev.bind (a := false) (Ev.cast (ev_spec_Clash _ _ _ _ _ _ _ _ _ _ _) (decide_eq_false fun g => hno ⟨ht, g⟩)) ?_
        simp only [Bool.false_eq_true, if_false]
        exact hn
    · intro i j hij hj hhit
      refine Ev.step (fun k => by simp only [spec_FirstClash.l1]; rfl) ?_
      simp only [if_pos (show (j : Int) < (xs.length : Int) by omega), if_pos (show 0 ≤ (i : Int) by omega), if_pos (show (i : Int) < (xs.length : Int) by omega), if_pos (show 0 ≤ (j : Int) by omega), if_neg (show ¬ (rd_T25 xs (i : Int)).f4 = (rd_T25 xs (j : Int)).f4 from hhit.1)]
      refine Ev.bind (a := true) (Ev.cast (ev_spec_Clash _ _ _ _ _ _ _ _ _ _ _) (decide_eq_true hhit.2)) ?_
      exact ev_val rfl
    · intro i hi hn
      refine Ev.step (fun k => by simp only [spec_FirstClash.l1]; rfl) ?_
      simp only [if_neg (show ¬ (xs.length : Int) < (xs.length : Int) by omega)]
      rw [wrap_succ hi (by omega)]
      exact hn
  · simp only [decide_eq_false hh, Bool.not_false]
    unfold FirstR at hr
    rw [if_neg (by omega)] at hr
    rw [hr]
    exact bad

theorem eq_impl_between (a b c : Int) : impl_between.f a b c = some (decide (b ≤ a ∧ a ≤ c)) := by
  unfold impl_between.f
  by_cases h : a ≥ b
  · rw [if_pos h]; simp [show b ≤ a from h]
  · rw [if_neg h]; simp [show ¬ b ≤ a from h]

theorem eq_impl_UseOk (a b c d e : Int) [Decidable (UseP a b c d e)] : impl_UseOk.f a b c d e = some (decide (UseP a b c d e)) := by
  unfold impl_UseOk.f
  simp only [eq_impl_between, Option.bind_some]
  (repeat' split) <;> (refine congrArg some (Bool.eq_iff_iff.2 ?_); simp only [decide_eq_true_eq, Bool.false_eq_true, false_iff] at *; (try simp only [UseP] at *); omega)

theorem eq_impl_Clash (a0 a1 a2 a3 a4 b0 b1 b2 b3 b4 h : Int) [Decidable (ClashP a0 a1 a2 a3 a4 b0 b1 b2 b3 b4 h)] : impl_Clash.f a0 a1 a2 a3 a4 b0 b1 b2 b3 b4 h = some (decide (ClashP a0 a1 a2 a3 a4 b0 b1 b2 b3 b4 h)) := by
  classical
  unfold impl_Clash.f impl_meet.f
  simp only [eq_impl_between, eq_impl_UseOk, Option.bind_some]
  by_cases h1 : UseP a0 a1 a2 a3 a4
  · by_cases h2 : UseP b0 b1 b2 b3 b4
    · simp only [h1, h2, decide_true, if_true]
      by_cases h3 : 0 ≤ h ∧ h ≤ 60
      · simp only [decide_eq_true h3, if_true]
        have e : ∀ x : Int, UseP a0 a1 a2 a3 a4 → UseP b0 b1 b2 b3 b4 → (x = a2 ∨ x = a3 ∨ x = b2 ∨ x = b3) → wrap64 (x + h) = x + h := by
          intro x g1 g2 g3
          unfold UseP at g1 g2
          unfold wrap64
          omega
        rw [e a2 h1 h2 (by simp), e a3 h1 h2 (by simp), e b2 h1 h2 (by simp), e b3 h1 h2 (by simp)]
        unfold ClashP
        simp only [h1, h2, true_and]
        (repeat' split) <;> (refine congrArg some (Bool.eq_iff_iff.2 ?_); simp only [Option.bind_some, decide_eq_true_eq, Bool.false_eq_true, false_iff, Bool.not_eq_true', decide_eq_false_iff_not, Bool.not_false, true_iff] at *; omega)
      · simp only [decide_eq_false h3]
        rw [if_neg (by simp), decide_eq_false]
        unfold ClashP
        omega
    · rw [decide_eq_false (p := ClashP a0 a1 a2 a3 a4 b0 b1 b2 b3 b4 h) (fun g => h2 g.2.1)]
      simp [h1, h2]
  · rw [decide_eq_false (p := ClashP a0 a1 a2 a3 a4 b0 b1 b2 b3 b4 h) (fun g => h1 g.1)]
    simp [h1]

theorem ev_impl_FirstClash (xs : List S25) (h : Int) (r : Int × Int) (hr : FirstR xs h r) : Ev (fun k => impl_FirstClash.f k xs h) r := by
  classical
  unfold impl_FirstClash.f
  have bad : Ev (fun k => impl_FirstClash.j0 k xs h true) (((-1), (-1)) : Int × Int) := Ev.step (fun k => by simp only [impl_FirstClash.j0]; rfl) (ev_val rfl)
  by_cases hl : (xs.length : Int) > 300
  · simp only [if_pos hl]
    unfold FirstR at hr
    rw [if_neg (by omega)] at hr
    rw [hr]
    exact bad
  simp only [if_neg hl, eq_impl_between, Option.bind_some]
  by_cases hh : 0 ≤ h ∧ h ≤ 60
  · simp only [decide_eq_true hh, Bool.not_true]
    unfold FirstR at hr
    rw [if_pos ⟨by omega, hh.1, hh.2⟩] at hr
    refine Ev.step (fun k => by simp only [impl_FirstClash.j0]; rfl) ?_
    simp only [Bool.false_eq_true, if_false]
    refine ev_pairs xs.length (HitP xs h) _ _ r (fun k i => impl_FirstClash.l0 k xs h xs (xs.length : Int) (i : Int)) (fun k i j => impl_FirstClash.l1 k xs h (i : Int) (j : Int) xs (xs.length : Int) (i : Int) (xs.getD i z25).f0 (xs.getD i z25).f1 (xs.getD i z25).f2 (xs.getD i z25).f3 (xs.getD i z25).f4) ?_ ?_ ?_ ?_ ?_ hr
    · intro i hi hn
      refine Ev.step (fun k => by simp only [impl_FirstClash.l0]; rfl) ?_
      simp only [if_pos (show (i : Int) < (xs.length : Int) by omega), if_pos (show 0 ≤ (i : Int) by omega), rd_T25, Int.toNat_natCast]
      rw [wrap_succ hi (by omega)]
      exact hn
    · refine Ev.step (fun k => by simp only [impl_FirstClash.l0]; rfl) ?_
      simp only [if_neg (show ¬ (xs.length : Int) < (xs.length : Int) by omega)]
      exact ev_val rfl
    · intro i j hij hj hno hn
      refine Ev.step (fun k => by simp only [impl_FirstClash.l1]; rfl) ?_
      simp only [if_pos (show (j : Int) < (xs.length : Int) by omega), if_pos (show 0 ≤ (j : Int) by omega), rd_T25, Int.toNat_natCast, eq_impl_Clash, Option.bind_some]
      rw [wrap_succ hj (by omega)]
      by_cases ht : (xs.getD i z25).f4 = (xs.getD j z25).f4
      · simp only [if_pos ht]
        exact hn
      · simp only [if_neg ht]
        rw [decide_eq_false (fun g => hno ⟨ht, g⟩)]
        simp only [Bool.false_eq_true, if_false]
        exact hn
    · intro i j hij hj hhit
      refine Ev.step (fun k => by simp only [impl_FirstClash.l1]; rfl) ?_
      simp only [if_pos (show (j : Int) < (xs.length : Int) by omega), if_pos (show 0 ≤ (j : Int) by omega), rd_T25, Int.toNat_natCast, if_neg hhit.1, eq_impl_Clash, Option.bind_some]
      rw [decide_eq_true hhit.2]
      exact ev_val rfl
    · intro i hi hn
      refine Ev.step (fun k => by simp only [impl_FirstClash.l1]; rfl) ?_
      simp only [if_neg (show ¬ (xs.length : Int) < (xs.length : Int) by omega)]
      rw [wrap_succ hi (by omega)]
      exact hn
  · simp only [decide_eq_false hh, Bool.not_false]
    unfold FirstR at hr
    rw [if_neg (by omega)] at hr
    rw [hr]
    exact bad

theorem eq_laws_eqUse (a0 a1 a2 a3 a4 b0 b1 b2 b3 b4 : Int) : laws_eqUse.f a0 a1 a2 a3 a4 b0 b1 b2 b3 b4 = some (decide (a0 = b0 ∧ a1 = b1 ∧ a2 = b2 ∧ a3 = b3 ∧ a4 = b4)) := by
  unfold laws_eqUse.f
  (repeat' split) <;> simp_all
theorem ev_laws_eqUseS (xs ys : List S25) (hl : xs.length ≤ 4611686018427387904) (b : Bool) (hb : b = true ↔ xs = ys) : Ev (fun k => laws_eqUseS.f k xs ys) b := by
  unfold laws_eqUseS.f
  by_cases he : xs.length = ys.length
  · simp only [if_pos (show (xs.length : Int) = (ys.length : Int) by omega)]
    have e : ∀ (zs : List S25) (i : Nat) (hi : i < zs.length), rd_T25 zs (i : Int) = zs[i] := fun zs i hi => getD_nat _ hi
    refine ev_same xs ys he (fun k i => laws_eqUseS.l0 k xs ys (i : Int)) hb ?_ ?_ ?_
    · intro i hi hi' e1 hn
      refine Ev.step (fun k => by simp only [laws_eqUseS.l0]; rfl) ?_
      simp only [if_pos (show (i : Int) < (xs.length : Int) by omega), if_pos (show 0 ≤ (i : Int) by omega), if_pos (show (i : Int) < (ys.length : Int) by omega), eq_laws_eqUse, e _ _ hi, e _ _ hi', e1, Option.bind_some, and_self, decide_true, if_true]
      rw [wrap_succ hi (by omega)]
      exact hn
    · intro i hi hi' e1
      refine Ev.step (fun k => by simp only [laws_eqUseS.l0]; rfl) ?_
      have e2 : ¬ (xs[i].f0 = ys[i].f0 ∧ xs[i].f1 = ys[i].f1 ∧ xs[i].f2 = ys[i].f2 ∧ xs[i].f3 = ys[i].f3 ∧ xs[i].f4 = ys[i].f4) := fun h => e1 (extUse _ _ h)
      simp only [if_pos (show (i : Int) < (xs.length : Int) by omega), if_pos (show 0 ≤ (i : Int) by omega), if_pos (show (i : Int) < (ys.length : Int) by omega), eq_laws_eqUse, e _ _ hi, e _ _ hi', decide_eq_false e2, Option.bind_some]
      exact ev_val rfl
    · refine Ev.step (fun k => by simp only [laws_eqUseS.l0]; rfl) ?_
      simp only [if_neg (show ¬ (xs.length : Int) < (xs.length : Int) by omega)]
      exact ev_val rfl
  · simp only [if_neg (show ¬ (xs.length : Int) = (ys.length : Int) by omega)]
    exact ev_val (bool_not hb fun e => he (by rw [e])).symm

theorem FnExactFirstClash : RFnExactFirstClash.Pure := by
  intro xs h ⟨hm, _⟩ _
  refine Ev.rounds ?_
  unfold laws_FnExactFirstClash.f
  rw [eq_laws_szUseS xs _ hm (by omega) (by omega)]
  simp only [Option.bind_some]
  by_cases hbig : (1048576 : Int) < xs.length
  · simp only [if_pos hbig, if_pos (show (-1 : Int) < 0 by omega)]
    exact ev_val rfl
  simp only [if_neg hbig, if_neg (show ¬ (1048576 - (xs.length : Int) < 0) by omega)]
  have hl : xs.length ≤ 1048576 := by omega
  have hl' : (xs.map cvUse).length ≤ 1048576 := by simpa using hl
  obtain ⟨r, hr⟩ := FirstR.exists (xs.map cvUse) h
  refine Ev.bind (ev_laws_toUseS xs hl) ?_
  refine Ev.bind (ev_spec_FirstClash _ _ _ hr) ?_
  refine Ev.bind (ev_laws_toUseS xs hl) ?_
  refine Ev.bind (ev_impl_FirstClash _ _ _ hr) ?_
  simp only [if_true, bne_self_eq_false]
  refine Ev.step (fun k => by simp only [laws_FnExactFirstClash.j0]; rfl) ?_
  simp only [Bool.false_eq_true, if_false]
  refine Ev.bind (ev_laws_toUseS xs hl) ?_
  refine Ev.bind (ev_laws_eqUseS _ _ (by omega) true (by simp)) ?_
  exact ev_val rfl

end Go.Proofs.Ytebgaiokpncacaa.Pure
