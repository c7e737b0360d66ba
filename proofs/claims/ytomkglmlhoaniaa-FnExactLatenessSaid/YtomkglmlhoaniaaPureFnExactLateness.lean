/- The pure statement of the law FnExactLateness: what the program's functions and the reference's compute is told in plain words, and the two agree. -/
import Derived.Test.YtomkglmlhoaniaaSFnExactLateness
import Derived.Test.YtomkglmlhoaniaaPlFnExactLateness
namespace Go.Proofs.Ytomkglmlhoaniaa.Pure
open Go.RowKit Go.Proofs.Ytomkglmlhoaniaa.PFnExactLateness Go.Proofs.Ytomkglmlhoaniaa.RFnExactLateness Go.Proofs.YtomkglmlhoaniaaW.PrintWords Go.Proofs.YtomkglmlhoaniaaW.PrintLast Go.Proofs.YtomkglmlhoaniaaW.PrintMore Go.Proofs.Ytomkglmlhoaniaa.Pl
set_option linter.unusedSimpArgs false
set_option linter.unusedVariables false
theorem Ev.ite {R : Type} {c : Prop} [Decidable c] {f g : Nat → Option R} {r : R} (h1 : c → Ev f r) (h2 : ¬ c → Ev g r) : Ev (fun k => if c then f k else g k) r := by
  by_cases h : c
  · simp only [if_pos h]; exact h1 h
  · simp only [if_neg h]; exact h2 h
theorem wrap_pred {i : Nat} (h : 0 < i) (hn : i ≤ 9223372036854775807) : wrap64 ((i : Int) - 1) = ((i - 1 : Nat) : Int) := by unfold wrap64; omega
/-- All places are right, or one is not. -/
theorem ev_allI (n : Nat) (P : Nat → Prop) (G : Nat → Nat → Option Bool) {b : Bool} (Q : Prop) (hb : b = true ↔ (∀ i, i < n → P i) ∧ Q)
    (hstep : ∀ i, i < n → P i → Ev (fun k => G k (i + 1)) b → Ev (fun k => G k i) b)
    (hbad : ∀ i, i < n → ¬ P i → Ev (fun k => G k i) false)
    (hend : (∀ i, i < n → P i) → (b = true ↔ Q) → Ev (fun k => G k n) b) : Ev (fun k => G k 0) b := by
  classical
  refine ev_run G (fun i => decide (¬ P i)) n ?_ ?_ ?_
  · intro i hi hc hn
    exact hstep i hi (Classical.not_not.1 (of_decide_eq_false hc)) hn
  · intro i hi hc _
    have hne := of_decide_eq_true hc
    exact Ev.cast (hbad i hi hne) (bool_not hb fun e => hne (e.1 i hi)).symm
  · intro hc
    have hp : ∀ i, i < n → P i := fun i hi => Classical.not_not.1 (of_decide_eq_false (hc i hi))
    exact hend hp ⟨fun h => (hb.1 h).2, fun h => hb.2 ⟨hp, h⟩⟩

theorem eq_laws_szLinkS (xs : List S70) (left : Int) (hl : xs.length ≤ maxLen) (h0 : 0 ≤ left) (h1 : left ≤ 1048576) : laws_szLinkS.f xs left = some (if left < xs.length then -1 else left - xs.length) := by
  unfold laws_szLinkS.f
  have hm : maxLen = 9223372036854775807 := rfl
  rw [wrap_id (by omega) (by omega)]
  by_cases h : left < xs.length
  · rw [if_pos h, if_pos (by omega)]
  · rw [if_neg h, if_neg (by omega)]

def cvLink (x : S70) : S53 := ⟨x.f0, x.f1, x.f2, x.f3⟩
theorem extLink (a b : S53) (h : a.f0 = b.f0 ∧ a.f1 = b.f1 ∧ a.f2 = b.f2 ∧ a.f3 = b.f3) : a = b := by
  cases a; cases b
  simp only at h
  simp [h]
theorem eq_laws_toLink (a0 a1 a2 a3 : Int) : laws_toLink.f a0 a1 a2 a3 = some (a0, a1, a2, a3) := rfl
theorem ev_laws_toLinkS (xs : List S70) (hl : xs.length ≤ 1048576) : Ev (fun k => laws_toLinkS.f k xs) (xs.map cvLink) := by
  unfold laws_toLinkS.f
  simp only [if_pos (show 0 ≤ (xs.length : Int) by omega), Int.toNat_natCast, if_pos (show xs.length ≤ 8796093022208 by omega)]
  refine ev_fill xs cvLink z53 (fun k s i => laws_toLinkS.l0 k xs s (i : Int)) ?_ ?_
  · intro i hi s hs hn
    refine Ev.step (fun k => by simp only [laws_toLinkS.l0]; rfl) ?_
    have e : rd_T70 xs (i : Int) = xs[i] := getD_nat _ hi
    simp only [if_pos (show (i : Int) < (xs.length : Int) by omega), if_pos (show 0 ≤ (i : Int) by omega), if_pos (show (i : Int) < (s.length : Int) by omega), eq_laws_toLink, Option.bind_some, e]
    rw [wrap_succ hi (by omega), Int.toNat_natCast]
    exact hn
  · refine Ev.step (fun k => by simp only [laws_toLinkS.l0]; rfl) ?_
    simp only [if_neg (show ¬ (xs.length : Int) < (xs.length : Int) by omega)]
    exact ev_val rfl

theorem ev_laws_toIntS (xs : List Int) (hl : xs.length ≤ 1048576) : Ev (fun k => laws_toIntS.f k xs) xs := by
  unfold laws_toIntS.f
  simp only [if_pos (show 0 ≤ (xs.length : Int) by omega), Int.toNat_natCast, if_pos (show xs.length ≤ 35184372088832 by omega)]
  refine ev_fill xs id 0 (fun k s i => laws_toIntS.l0 k xs s (i : Int)) ?_ ?_
  · intro i hi s hs hn
    refine Ev.step (fun k => by simp only [laws_toIntS.l0]; rfl) ?_
    simp only [if_pos (show (i : Int) < (xs.length : Int) by omega), if_pos (show 0 ≤ (i : Int) by omega), if_pos (show (i : Int) < (s.length : Int) by omega)]
    rw [wrap_succ hi (by omega), rd_nat hi, Int.toNat_natCast]
    exact hn
  · refine Ev.step (fun k => by simp only [laws_toIntS.l0]; rfl) ?_
    simp only [if_neg (show ¬ (xs.length : Int) < (xs.length : Int) by omega)]
    exact ev_val (by simp)

theorem eq_laws_szIntS (xs : List Int) (left : Int) (hl : xs.length ≤ maxLen) (h0 : 0 ≤ left) (h1 : left ≤ 1048576) : laws_szIntS.f xs left = some (if left < xs.length then -1 else left - xs.length) := by
  unfold laws_szIntS.f
  have hm : maxLen = 9223372036854775807 := rfl
  rw [wrap_id (by omega) (by omega)]
  by_cases h : left < xs.length
  · rw [if_pos h, if_pos (by omega)]
  · rw [if_neg h, if_neg (by omega)]
theorem eq_laws_szWork (plan : List Int) (links : List S70) (wait left : Int) (hs : plan.length ≤ maxLen) (hl : links.length ≤ maxLen) (h0 : 0 ≤ left) (h1 : left ≤ 1048576) :
    laws_szWork.f plan links wait left = some (if left < plan.length then -1 else if left - plan.length < links.length then -1 else left - plan.length - links.length) := by
  unfold laws_szWork.f
  rw [eq_laws_szIntS plan _ hs h0 h1]
  simp only [Option.bind_some]
  by_cases h : left < plan.length
  · simp only [if_pos h]; rfl
  · simp only [if_neg h, if_neg (show ¬ left - (plan.length : Int) < 0 by omega), eq_laws_szLinkS links _ hl (show 0 ≤ left - (plan.length : Int) by omega) (by omega), Option.bind_some]
    by_cases h2 : left - plan.length < links.length
    · simp only [if_pos h2]; rfl
    · simp only [if_neg h2, if_neg (show ¬ left - (plan.length : Int) - (links.length : Int) < 0 by omega)]
theorem sz2w_ok {left a b : Int} (h : ¬ (if left < a then -1 else if left - a < b then -1 else left - a - b) < 0) : a ≤ left ∧ b ≤ left - a := by
  by_cases h1 : left < a
  · rw [if_pos h1] at h; omega
  · rw [if_neg h1] at h
    by_cases h2 : left - a < b
    · rw [if_pos h2] at h; omega
    · omega
theorem ev_laws_toWork (plan : List Int) (links : List S70) (wait : Int) (hp : plan.length ≤ 1048576) (hl : links.length ≤ 1048576) : Ev (fun k => laws_toWork.f k plan links wait) (plan, links.map cvLink, wait) := by
  unfold laws_toWork.f
  exact Ev.bind (ev_laws_toIntS plan hp) (Ev.bind (ev_laws_toLinkS links hl) (ev_val rfl))

def LinkP (plan : List Int) (x : S53) : Prop := 0 ≤ x.f0 ∧ x.f0 < x.f1 ∧ x.f1 < plan.length ∧ 0 ≤ x.f2 ∧ x.f2 ≤ 1000 ∧ 0 ≤ x.f3 ∧ x.f3 ≤ 1 ∧ rd plan x.f0 + x.f2 ≤ rd plan x.f1
def WorkP (plan : List Int) (links : List S53) (wait : Int) : Prop :=
  ((plan.length : Int) ≤ 60 ∧ (links.length : Int) ≤ 150 ∧ 0 ≤ wait ∧ wait ≤ 60) ∧ (∀ i, i < plan.length → 0 ≤ rd plan (i : Int) ∧ rd plan (i : Int) ≤ 100000) ∧ ∀ i, i < links.length → LinkP plan (rd_T53 links (i : Int))
theorem rd_bd (plan : List Int) (h : ∀ i, i < plan.length → 0 ≤ rd plan (i : Int) ∧ rd plan (i : Int) ≤ 100000) (a : Int) (h0 : 0 ≤ a) (h1 : a < plan.length) : 0 ≤ rd plan a ∧ rd plan a ≤ 100000 := by
  have := h a.toNat (by omega)
  rw [show ((a.toNat : Nat) : Int) = a by omega] at this
  exact this

/-- A list of m marks, by place. -/
def kl (m : Nat) (f : Nat → Bool) : List Bool := (List.range m).map f
theorem kl_length (m : Nat) (f : Nat → Bool) : (kl m f).length = m := by simp [kl]
theorem kl_congr {m : Nat} {f g : Nat → Bool} (h : ∀ j, j < m → f j = g j) : kl m f = kl m g :=
  List.map_congr_left fun j hj => h j (List.mem_range.1 hj)
theorem kl_set (m : Nat) (f : Nat → Bool) (i : Nat) (b : Bool) : (kl m f).set i b = kl m (fun j => if j = i then b else f j) := by
  refine List.ext_getElem (by simp [kl]) fun j h1 h2 => ?_
  simp only [kl, List.getElem_set, List.getElem_map, List.getElem_range]
  by_cases e : i = j
  · rw [if_pos e, if_pos e.symm]
  · rw [if_neg e, if_neg (fun g => e g.symm)]
theorem kl_const (m : Nat) (b : Bool) : List.replicate m b = kl m (fun _ => b) := by simp [kl, List.map_const']
theorem rdOf_kl (m : Nat) (f : Nat → Bool) (i : Nat) (h : i < m) : rdOf false (kl m f) (i : Int) = f i := by
  have h' : i < (kl m f).length := by rw [kl_length]; exact h
  have e : rdOf false (kl m f) (i : Int) = (kl m f)[i] := getD_nat _ h'
  rw [e]
  simp [kl]

def lk (links : List S53) (j : Nat) : S53 := rd_T53 links (j : Int)
def readyT (ts : List Int) (x : S53) : Int := rd ts x.f0 + x.f2
/-- An event's minute by what must be waited for, of the first i links. -/
def baseF (plan : List Int) (links : List S53) (ts : List Int) (e : Nat) : Nat → Int
  | 0 => rd plan (e : Int)
  | i + 1 => if (lk links i).f1 = (e : Int) ∧ (lk links i).f3 = 0 then mx (baseF plan links ts e i) (readyT ts (lk links i)) else baseF plan links ts e i
/-- .. and by what is waited for. -/
def timeF (links : List S53) (ts : List Int) (wait base : Int) (e : Nat) : Nat → Int
  | 0 => base
  | i + 1 => if (lk links i).f1 = (e : Int) ∧ (lk links i).f3 = 1 ∧ readyT ts (lk links i) ≤ base + wait then mx (timeF links ts wait base e i) (readyT ts (lk links i)) else timeF links ts wait base e i
def timesTo (plan : List Int) (links : List S53) (wait : Int) (late : List Int) : Nat → List Int
  | 0 => []
  | e + 1 => timesTo plan links wait late e ++ [timeF links (timesTo plan links wait late e) wait (baseF plan links (timesTo plan links wait late e) e links.length) e links.length + rd late (e : Int)]
theorem timesTo_succ (plan : List Int) (links : List S53) (wait : Int) (late : List Int) (e : Nat) : timesTo plan links wait late (e + 1) = timesTo plan links wait late e ++ [timeF links (timesTo plan links wait late e) wait (baseF plan links (timesTo plan links wait late e) e links.length) e links.length + rd late (e : Int)] := rfl
theorem timesTo_length (plan : List Int) (links : List S53) (wait : Int) (late : List Int) : ∀ e, (timesTo plan links wait late e).length = e
  | 0 => rfl
  | e + 1 => by rw [timesTo, List.length_append, timesTo_length plan links wait late e]; rfl
theorem rd_app_left (a b : List Int) (i : Int) (h0 : 0 ≤ i) (h : i < a.length) : rd (a ++ b) i = rd a i := by
  unfold rd
  rw [List.getD_eq_getElem?_getD, List.getD_eq_getElem?_getD, List.getElem?_append_left (by omega)]
theorem rd_app_right (a b : List Int) (i : Int) (h : (a.length : Int) ≤ i) : rd (a ++ b) i = rd b (i - a.length) := by
  unfold rd
  rw [List.getD_eq_getElem?_getD, List.getD_eq_getElem?_getD, List.getElem?_append_right (by omega)]
  congr 2
  omega
/-- A connection is kept: by the times at its end. -/
def keptQ (plan : List Int) (links : List S53) (wait : Int) (late : List Int) (j : Nat) : Prop :=
  readyT (timesTo plan links wait late (lk links j).f1.toNat) (lk links j) ≤ baseF plan links (timesTo plan links wait late (lk links j).f1.toNat) (lk links j).f1.toNat links.length + wait
def LateP (plan late : List Int) : Prop := late.length = plan.length ∧ ∀ i, i < late.length → 0 ≤ rd late (i : Int) ∧ rd late (i : Int) ≤ 10000
/-- The times, and which links are kept. -/
noncomputable def playOf (plan : List Int) (links : List S53) (wait : Int) (late : List Int) : List Int × List Bool :=
  open Classical in (timesTo plan links wait late plan.length, kl links.length (fun j => decide ((lk links j).f3 = 0 ∨ keptQ plan links wait late j)))
section
variable {plan late : List Int} {links : List S53} {wait : Int}
theorem lk_ok (hw : WorkP plan links wait) (j : Nat) (h : j < links.length) : LinkP plan (lk links j) := hw.2.2 j h
theorem mx_bd {a b lo hi : Int} (h1 : lo ≤ a) (h2 : a ≤ hi) (h4 : b ≤ hi) : lo ≤ mx a b ∧ mx a b ≤ hi := by
  unfold mx
  split <;> omega
theorem baseF_bd (hw : WorkP plan links wait) (ts : List Int) (e : Nat) (B : Int) (he : e < plan.length) (hB : 100000 ≤ B) (ht : ∀ i : Int, 0 ≤ i → i < e → rd ts i + 1000 ≤ B) : ∀ i, i ≤ links.length → 0 ≤ baseF plan links ts e i ∧ baseF plan links ts e i ≤ B
  | 0, _ => by
    have := hw.2.1 e he
    unfold baseF
    omega
  | i + 1, hi => by
    have ih := baseF_bd hw ts e B he hB ht i (by omega)
    have hp := lk_ok hw i (by omega)
    unfold LinkP at hp
    unfold baseF
    split
    · have := ht (lk links i).f0 (by omega) (by omega)
      exact mx_bd ih.1 ih.2 (by unfold readyT; omega)
    · exact ih
theorem timeF_bd (hw : WorkP plan links wait) (ts : List Int) (base : Int) (e : Nat) (B : Int) (hb0 : 0 ≤ base) (hb : base ≤ B) (ht : ∀ i : Int, 0 ≤ i → i < e → rd ts i + 1000 ≤ B) : ∀ i, i ≤ links.length → 0 ≤ timeF links ts wait base e i ∧ timeF links ts wait base e i ≤ B
  | 0, _ => by unfold timeF; omega
  | i + 1, hi => by
    have ih := timeF_bd hw ts base e B hb0 hb ht i (by omega)
    have hp := lk_ok hw i (by omega)
    unfold LinkP at hp
    unfold timeF
    split
    · have := ht (lk links i).f0 (by omega) (by omega)
      exact mx_bd ih.1 ih.2 (by unfold readyT; omega)
    · exact ih
theorem timesTo_bd (hw : WorkP plan links wait) (hl : LateP plan late) : ∀ e, e ≤ plan.length → ∀ i : Int, 0 ≤ i → i < e → 0 ≤ rd (timesTo plan links wait late e) i ∧ rd (timesTo plan links wait late e) i ≤ 100000 + 11000 * (e : Int)
  | 0, _ => fun i h0 h1 => by omega
  | e + 1, he => fun i h0 h1 => by
    have ih := timesTo_bd hw hl e (by omega)
    have hlen := timesTo_length plan links wait late e
    unfold timesTo
    by_cases hi : i < e
    · rw [rd_app_left _ _ i h0 (by omega)]
      have := ih i h0 hi
      omega
    · rw [rd_app_right _ _ i (by omega)]
      have e1 : i - ((timesTo plan links wait late e).length : Int) = 0 := by omega
      rw [e1]
      have ht : ∀ i : Int, 0 ≤ i → i < e → rd (timesTo plan links wait late e) i + 1000 ≤ 101000 + 11000 * (e : Int) := fun i a b => by have := ih i a b; omega
      have hb := baseF_bd hw (timesTo plan links wait late e) e (101000 + 11000 * (e : Int)) (by omega) (by omega) ht links.length (Nat.le_refl _)
      have hT := timeF_bd hw (timesTo plan links wait late e) _ e (101000 + 11000 * (e : Int)) hb.1 hb.2 ht links.length (Nat.le_refl _)
      have hlt := hl.2 e (by rw [hl.1]; omega)
      show 0 ≤ timeF links _ wait _ e links.length + rd late (e : Int) ∧ _
      have : rd [timeF links (timesTo plan links wait late e) wait (baseF plan links (timesTo plan links wait late e) e links.length) e links.length + rd late (e : Int)] 0 = timeF links (timesTo plan links wait late e) wait (baseF plan links (timesTo plan links wait late e) e links.length) e links.length + rd late (e : Int) := rfl
      rw [this]
      omega
end

/-- How many of the first i marks are not set. -/
def missF (ks : List Bool) : Nat → Nat
  | 0 => 0
  | i + 1 => if rdOf false ks (i : Int) = true then missF ks i else missF ks i + 1
theorem missF_succ (ks : List Bool) (i : Nat) : missF ks (i + 1) = if rdOf false ks (i : Int) = true then missF ks i else missF ks i + 1 := rfl
theorem missF_le (ks : List Bool) : ∀ i, missF ks i ≤ i
  | 0 => Nat.le_refl _
  | i + 1 => by have := missF_le ks i; unfold missF; split <;> omega
noncomputable def missedOf (plan : List Int) (links : List S53) (wait : Int) (late : List Int) : Int :=
  open Classical in if WorkP plan links wait ∧ LateP plan late then ((missF (playOf plan links wait late).2 (playOf plan links wait late).2.length : Nat) : Int) else -1
theorem play_len (plan : List Int) (links : List S53) (wait : Int) (late : List Int) : (playOf plan links wait late).2.length = links.length ∧ (playOf plan links wait late).1.length = plan.length := by
  unfold playOf
  exact ⟨by simp [kl], timesTo_length _ _ _ _ _⟩

noncomputable def timesOf (plan : List Int) (links : List S53) (wait : Int) (late : List Int) : List Int :=
  open Classical in if WorkP plan links wait ∧ LateP plan late then (playOf plan links wait late).1 else []
theorem timesOf_len (plan : List Int) (links : List S53) (wait : Int) (late : List Int) : (timesOf plan links wait late).length ≤ plan.length := by
  unfold timesOf
  split
  · rw [(play_len plan links wait late).2]; exact Nat.le_refl _
  · exact Nat.zero_le _

def diffF (plan ts : List Int) (i : Nat) : Int := wrap64 (rd ts (i : Int) - rd plan (i : Int))
def diffs (plan ts : List Int) (m : Nat) : List Int := (List.range m).map (diffF plan ts)
theorem diffs_length (plan ts : List Int) (m : Nat) : (diffs plan ts m).length = m := by simp [diffs]
theorem diffs_succ (plan ts : List Int) (m : Nat) : diffs plan ts (m + 1) = diffs plan ts m ++ [diffF plan ts m] := by simp [diffs, List.range_succ]
theorem diffs_set (plan ts : List Int) (i : Nat) (hi : i < ts.length) : (diffs plan ts i ++ ts.drop i).set i (diffF plan ts i) = diffs plan ts (i + 1) ++ ts.drop (i + 1) := by
  have hl := diffs_length plan ts i
  rw [List.set_append_right _ _ (by omega), hl, Nat.sub_self, List.drop_eq_getElem_cons hi, List.set_cons_zero, diffs_succ]
  simp
theorem diffs_rd (plan ts : List Int) (i : Nat) (hi : i < ts.length) : rd (diffs plan ts i ++ ts.drop i) (i : Int) = rd ts (i : Int) := by
  have hl := diffs_length plan ts i
  rw [rd_nat hi, rd_nat (by simp [hl]; omega), List.getElem_append_right (by omega)]
  simp [hl]
noncomputable def latesOf (plan : List Int) (links : List S53) (wait : Int) (late : List Int) : List Int :=
  diffs plan (timesOf plan links wait late) (timesOf plan links wait late).length
theorem latesOf_len (plan : List Int) (links : List S53) (wait : Int) (late : List Int) : (latesOf plan links wait late).length ≤ plan.length := by
  unfold latesOf
  rw [diffs_length]
  exact timesOf_len plan links wait late

theorem eq_spec_l01In (a b c : Int) : spec_l01In.f a b c = some (decide (b ≤ a ∧ a ≤ c)) := by
  unfold spec_l01In.f
  by_cases h : b ≤ a
  · rw [if_pos h]; simp [h]
  · rw [if_neg h]; simp [h]

theorem ev_spec_WorkOk (plan : List Int) (links : List S53) (wait : Int) (b : Bool) (hb : b = true ↔ WorkP plan links wait) : Ev (fun k => spec_WorkOk.f k plan links wait) b := by
  classical
  unfold spec_WorkOk.f
  have bad : ¬ ((plan.length : Int) ≤ 60 ∧ (links.length : Int) ≤ 150 ∧ 0 ≤ wait ∧ wait ≤ 60) → Ev (fun k => spec_WorkOk.j0 k true plan links wait) b := fun h =>
    Ev.step (fun k => by simp only [spec_WorkOk.j0]; rfl) (ev_val (bool_not hb fun e => h e.1).symm)
  refine Ev.ite (fun h => bad (by omega)) (fun h1 => ?_)
  refine Ev.ite (fun h => bad (by omega)) (fun h2 => ?_)
  simp only [eq_spec_l01In, Option.bind_some]
  by_cases h3 : 0 ≤ wait ∧ wait ≤ 60
  · simp only [decide_eq_true h3, Bool.not_true]
    refine Ev.step (fun k => by simp only [spec_WorkOk.j0]; rfl) ?_
    simp only [Bool.false_eq_true, if_false]
    have hb' : b = true ↔ (∀ i, i < plan.length → 0 ≤ rd plan (i : Int) ∧ rd plan (i : Int) ≤ 100000) ∧ ∀ i, i < links.length → LinkP plan (rd_T53 links (i : Int)) :=
      hb.trans ⟨fun h => h.2, fun h => ⟨⟨by omega, by omega, h3.1, h3.2⟩, h⟩⟩
    refine ev_allI plan.length (fun i => 0 ≤ rd plan (i : Int) ∧ rd plan (i : Int) ≤ 100000) (fun k i => spec_WorkOk.l0 k (i : Int) plan links wait) _ hb' ?_ ?_ ?_
    · intro i hi hp hn
      refine Ev.step (fun k => by simp only [spec_WorkOk.l0]; rfl) ?_
      simp only [if_pos (show (i : Int) < (plan.length : Int) by omega), if_pos (show 0 ≤ (i : Int) by omega), eq_spec_l01In, Option.bind_some, decide_eq_true hp, if_true]
      rw [wrap_succ hi (by omega)]
      exact hn
    · intro i hi hp
      refine Ev.step (fun k => by simp only [spec_WorkOk.l0]; rfl) ?_
      simp only [if_pos (show (i : Int) < (plan.length : Int) by omega), if_pos (show 0 ≤ (i : Int) by omega), eq_spec_l01In, Option.bind_some, decide_eq_false hp, Bool.false_eq_true, if_false]
      exact ev_val rfl
    · intro hplan hq
      refine Ev.step (fun k => by simp only [spec_WorkOk.l0]; rfl) ?_
      simp only [if_neg (show ¬ (plan.length : Int) < (plan.length : Int) by omega)]
      refine ev_allI links.length (fun i => LinkP plan (rd_T53 links (i : Int))) (fun k i => spec_WorkOk.l1 k (i : Int) plan links wait) True (hq.trans (by simp)) ?_ ?_ ?_
      · intro i hi hp hn
        refine Ev.step (fun k => by simp only [spec_WorkOk.l1]; rfl) ?_
        unfold LinkP at hp
        have hx0 := rd_bd plan hplan (rd_T53 links (i : Int)).f0 (by omega) (by omega)
        have hx1 := rd_bd plan hplan (rd_T53 links (i : Int)).f1 (by omega) (by omega)
        simp only [eq_spec_l01In, Option.bind_some, decide_eq_true_eq]
        rw [wrap_id (x := (plan.length : Int) - 1) (by omega) (by omega), wrap_id (x := (rd_T53 links (i : Int)).f1 - 1) (by omega) (by omega)]
        repeat' first
          | exact hn
          | (rw [wrap_id (x := rd plan (rd_T53 links (i : Int)).f0 + (rd_T53 links (i : Int)).f2) (by omega) (by omega)])
          | (rw [wrap_succ hi (by omega)])
          | refine Ev.ite (fun _ => ?_) (fun _ => ?_)
          | refine Ev.step (fun k => by simp only [spec_WorkOk.j3]; rfl) ?_
          | (exfalso; first | omega | (simp only [decide_eq_true_eq, Bool.not_eq_true', decide_eq_false_iff_not, Bool.not_eq_false, not_true_eq_false] at *; done) | (simp only [decide_eq_true_eq, Bool.not_eq_true', decide_eq_false_iff_not, Bool.not_eq_false, not_true_eq_false] at *; omega))
      · intro i hi hp
        refine Ev.step (fun k => by simp only [spec_WorkOk.l1]; rfl) ?_
        unfold LinkP at hp
        simp only [eq_spec_l01In, Option.bind_some, decide_eq_true_eq]
        rw [wrap_id (x := (plan.length : Int) - 1) (by omega) (by omega)]
        refine Ev.ite (fun _ => ?_) (fun _ => (by exfalso; omega))
        refine Ev.ite (fun _ => ?_) (fun _ => (by exfalso; omega))
        refine Ev.ite (fun g1 => ?_) (fun g1 => Ev.step (fun k => by simp only [spec_WorkOk.j3]; rfl) (ev_val rfl))
        rw [wrap_id (x := (rd_T53 links (i : Int)).f1 - 1) (by omega) (by omega)]
        refine Ev.ite (fun g2 => ?_) (fun g2 => Ev.step (fun k => by simp only [spec_WorkOk.j3]; rfl) (ev_val rfl))
        refine Ev.ite (fun g3 => ?_) (fun g3 => Ev.step (fun k => by simp only [spec_WorkOk.j3]; rfl) (ev_val rfl))
        have hx0 := rd_bd plan hplan (rd_T53 links (i : Int)).f0 (by omega) (by omega)
        have hx1 := rd_bd plan hplan (rd_T53 links (i : Int)).f1 (by omega) (by omega)
        refine Ev.step (fun k => by simp only [spec_WorkOk.j3]; rfl) ?_
        rw [wrap_id (x := rd plan (rd_T53 links (i : Int)).f0 + (rd_T53 links (i : Int)).f2) (by omega) (by omega)]
        repeat' first
          | exact ev_val rfl
          | refine Ev.ite (fun _ => ?_) (fun _ => ?_)
          | (exfalso; first | omega | (simp only [decide_eq_true_eq, Bool.not_eq_true', decide_eq_false_iff_not, Bool.not_eq_false, not_true_eq_false] at *; done) | (simp only [decide_eq_true_eq, Bool.not_eq_true', decide_eq_false_iff_not, Bool.not_eq_false, not_true_eq_false] at *; omega))
      · intro _ hq2
        refine Ev.step (fun k => by simp only [spec_WorkOk.l1]; rfl) ?_
        simp only [if_neg (show ¬ (links.length : Int) < (links.length : Int) by omega)]
        exact ev_val (hq2.2 trivial).symm
  · simp only [decide_eq_false h3, Bool.not_false]
    exact bad (by omega)

theorem ev_spec_l11Late (plan late : List Int) (links : List S53) (wait : Int) (hlate : late.length ≤ 4611686018427387904) (b : Bool) (hb : b = true ↔ LateP plan late) : Ev (fun k => spec_l11Late.f k plan links wait late) b := by
  classical
  unfold spec_l11Late.f
  refine Ev.ite (fun hl => ?_) (fun hl => ev_val (bool_not hb (fun g => hl (by rw [g.1]))).symm)
  have hb' : b = true ↔ (∀ i, i < late.length → 0 ≤ rd late (i : Int) ∧ rd late (i : Int) ≤ 10000) ∧ True := hb.trans ⟨fun g => ⟨g.2, trivial⟩, fun g => ⟨by omega, g.1⟩⟩
  refine ev_allI late.length (fun i => 0 ≤ rd late (i : Int) ∧ rd late (i : Int) ≤ 10000) (fun k i => spec_l11Late.l0 k late (i : Int)) _ hb' ?_ ?_ ?_
  · intro i hi hp hn
    refine Ev.step (fun k => by simp only [spec_l11Late.l0]; rfl) ?_
    simp only [if_pos (show (i : Int) < (late.length : Int) by omega), if_pos (show 0 ≤ (i : Int) by omega), eq_spec_l01In, Option.bind_some, decide_eq_true hp, if_true]
    rw [wrap_succ hi (by omega)]
    exact hn
  · intro i hi hp
    refine Ev.step (fun k => by simp only [spec_l11Late.l0]; rfl) ?_
    simp only [if_pos (show (i : Int) < (late.length : Int) by omega), if_pos (show 0 ≤ (i : Int) by omega), eq_spec_l01In, Option.bind_some, decide_eq_false hp, Bool.false_eq_true, if_false]
    exact ev_val rfl
  · intro _ hq
    refine Ev.step (fun k => by simp only [spec_l11Late.l0]; rfl) ?_
    simp only [if_neg (show ¬ (late.length : Int) < (late.length : Int) by omega)]
    exact ev_val (hq.2 trivial).symm

section
open Classical
variable {plan late : List Int} {links : List S53} {wait : Int}
noncomputable def keptS (plan : List Int) (links : List S53) (wait : Int) (late : List Int) (e j : Nat) : Bool := decide ((lk links j).f3 = 0 ∨ (lk links j).f1 < (e : Int) ∧ keptQ plan links wait late j)
theorem kl_snoc (m : Nat) (f : Nat → Bool) : kl (m + 1) f = kl m f ++ [f m] := by simp [kl, List.range_succ]
theorem ev_spec_l11Play (hw : WorkP plan links wait) (hl : LateP plan late) : Ev (fun k => spec_l11Play.f k plan links wait late) (playOf plan links wait late) := by
  obtain ⟨⟨w1, w2, w3, w4⟩, w5, w6⟩ := hw
  have hw : WorkP plan links wait := ⟨⟨w1, w2, w3, w4⟩, w5, w6⟩
  unfold spec_l11Play.f
  have k0 := ev_fold (fun k i => spec_l11Play.l0 k late ([] : List Int) (kl i (fun j => (lk links j).f3 == 0)) (i : Int) plan links wait) links.length (r := playOf plan links wait late) ?_ ?_
  · simpa [kl] using k0
  · intro i hi hn
    refine Ev.step (fun k => by simp only [spec_l11Play.l0]; rfl) ?_
    simp only [if_pos (show (i : Int) < (links.length : Int) by omega), if_pos (show 0 ≤ (i : Int) by omega), kl_length, if_pos (show i < 140737488355328 by omega)]
    rw [wrap_succ hi (by omega)]
    rw [kl_snoc] at hn
    exact hn
  refine Ev.step (fun k => by simp only [spec_l11Play.l0]; rfl) ?_
  simp only [if_neg (show ¬ (links.length : Int) < (links.length : Int) by omega)]
  have key := ev_fold (fun k e => spec_l11Play.l1 k late (timesTo plan links wait late e) (kl links.length (keptS plan links wait late e)) (e : Int) plan links wait) plan.length (r := playOf plan links wait late) ?_ ?_
  · have e0 : kl links.length (keptS plan links wait late 0) = kl links.length (fun j => (lk links j).f3 == 0) := by
      refine kl_congr fun j hj => ?_
      have := lk_ok hw j hj
      unfold LinkP at this
      unfold keptS
      rw [Bool.eq_iff_iff, decide_eq_true_iff, beq_iff_eq]
      exact ⟨fun g => g.resolve_right (fun g2 => by omega), fun g => .inl g⟩
    rw [← e0]
    exact key
  · intro e he hn
    refine Ev.step (fun k => by simp only [spec_l11Play.l1]; rfl) ?_
    simp only [if_pos (show (e : Int) < (plan.length : Int) by omega), if_pos (show 0 ≤ (e : Int) by omega)]
    have hbd := timesTo_bd hw hl e (by omega)
    have hlen := timesTo_length plan links wait late e
    have ht : ∀ i : Int, 0 ≤ i → i < e → rd (timesTo plan links wait late e) i + 1000 ≤ 1000000 := fun i a b => by have := hbd i a b; omega
    have hb := baseF_bd hw (timesTo plan links wait late e) e 1000000 he (by omega) ht
    have k1 := ev_fold (fun k i => spec_l11Play.l2 k late (timesTo plan links wait late e) (kl links.length (keptS plan links wait late e)) (e : Int) (baseF plan links (timesTo plan links wait late e) e i) (i : Int) plan links wait) links.length (r := playOf plan links wait late) ?_ ?_
    · simpa [baseF] using k1
    · intro i hi hn1
      refine Ev.step (fun k => by simp only [spec_l11Play.l2]; rfl) ?_
      simp only [if_pos (show (i : Int) < (links.length : Int) by omega), if_pos (show 0 ≤ (i : Int) by omega)]
      rw [wrap_succ hi (by omega)]
      have hp := lk_ok hw i hi
      unfold LinkP at hp
      change Ev (fun k => if (lk links i).f1 = (e : Int) then _ else _) _
      unfold baseF at hn1
      refine Ev.ite (fun g1 => ?_) (fun g1 => ?_)
      · refine Ev.ite (fun g2 => ?_) (fun g2 => ?_)
        · refine Ev.ite (fun _ => ?_) (fun g => absurd hp.1 g)
          refine Ev.ite (fun _ => ?_) (fun g => by exfalso; exact g (show (lk links i).f0 < ((timesTo plan links wait late e).length : Int) by omega))
          have hr := hbd (lk links i).f0 hp.1 (by omega)
          have ew : wrap64 (rd (timesTo plan links wait late e) (rd_T53 links (i : Int)).f0 + (rd_T53 links (i : Int)).f2) = readyT (timesTo plan links wait late e) (lk links i) := wrap_id (by show _ ≤ rd _ (lk links i).f0 + (lk links i).f2; omega) (by show rd _ (lk links i).f0 + (lk links i).f2 < _; omega)
          rw [ew]
          rw [if_pos ⟨g1, g2⟩] at hn1
          unfold mx at hn1
          refine Ev.ite (fun g3 => ?_) (fun g3 => ?_)
          · rw [if_pos (show _ < _ from g3)] at hn1; exact hn1
          · rw [if_neg (show ¬ _ < _ from g3)] at hn1; exact hn1
        · rw [if_neg (fun g => g2 g.2)] at hn1; exact hn1
      · rw [if_neg (fun g => g1 g.1)] at hn1; exact hn1
    · refine Ev.step (fun k => by simp only [spec_l11Play.l2]; rfl) ?_
      simp only [if_neg (show ¬ (links.length : Int) < (links.length : Int) by omega)]
      have hB := hb links.length (Nat.le_refl _)
      obtain ⟨B, eB⟩ : ∃ B, B = baseF plan links (timesTo plan links wait late e) e links.length := ⟨_, rfl⟩
      rw [← eB] at hB ⊢
      have hT := timeF_bd hw (timesTo plan links wait late e) B e 1000000 hB.1 hB.2 ht
      have kq : ∀ j, j < links.length → (lk links j).f1 = (e : Int) → (keptQ plan links wait late j ↔ readyT (timesTo plan links wait late e) (lk links j) ≤ B + wait) := by
        intro j _ g
        unfold keptQ
        rw [g, Int.toNat_natCast, eB]
      have k2 := ev_fold (fun k i => spec_l11Play.l3 k late (timesTo plan links wait late e) (kl links.length (fun j => keptS plan links wait late e j || decide (j < i ∧ (lk links j).f1 = (e : Int) ∧ (lk links j).f3 = 1 ∧ keptQ plan links wait late j))) (e : Int) B (timeF links (timesTo plan links wait late e) wait B e i) (i : Int) plan links wait) links.length (r := playOf plan links wait late) ?_ ?_
      · have ek : kl links.length (fun j => keptS plan links wait late e j || decide (j < 0 ∧ (lk links j).f1 = (e : Int) ∧ (lk links j).f3 = 1 ∧ keptQ plan links wait late j)) = kl links.length (keptS plan links wait late e) := by
          refine kl_congr fun j hj => ?_
          rw [decide_eq_false (p := j < 0 ∧ _) (fun g => by omega), Bool.or_false]
        rw [ek] at k2
        exact k2
      · intro i hi hn1
        refine Ev.step (fun k => by simp only [spec_l11Play.l3]; rfl) ?_
        simp only [if_pos (show (i : Int) < (links.length : Int) by omega), if_pos (show 0 ≤ (i : Int) by omega)]
        rw [wrap_id (x := B + wait) (by omega) (by omega)]
        have hp := lk_ok hw i hi
        unfold LinkP at hp
        have ek : ¬ ((lk links i).f1 = (e : Int) ∧ (lk links i).f3 = 1 ∧ keptQ plan links wait late i) → kl links.length (fun j => keptS plan links wait late e j || decide (j < i ∧ (lk links j).f1 = (e : Int) ∧ (lk links j).f3 = 1 ∧ keptQ plan links wait late j)) = kl links.length (fun j => keptS plan links wait late e j || decide (j < i + 1 ∧ (lk links j).f1 = (e : Int) ∧ (lk links j).f3 = 1 ∧ keptQ plan links wait late j)) := by
          intro hno
          refine kl_congr fun j _ => ?_
          congr 1
          refine decide_eq_decide.2 ⟨fun g => ⟨by omega, g.2⟩, fun g => ⟨?_, g.2⟩⟩
          rcases Nat.lt_or_ge j i with hlt | hge
          · exact hlt
          · obtain rfl : j = i := by omega
            exact absurd g.2 hno
        change Ev (fun k => if (lk links i).f1 = (e : Int) then _ else _) _
        unfold timeF at hn1
        refine Ev.ite (fun g1 => ?_) (fun g1 => ?_)
        · refine Ev.ite (fun g2 => ?_) (fun g2 => ?_)
          · refine Ev.ite (fun _ => ?_) (fun g => absurd hp.1 g)
            refine Ev.ite (fun _ => ?_) (fun g => by exfalso; exact g (show (lk links i).f0 < ((timesTo plan links wait late e).length : Int) by omega))
            have hr := hbd (lk links i).f0 hp.1 (by omega)
            have ew : wrap64 (rd (timesTo plan links wait late e) (rd_T53 links (i : Int)).f0 + (rd_T53 links (i : Int)).f2) = readyT (timesTo plan links wait late e) (lk links i) := wrap_id (by show _ ≤ rd _ (lk links i).f0 + (lk links i).f2; omega) (by show rd _ (lk links i).f0 + (lk links i).f2 < _; omega)
            rw [ew]
            refine Ev.step (fun k => by simp only [spec_l11Play.j4]; rfl) ?_
            refine Ev.ite (fun g3 => ?_) (fun g3 => ?_)
            · have g3 := of_decide_eq_true g3
              simp only [if_pos (show 0 ≤ (i : Int) by omega), kl_length, if_pos (show (i : Int) < (links.length : Int) by omega), Option.bind_some]
              refine Ev.ite (fun _ => ?_) (fun g => absurd hp.1 g)
              refine Ev.ite (fun _ => ?_) (fun g => by exfalso; exact g (show (lk links i).f0 < ((timesTo plan links wait late e).length : Int) by omega))
              rw [ew, wrap_succ hi (by omega), Int.toNat_natCast, kl_set]
              rw [if_pos ⟨g1, g2, g3⟩] at hn1
              have ek2 : kl links.length (fun j => if j = i then true else (keptS plan links wait late e j || decide (j < i ∧ (lk links j).f1 = (e : Int) ∧ (lk links j).f3 = 1 ∧ keptQ plan links wait late j))) = kl links.length (fun j => keptS plan links wait late e j || decide (j < i + 1 ∧ (lk links j).f1 = (e : Int) ∧ (lk links j).f3 = 1 ∧ keptQ plan links wait late j)) := by
                refine kl_congr fun j _ => ?_
                by_cases ej : j = i
                · subst ej
                  rw [if_pos rfl, decide_eq_true (show j < j + 1 ∧ (lk links j).f1 = (e : Int) ∧ (lk links j).f3 = 1 ∧ keptQ plan links wait late j from ⟨by omega, g1, g2, (kq j hi g1).2 g3⟩), Bool.or_true]
                · rw [if_neg ej]
                  congr 1
                  exact decide_eq_decide.2 ⟨fun g => ⟨by omega, g.2⟩, fun g => ⟨by omega, g.2⟩⟩
              rw [ek2]
              unfold mx at hn1
              refine Ev.ite (fun g4 => ?_) (fun g4 => ?_)
              · rw [if_pos (show _ < _ from g4)] at hn1; exact hn1
              · rw [if_neg (show ¬ _ < _ from g4)] at hn1; exact hn1
            · have g3 : ¬ _ := fun h => g3 (decide_eq_true h)
              rw [if_neg (fun g => g3 g.2.2)] at hn1
              rw [ek (fun g => g3 ((kq i hi g1).1 g.2.2)), wrap_succ hi (by omega)]
              exact hn1
          · rw [if_neg (fun g => g2 g.2.1)] at hn1
            rw [ek (fun g => g2 g.2.1)]
            refine Ev.step (fun k => by simp only [spec_l11Play.j4]; rfl) ?_
            simp only [Bool.false_eq_true, if_false]
            rw [wrap_succ hi (by omega)]
            exact hn1
        · rw [if_neg (fun g => g1 g.1)] at hn1
          rw [ek (fun g => g1 g.1)]
          refine Ev.step (fun k => by simp only [spec_l11Play.j4]; rfl) ?_
          simp only [Bool.false_eq_true, if_false]
          rw [wrap_succ hi (by omega)]
          exact hn1
      · refine Ev.step (fun k => by simp only [spec_l11Play.l3]; rfl) ?_
        simp only [if_neg (show ¬ (links.length : Int) < (links.length : Int) by omega), if_pos (show 0 ≤ (e : Int) by omega)]
        have hll := hl.1
        have hlt := hl.2 e (by omega)
        have hTT := hT links.length (Nat.le_refl _)
        refine Ev.ite (fun _ => ?_) (fun g => by exfalso; omega)
        refine Ev.ite (fun _ => ?_) (fun g => by exfalso; omega)
        rw [wrap_succ he (by omega), wrap_id (x := timeF links (timesTo plan links wait late e) wait B e links.length + rd late (e : Int)) (by omega) (by omega)]
        rw [timesTo_succ, ← eB] at hn
        have ek : kl links.length (fun j => keptS plan links wait late e j || decide (j < links.length ∧ (lk links j).f1 = (e : Int) ∧ (lk links j).f3 = 1 ∧ keptQ plan links wait late j)) = kl links.length (keptS plan links wait late (e + 1)) := by
          refine kl_congr fun j hj => ?_
          have hp := lk_ok hw j hj
          unfold LinkP at hp
          unfold keptS
          rw [← Bool.decide_or]
          refine decide_eq_decide.2 ⟨fun g => ?_, fun g => ?_⟩
          · rcases g with (g | g) | g
            · exact .inl g
            · exact .inr ⟨by omega, g.2⟩
            · exact .inr ⟨by omega, g.2.2.2⟩
          · rcases g with g | g
            · exact .inl (.inl g)
            · by_cases h1 : (lk links j).f1 < (e : Int)
              · exact .inl (.inr ⟨h1, g.2⟩)
              · by_cases h3 : (lk links j).f3 = 0
                · exact .inl (.inl h3)
                · exact .inr ⟨hj, by omega, by omega, g.2⟩
        rw [ek]
        exact hn
  · refine Ev.step (fun k => by simp only [spec_l11Play.l1]; rfl) ?_
    simp only [if_neg (show ¬ (plan.length : Int) < (plan.length : Int) by omega)]
    refine ev_val ?_
    unfold playOf
    simp only [Prod.mk.injEq, true_and]
    refine kl_congr fun j hj => ?_
    have hp := lk_ok hw j hj
    unfold LinkP at hp
    unfold keptS
    exact decide_eq_decide.2 ⟨fun g => g.imp id (fun g => g.2), fun g => g.imp id (fun g => ⟨by omega, g⟩)⟩
end

theorem ev_spec_Times (plan late : List Int) (links : List S53) (wait : Int) (hlate : late.length ≤ 4611686018427387904) : Ev (fun k => spec_Times.f k plan links wait late) (timesOf plan links wait late) := by
  classical
  unfold spec_Times.f
  have bad : ¬ (WorkP plan links wait ∧ LateP plan late) → ([] : List Int) = timesOf plan links wait late := fun h => by unfold timesOf; rw [if_neg h]
  refine Ev.bind (ev_spec_WorkOk plan links wait (decide (WorkP plan links wait)) decide_eq_true_iff) ?_
  refine Ev.ite (fun h => ?_) (fun h => ev_val (bad (fun g => h (decide_eq_true g.1))))
  have hw1 := of_decide_eq_true h
  refine Ev.bind (ev_spec_l11Late plan late links wait hlate (decide (LateP plan late)) decide_eq_true_iff) ?_
  refine Ev.ite (fun h2 => ?_) (fun h2 => ev_val (bad (fun g => h2 (decide_eq_true g.2))))
  have hw2 := of_decide_eq_true h2
  refine Ev.bind (ev_spec_l11Play hw1 hw2) ?_
  unfold timesOf
  rw [if_pos ⟨hw1, hw2⟩]
  exact ev_val rfl

theorem ev_spec_Lateness (plan late : List Int) (links : List S53) (wait : Int) (hlate : late.length ≤ 4611686018427387904) (hp : plan.length ≤ 1048576) : Ev (fun k => spec_Lateness.f k plan links wait late) (latesOf plan links wait late) := by
  unfold spec_Lateness.f
  refine Ev.bind (ev_spec_Times plan late links wait hlate) ?_
  have hle := timesOf_len plan links wait late
  unfold latesOf
  obtain ⟨ts, et⟩ : ∃ ts, ts = timesOf plan links wait late := ⟨_, rfl⟩
  rw [← et] at hle ⊢
  refine ev_fold (fun k i => spec_Lateness.l0 k (diffs plan ts i) ts (i : Int) plan links wait) ts.length (r := diffs plan ts ts.length) ?_ ?_
  · intro i hi hn
    refine Ev.step (fun k => by simp only [spec_Lateness.l0]; rfl) ?_
    simp only [if_pos (show (i : Int) < (ts.length : Int) by omega), if_pos (show 0 ≤ (i : Int) by omega), if_pos (show (i : Int) < (plan.length : Int) by omega), if_pos (show (diffs plan ts i).length < 17592186044416 by rw [diffs_length]; omega)]
    rw [wrap_succ hi (by omega), show wrap64 (rd ts (i : Int) - rd plan (i : Int)) = diffF plan ts i from rfl, ← diffs_succ]
    exact hn
  · refine Ev.step (fun k => by simp only [spec_Lateness.l0]; rfl) ?_
    simp only [if_neg (show ¬ (ts.length : Int) < (ts.length : Int) by omega)]
    exact ev_val rfl

theorem eq_impl_between (a b c : Int) : impl_between.f a b c = some (decide (b ≤ a ∧ a ≤ c)) := by
  unfold impl_between.f
  by_cases h : a ≥ b
  · rw [if_pos h]; simp [show b ≤ a from h]
  · rw [if_neg h]; simp [show ¬ b ≤ a from h]

theorem eq_impl_isMinute (a : Int) : impl_isMinute.f a = some (decide (0 ≤ a ∧ a ≤ 100000)) := by
  unfold impl_isMinute.f
  rw [eq_impl_between]
  rfl

theorem ev_impl_WorkOk (plan : List Int) (links : List S53) (wait : Int) (b : Bool) (hb : b = true ↔ WorkP plan links wait) : Ev (fun k => impl_WorkOk.f k plan links wait) b := by
  classical
  unfold impl_WorkOk.f
  have bad : ¬ ((plan.length : Int) ≤ 60 ∧ (links.length : Int) ≤ 150 ∧ 0 ≤ wait ∧ wait ≤ 60) → Ev (fun k => impl_WorkOk.j0 k true plan links wait) b := fun h =>
    Ev.step (fun k => by simp only [impl_WorkOk.j0]; rfl) (ev_val (bool_not hb fun e => h e.1).symm)
  refine Ev.ite (fun h => bad (by omega)) (fun h1 => ?_)
  refine Ev.ite (fun h => bad (by omega)) (fun h2 => ?_)
  simp only [eq_impl_between, Option.bind_some]
  by_cases h3 : 0 ≤ wait ∧ wait ≤ 60
  · simp only [decide_eq_true h3, Bool.not_true]
    refine Ev.step (fun k => by simp only [impl_WorkOk.j0]; rfl) ?_
    simp only [Bool.false_eq_true, if_false]
    have hb' : b = true ↔ (∀ i, i < plan.length → 0 ≤ rd plan (i : Int) ∧ rd plan (i : Int) ≤ 100000) ∧ ∀ i, i < links.length → LinkP plan (rd_T53 links (i : Int)) :=
      hb.trans ⟨fun h => h.2, fun h => ⟨⟨by omega, by omega, h3.1, h3.2⟩, h⟩⟩
    refine ev_allI plan.length (fun i => 0 ≤ rd plan (i : Int) ∧ rd plan (i : Int) ≤ 100000) (fun k i => impl_WorkOk.l0 k plan (plan.length : Int) (i : Int) plan links wait) _ hb' ?_ ?_ ?_
    · intro i hi hp hn
      refine Ev.step (fun k => by simp only [impl_WorkOk.l0]; rfl) ?_
      simp only [if_pos (show (i : Int) < (plan.length : Int) by omega), if_pos (show 0 ≤ (i : Int) by omega), eq_impl_isMinute, Option.bind_some, decide_eq_true hp, if_true]
      rw [wrap_succ hi (by omega)]
      exact hn
    · intro i hi hp
      refine Ev.step (fun k => by simp only [impl_WorkOk.l0]; rfl) ?_
      simp only [if_pos (show (i : Int) < (plan.length : Int) by omega), if_pos (show 0 ≤ (i : Int) by omega), eq_impl_isMinute, Option.bind_some, decide_eq_false hp, Bool.false_eq_true, if_false]
      exact ev_val rfl
    · intro hplan hq
      refine Ev.step (fun k => by simp only [impl_WorkOk.l0]; rfl) ?_
      simp only [if_neg (show ¬ (plan.length : Int) < (plan.length : Int) by omega)]
      refine ev_allI links.length (fun i => LinkP plan (rd_T53 links (i : Int))) (fun k i => impl_WorkOk.l1 k links (links.length : Int) (i : Int) plan links wait) True (hq.trans (by simp)) ?_ ?_ ?_
      · intro i hi hp hn
        refine Ev.step (fun k => by simp only [impl_WorkOk.l1]; rfl) ?_
        unfold LinkP at hp
        have hx0 := rd_bd plan hplan (rd_T53 links (i : Int)).f0 (by omega) (by omega)
        have hx1 := rd_bd plan hplan (rd_T53 links (i : Int)).f1 (by omega) (by omega)
        simp only [eq_impl_between, Option.bind_some, decide_eq_true_eq]
        repeat' first
          | exact hn
          | (rw [wrap_id (x := rd plan (rd_T53 links (i : Int)).f1 - rd plan (rd_T53 links (i : Int)).f0) (by omega) (by omega)])
          | (rw [wrap_succ hi (by omega)])
          | refine Ev.ite (fun _ => ?_) (fun _ => ?_)
          | refine Ev.step (fun k => by simp only [impl_WorkOk.j3]; rfl) ?_
          | (exfalso; first | omega | (simp only [decide_eq_true_eq, Bool.not_eq_true', decide_eq_false_iff_not, Bool.not_eq_false, not_true_eq_false] at *; done) | (simp only [decide_eq_true_eq, Bool.not_eq_true', decide_eq_false_iff_not, Bool.not_eq_false, not_true_eq_false] at *; omega))
      · intro i hi hp
        refine Ev.step (fun k => by simp only [impl_WorkOk.l1]; rfl) ?_
        unfold LinkP at hp
        simp only [eq_impl_between, Option.bind_some, decide_eq_true_eq]
        refine Ev.ite (fun _ => ?_) (fun _ => (by exfalso; omega))
        refine Ev.ite (fun _ => ?_) (fun _ => (by exfalso; omega))
        refine Ev.ite (fun _ => ?_) (fun _ => (by exfalso; omega))
        refine Ev.ite (fun g1 => Ev.step (fun k => by simp only [impl_WorkOk.j3]; rfl) (ev_val rfl)) (fun g1 => ?_)
        refine Ev.ite (fun g2 => Ev.step (fun k => by simp only [impl_WorkOk.j3]; rfl) (ev_val rfl)) (fun g2 => ?_)
        refine Ev.ite (fun g3 => Ev.step (fun k => by simp only [impl_WorkOk.j3]; rfl) (ev_val rfl)) (fun g3 => ?_)
        refine Ev.ite (fun g4 => ?_) (fun g4 => Ev.step (fun k => by simp only [impl_WorkOk.j3]; rfl) (ev_val rfl))
        have hx0 := rd_bd plan hplan (rd_T53 links (i : Int)).f0 (by omega) (by omega)
        have hx1 := rd_bd plan hplan (rd_T53 links (i : Int)).f1 (by omega) (by omega)
        refine Ev.step (fun k => by simp only [impl_WorkOk.j3]; rfl) ?_
        rw [wrap_id (x := rd plan (rd_T53 links (i : Int)).f1 - rd plan (rd_T53 links (i : Int)).f0) (by omega) (by omega)]
        repeat' first
          | exact ev_val rfl
          | refine Ev.ite (fun _ => ?_) (fun _ => ?_)
          | (exfalso; first | omega | (simp only [decide_eq_true_eq, Bool.not_eq_true', decide_eq_false_iff_not, Bool.not_eq_false, not_true_eq_false] at *; done) | (simp only [decide_eq_true_eq, Bool.not_eq_true', decide_eq_false_iff_not, Bool.not_eq_false, not_true_eq_false] at *; omega))
      · intro _ hq2
        refine Ev.step (fun k => by simp only [impl_WorkOk.l1]; rfl) ?_
        simp only [if_neg (show ¬ (links.length : Int) < (links.length : Int) by omega)]
        exact ev_val (hq2.2 trivial).symm
  · simp only [decide_eq_false h3, Bool.not_false]
    exact bad (by omega)

theorem ev_impl_playable (plan late : List Int) (links : List S53) (wait : Int) (hlate : late.length ≤ 4611686018427387904) (b : Bool) (hb : b = true ↔ WorkP plan links wait ∧ LateP plan late) : Ev (fun k => impl_playable.f k plan links wait late) b := by
  classical
  unfold impl_playable.f
  have bad : ¬ (WorkP plan links wait ∧ LateP plan late) → Ev (fun k => impl_playable.j0 k late true) b := fun h =>
    Ev.step (fun k => by simp only [impl_playable.j0]; rfl) (ev_val (bool_not hb h).symm)
  refine Ev.bind (ev_impl_WorkOk plan links wait (decide (WorkP plan links wait)) decide_eq_true_iff) ?_
  refine Ev.ite (fun h => ?_) (fun h => bad (fun g => h (decide_eq_true g.1)))
  have hw := of_decide_eq_true h
  by_cases hl : late.length = plan.length
  · have e : ((late.length : Int) != (plan.length : Int)) = false := by simp [hl]
    rw [e]
    refine Ev.step (fun k => by simp only [impl_playable.j0]; rfl) ?_
    simp only [Bool.false_eq_true, if_false]
    have hb' : b = true ↔ (∀ i, i < late.length → 0 ≤ rd late (i : Int) ∧ rd late (i : Int) ≤ 10000) ∧ True := hb.trans ⟨fun g => ⟨g.2.2, trivial⟩, fun g => ⟨hw, hl, g.1⟩⟩
    refine ev_allI late.length (fun i => 0 ≤ rd late (i : Int) ∧ rd late (i : Int) ≤ 10000) (fun k i => impl_playable.l0 k late (late.length : Int) (i : Int)) _ hb' ?_ ?_ ?_
    · intro i hi hp hn
      refine Ev.step (fun k => by simp only [impl_playable.l0]; rfl) ?_
      simp only [if_pos (show (i : Int) < (late.length : Int) by omega), if_pos (show 0 ≤ (i : Int) by omega), eq_impl_between, Option.bind_some, decide_eq_true hp, if_true]
      rw [wrap_succ hi (by omega)]
      exact hn
    · intro i hi hp
      refine Ev.step (fun k => by simp only [impl_playable.l0]; rfl) ?_
      simp only [if_pos (show (i : Int) < (late.length : Int) by omega), if_pos (show 0 ≤ (i : Int) by omega), eq_impl_between, Option.bind_some, decide_eq_false hp, Bool.false_eq_true, if_false]
      exact ev_val rfl
    · intro _ hq
      refine Ev.step (fun k => by simp only [impl_playable.l0]; rfl) ?_
      simp only [if_neg (show ¬ (late.length : Int) < (late.length : Int) by omega)]
      exact ev_val (hq.2 trivial).symm
  · have e : ((late.length : Int) != (plan.length : Int)) = true := by
      rw [bne_iff_ne]
      omega
    rw [e]
    exact bad (fun g => hl g.2.1)

section
open Classical
variable {plan late : List Int} {links : List S53} {wait : Int}
/-- Which links are told as kept when the events below e are played. -/
noncomputable def keptE (plan : List Int) (links : List S53) (wait : Int) (late : List Int) (e j : Nat) : Bool := decide ((lk links j).f1 < (e : Int) ∧ ((lk links j).f3 = 0 ∨ keptQ plan links wait late j))
theorem ev_impl_work (hw : WorkP plan links wait) (hl : LateP plan late) : Ev (fun k => impl_work.f k plan links wait late) (playOf plan links wait late) := by
  obtain ⟨⟨w1, w2, w3, w4⟩, w5, w6⟩ := hw
  have hw : WorkP plan links wait := ⟨⟨w1, w2, w3, w4⟩, w5, w6⟩
  unfold impl_work.f
  simp only [if_pos (show 0 ≤ (plan.length : Int) by omega), Int.toNat_natCast, if_pos (show plan.length ≤ 35184372088832 by omega), if_pos (show 0 ≤ (links.length : Int) by omega), if_pos (show links.length ≤ 281474976710656 by omega)]
  have key := ev_fold (fun k e => impl_work.l0 k late (timesTo plan links wait late e ++ List.replicate (plan.length - e) 0) (kl links.length (keptE plan links wait late e)) plan (plan.length : Int) (e : Int) plan links wait) plan.length (r := playOf plan links wait late) ?_ ?_
  · have e0 : kl links.length (keptE plan links wait late 0) = List.replicate links.length false := by
      rw [kl_const]
      refine kl_congr fun j hj => ?_
      have := lk_ok hw j hj
      unfold LinkP at this
      exact decide_eq_false (fun g => by omega)
    rw [← e0]
    simpa [timesTo] using key
  · intro e he hn
    refine Ev.step (fun k => by simp only [impl_work.l0]; rfl) ?_
    simp only [if_pos (show (e : Int) < (plan.length : Int) by omega), if_pos (show 0 ≤ (e : Int) by omega)]
    have hbd := timesTo_bd hw hl e (by omega)
    have hlen := timesTo_length plan links wait late e
    have ht : ∀ i : Int, 0 ≤ i → i < e → rd (timesTo plan links wait late e) i + 1000 ≤ 1000000 := fun i a b => by have := hbd i a b; omega
    have hb := baseF_bd hw (timesTo plan links wait late e) e 1000000 he (by omega) ht
    obtain ⟨T, eT⟩ : ∃ T, T = timesTo plan links wait late e ++ List.replicate (plan.length - e) 0 := ⟨_, rfl⟩
    have hTl : T.length = plan.length := by rw [eT, List.length_append, hlen, List.length_replicate]; omega
    have hTr : ∀ i : Int, 0 ≤ i → i < e → rd T i = rd (timesTo plan links wait late e) i := fun i a b => by rw [eT]; exact rd_app_left _ _ i a (by omega)
    rw [← eT]
    -- the links that must be kept
    have k1 := ev_fold (fun k i => impl_work.l1 k late T (kl links.length (fun j => keptE plan links wait late e j || decide (j < i ∧ (lk links j).f1 = (e : Int) ∧ (lk links j).f3 = 0))) (e : Int) (baseF plan links (timesTo plan links wait late e) e i) plan (plan.length : Int) (e : Int) links (links.length : Int) (i : Int) plan links wait) links.length (r := playOf plan links wait late) ?_ ?_
    · simpa [baseF] using k1
    · intro i hi hn1
      refine Ev.step (fun k => by simp only [impl_work.l1]; rfl) ?_
      simp only [if_pos (show (i : Int) < (links.length : Int) by omega), if_pos (show 0 ≤ (i : Int) by omega), kl_length]
      rw [wrap_succ hi (by omega)]
      have hp := lk_ok hw i hi
      unfold LinkP at hp
      change Ev (fun k => if (lk links i).f1 = (e : Int) then _ else _) _
      by_cases g1 : (lk links i).f1 = (e : Int)
      · by_cases g2 : (lk links i).f3 = 0
        · refine Ev.ite (fun _ => ?_) (fun g => absurd g1 g)
          refine Ev.ite (fun _ => ?_) (fun g => absurd g2 g)
          refine Ev.ite (fun _ => ?_) (fun g => absurd hp.1 g)
          refine Ev.ite (fun _ => ?_) (fun g => by exfalso; exact g (show (lk links i).f0 < (T.length : Int) by omega))
          have hr := hbd (lk links i).f0 hp.1 (by omega)
          have er : rd T (rd_T53 links (i : Int)).f0 = rd (timesTo plan links wait late e) (lk links i).f0 := hTr _ hp.1 (by show (lk links i).f0 < (e : Int); omega)
          rw [er]
          have ew : wrap64 (rd (timesTo plan links wait late e) (lk links i).f0 + (rd_T53 links (i : Int)).f2) = readyT (timesTo plan links wait late e) (lk links i) := wrap_id (by show _ ≤ _ + (lk links i).f2; omega) (by show _ + (lk links i).f2 < _; omega)
          rw [ew, Int.toNat_natCast, kl_set]
          unfold baseF at hn1
          rw [if_pos ⟨g1, g2⟩] at hn1
          have ek : kl links.length (fun j => if j = i then true else (keptE plan links wait late e j || decide (j < i ∧ (lk links j).f1 = (e : Int) ∧ (lk links j).f3 = 0))) = kl links.length (fun j => keptE plan links wait late e j || decide (j < i + 1 ∧ (lk links j).f1 = (e : Int) ∧ (lk links j).f3 = 0)) := by
            refine kl_congr fun j _ => ?_
            by_cases ej : j = i
            · subst ej
              rw [if_pos rfl, decide_eq_true (show j < j + 1 ∧ (lk links j).f1 = (e : Int) ∧ (lk links j).f3 = 0 from ⟨by omega, g1, g2⟩), Bool.or_true]
            · rw [if_neg ej]
              congr 1
              exact decide_eq_decide.2 ⟨fun g => ⟨by omega, g.2⟩, fun g => ⟨by omega, g.2⟩⟩
          rw [ek]
          exact hn1
        · refine Ev.ite (fun _ => ?_) (fun g => absurd g1 g)
          refine Ev.ite (fun g => absurd g g2) (fun _ => ?_)
          unfold baseF at hn1
          rw [if_neg (fun g => g2 g.2)] at hn1
          have ek : kl links.length (fun j => keptE plan links wait late e j || decide (j < i ∧ (lk links j).f1 = (e : Int) ∧ (lk links j).f3 = 0)) = kl links.length (fun j => keptE plan links wait late e j || decide (j < i + 1 ∧ (lk links j).f1 = (e : Int) ∧ (lk links j).f3 = 0)) := by
            refine kl_congr fun j _ => ?_
            congr 1
            refine decide_eq_decide.2 ⟨fun g => ⟨by omega, g.2⟩, fun g => ⟨?_, g.2⟩⟩
            rcases Nat.lt_or_ge j i with hlt | hge
            · exact hlt
            · obtain rfl : j = i := by omega
              exact absurd g.2.2 g2
          rw [ek]
          exact hn1
      · refine Ev.ite (fun g => absurd g g1) (fun _ => ?_)
        unfold baseF at hn1
        rw [if_neg (fun g => g1 g.1)] at hn1
        have ek : kl links.length (fun j => keptE plan links wait late e j || decide (j < i ∧ (lk links j).f1 = (e : Int) ∧ (lk links j).f3 = 0)) = kl links.length (fun j => keptE plan links wait late e j || decide (j < i + 1 ∧ (lk links j).f1 = (e : Int) ∧ (lk links j).f3 = 0)) := by
          refine kl_congr fun j _ => ?_
          congr 1
          refine decide_eq_decide.2 ⟨fun g => ⟨by omega, g.2⟩, fun g => ⟨?_, g.2⟩⟩
          rcases Nat.lt_or_ge j i with hlt | hge
          · exact hlt
          · obtain rfl : j = i := by omega
            exact absurd g.2.1 g1
        rw [ek]
        exact hn1
    · refine Ev.step (fun k => by simp only [impl_work.l1]; rfl) ?_
      simp only [if_neg (show ¬ (links.length : Int) < (links.length : Int) by omega)]
      have hB := hb links.length (Nat.le_refl _)
      obtain ⟨B, eB⟩ : ∃ B, B = baseF plan links (timesTo plan links wait late e) e links.length := ⟨_, rfl⟩
      rw [← eB] at hB ⊢
      have hT := timeF_bd hw (timesTo plan links wait late e) B e 1000000 hB.1 hB.2 ht
      -- the links that may be missed
      have kq : ∀ j, j < links.length → (lk links j).f1 = (e : Int) → (keptQ plan links wait late j ↔ readyT (timesTo plan links wait late e) (lk links j) ≤ B + wait) := by
        intro j _ g
        unfold keptQ
        rw [g, Int.toNat_natCast, eB]
      have k2 := ev_fold (fun k i => impl_work.l2 k late T (kl links.length (fun j => keptE plan links wait late e j || decide ((lk links j).f1 = (e : Int) ∧ (lk links j).f3 = 0) || decide (j < i ∧ (lk links j).f1 = (e : Int) ∧ (lk links j).f3 = 1 ∧ keptQ plan links wait late j))) (e : Int) B (timeF links (timesTo plan links wait late e) wait B e i) plan (plan.length : Int) (e : Int) links (links.length : Int) (i : Int) plan links wait) links.length (r := playOf plan links wait late) ?_ ?_
      · have ek : kl links.length (fun j => keptE plan links wait late e j || decide ((lk links j).f1 = (e : Int) ∧ (lk links j).f3 = 0) || decide (j < 0 ∧ (lk links j).f1 = (e : Int) ∧ (lk links j).f3 = 1 ∧ keptQ plan links wait late j)) = kl links.length (fun j => keptE plan links wait late e j || decide (j < links.length ∧ (lk links j).f1 = (e : Int) ∧ (lk links j).f3 = 0)) := by
          refine kl_congr fun j hj => ?_
          rw [decide_eq_false (p := j < 0 ∧ _) (fun g => by omega), Bool.or_false]
          congr 1
          exact decide_eq_decide.2 ⟨fun g => ⟨hj, g⟩, fun g => g.2⟩
        rw [ek] at k2
        exact k2
      · intro i hi hn1
        refine Ev.step (fun k => by simp only [impl_work.l2]; rfl) ?_
        simp only [if_pos (show (i : Int) < (links.length : Int) by omega), if_pos (show 0 ≤ (i : Int) by omega), kl_length]
        rw [wrap_succ hi (by omega), wrap_id (x := B + wait) (by omega) (by omega)]
        have hp := lk_ok hw i hi
        unfold LinkP at hp
        have ek : ¬ ((lk links i).f1 = (e : Int) ∧ (lk links i).f3 = 1 ∧ keptQ plan links wait late i) → kl links.length (fun j => keptE plan links wait late e j || decide ((lk links j).f1 = (e : Int) ∧ (lk links j).f3 = 0) || decide (j < i ∧ (lk links j).f1 = (e : Int) ∧ (lk links j).f3 = 1 ∧ keptQ plan links wait late j)) = kl links.length (fun j => keptE plan links wait late e j || decide ((lk links j).f1 = (e : Int) ∧ (lk links j).f3 = 0) || decide (j < i + 1 ∧ (lk links j).f1 = (e : Int) ∧ (lk links j).f3 = 1 ∧ keptQ plan links wait late j)) := by
          intro hno
          refine kl_congr fun j _ => ?_
          congr 1
          refine decide_eq_decide.2 ⟨fun g => ⟨by omega, g.2⟩, fun g => ⟨?_, g.2⟩⟩
          rcases Nat.lt_or_ge j i with hlt | hge
          · exact hlt
          · obtain rfl : j = i := by omega
            exact absurd g.2 hno
        change Ev (fun k => if (lk links i).f1 = (e : Int) then _ else _) _
        refine Ev.ite (fun g1 => ?_) (fun g1 => ?_)
        · refine Ev.ite (fun g2 => ?_) (fun g2 => ?_)
          · refine Ev.ite (fun _ => ?_) (fun g => absurd hp.1 g)
            refine Ev.ite (fun _ => ?_) (fun g => by exfalso; exact g (show (lk links i).f0 < (T.length : Int) by omega))
            have hr := hbd (lk links i).f0 hp.1 (by omega)
            have er : rd T (rd_T53 links (i : Int)).f0 = rd (timesTo plan links wait late e) (lk links i).f0 := hTr _ hp.1 (by show (lk links i).f0 < (e : Int); omega)
            rw [er]
            have ew : wrap64 (rd (timesTo plan links wait late e) (lk links i).f0 + (rd_T53 links (i : Int)).f2) = readyT (timesTo plan links wait late e) (lk links i) := wrap_id (by show _ ≤ _ + (lk links i).f2; omega) (by show _ + (lk links i).f2 < _; omega)
            rw [ew]
            refine Ev.ite (fun g3 => ?_) (fun g3 => ?_)
            · rw [Int.toNat_natCast, kl_set]
              unfold timeF at hn1
              rw [if_pos ⟨g1, g2, g3⟩] at hn1
              have ek2 : kl links.length (fun j => if j = i then true else (keptE plan links wait late e j || decide ((lk links j).f1 = (e : Int) ∧ (lk links j).f3 = 0) || decide (j < i ∧ (lk links j).f1 = (e : Int) ∧ (lk links j).f3 = 1 ∧ keptQ plan links wait late j))) = kl links.length (fun j => keptE plan links wait late e j || decide ((lk links j).f1 = (e : Int) ∧ (lk links j).f3 = 0) || decide (j < i + 1 ∧ (lk links j).f1 = (e : Int) ∧ (lk links j).f3 = 1 ∧ keptQ plan links wait late j)) := by
                refine kl_congr fun j _ => ?_
                by_cases ej : j = i
                · subst ej
                  rw [if_pos rfl, decide_eq_true (show j < j + 1 ∧ (lk links j).f1 = (e : Int) ∧ (lk links j).f3 = 1 ∧ keptQ plan links wait late j from ⟨by omega, g1, g2, (kq j hi g1).2 g3⟩), Bool.or_true]
                · rw [if_neg ej]
                  congr 1
                  exact decide_eq_decide.2 ⟨fun g => ⟨by omega, g.2⟩, fun g => ⟨by omega, g.2⟩⟩
              rw [ek2]
              exact hn1
            · unfold timeF at hn1
              rw [if_neg (fun g => g3 g.2.2)] at hn1
              rw [ek (fun g => g3 ((kq i hi g1).1 g.2.2))]
              exact hn1
          · unfold timeF at hn1
            rw [if_neg (fun g => g2 g.2.1)] at hn1
            rw [ek (fun g => g2 g.2.1)]
            exact hn1
        · unfold timeF at hn1
          rw [if_neg (fun g => g1 g.1)] at hn1
          rw [ek (fun g => g1 g.1)]
          exact hn1
      · refine Ev.step (fun k => by simp only [impl_work.l2]; rfl) ?_
        simp only [if_neg (show ¬ (links.length : Int) < (links.length : Int) by omega), if_pos (show 0 ≤ (e : Int) by omega)]
        have hll := hl.1
        have hlt := hl.2 e (by omega)
        have hTT := hT links.length (Nat.le_refl _)
        refine Ev.ite (fun _ => ?_) (fun g => by exfalso; omega)
        refine Ev.ite (fun _ => ?_) (fun g => by exfalso; omega)
        rw [wrap_succ he (by omega), wrap_id (x := timeF links (timesTo plan links wait late e) wait B e links.length + rd late (e : Int)) (by omega) (by omega), Int.toNat_natCast]
        have eS : T.set e (timeF links (timesTo plan links wait late e) wait B e links.length + rd late (e : Int)) = timesTo plan links wait late (e + 1) ++ List.replicate (plan.length - (e + 1)) 0 := by
          rw [eT, List.set_append_right _ _ (by omega), hlen, Nat.sub_self, show plan.length - e = (plan.length - (e + 1)) + 1 by omega, List.replicate_succ, List.set_cons_zero]
          rw [timesTo_succ, ← eB]
          simp
        rw [eS]
        have ek : kl links.length (fun j => keptE plan links wait late e j || decide ((lk links j).f1 = (e : Int) ∧ (lk links j).f3 = 0) || decide (j < links.length ∧ (lk links j).f1 = (e : Int) ∧ (lk links j).f3 = 1 ∧ keptQ plan links wait late j)) = kl links.length (keptE plan links wait late (e + 1)) := by
          refine kl_congr fun j hj => ?_
          have hp := lk_ok hw j hj
          unfold LinkP at hp
          unfold keptE
          rw [← Bool.decide_or, ← Bool.decide_or]
          refine decide_eq_decide.2 ⟨fun g => ?_, fun g => ?_⟩
          · rcases g with (g | g) | g
            · exact ⟨by omega, g.2⟩
            · exact ⟨by omega, .inl g.2⟩
            · exact ⟨by omega, .inr g.2.2.2⟩
          · by_cases h1 : (lk links j).f1 < (e : Int)
            · exact .inl (.inl ⟨h1, g.2⟩)
            · have h2 : (lk links j).f1 = (e : Int) := by omega
              by_cases h3 : (lk links j).f3 = 0
              · exact .inl (.inr ⟨h2, h3⟩)
              · exact .inr ⟨hj, h2, by omega, g.2.resolve_left h3⟩
        rw [ek]
        exact hn
  · refine Ev.step (fun k => by simp only [impl_work.l0]; rfl) ?_
    simp only [if_neg (show ¬ (plan.length : Int) < (plan.length : Int) by omega)]
    refine ev_val ?_
    unfold playOf
    simp only [Nat.sub_self, List.replicate_zero, List.append_nil, Prod.mk.injEq, true_and]
    refine kl_congr fun j hj => ?_
    have hp := lk_ok hw j hj
    unfold LinkP at hp
    unfold keptE
    exact decide_eq_decide.2 ⟨fun g => g.2, fun g => ⟨by omega, g⟩⟩
end

theorem ev_impl_Times (plan late : List Int) (links : List S53) (wait : Int) (hlate : late.length ≤ 4611686018427387904) : Ev (fun k => impl_Times.f k plan links wait late) (timesOf plan links wait late) := by
  classical
  unfold impl_Times.f
  refine Ev.bind (ev_impl_playable plan late links wait hlate (decide (WorkP plan links wait ∧ LateP plan late)) decide_eq_true_iff) ?_
  refine Ev.ite (fun h => ?_) (fun h => ev_val (by unfold timesOf; rw [if_neg (fun g => h (decide_eq_true g))]))
  have hw := of_decide_eq_true h
  refine Ev.bind (ev_impl_work hw.1 hw.2) ?_
  unfold timesOf
  rw [if_pos hw]
  exact ev_val rfl

theorem ev_impl_Lateness (plan late : List Int) (links : List S53) (wait : Int) (hlate : late.length ≤ 4611686018427387904) (hp : plan.length ≤ 1048576) : Ev (fun k => impl_Lateness.f k plan links wait late) (latesOf plan links wait late) := by
  unfold impl_Lateness.f
  refine Ev.bind (ev_impl_Times plan late links wait hlate) ?_
  have hle := timesOf_len plan links wait late
  unfold latesOf
  obtain ⟨ts, et⟩ : ∃ ts, ts = timesOf plan links wait late := ⟨_, rfl⟩
  rw [← et] at hle ⊢
  have hlen : ∀ i, i ≤ ts.length → (diffs plan ts i ++ ts.drop i).length = ts.length := by
    intro i hi
    simp [diffs]
    omega
  have key := ev_fold (fun k i => impl_Lateness.l0 k (diffs plan ts i ++ ts.drop i) (ts.length : Int) (i : Int) plan links wait) ts.length (r := diffs plan ts ts.length) ?_ ?_
  · simpa [diffs] using key
  · intro i hi hn
    refine Ev.step (fun k => by simp only [impl_Lateness.l0]; rfl) ?_
    simp only [if_pos (show (i : Int) < (ts.length : Int) by omega), if_pos (show 0 ≤ (i : Int) by omega), if_pos (show (i : Int) < ((diffs plan ts i ++ ts.drop i).length : Int) by rw [hlen i (by omega)]; omega), if_pos (show (i : Int) < (plan.length : Int) by omega), Int.toNat_natCast]
    rw [diffs_rd plan ts i hi, wrap_succ hi (by omega), show wrap64 (rd ts (i : Int) - rd plan (i : Int)) = diffF plan ts i from rfl, diffs_set plan ts i hi]
    exact hn
  · refine Ev.step (fun k => by simp only [impl_Lateness.l0]; rfl) ?_
    simp only [if_neg (show ¬ (ts.length : Int) < (ts.length : Int) by omega)]
    exact ev_val (by simp)

theorem ev_laws_eqIntS (xs ys : List Int) (hl : xs.length ≤ 4611686018427387904) (b : Bool) (hb : b = true ↔ xs = ys) : Ev (fun k => laws_eqIntS.f k xs ys) b := by
  unfold laws_eqIntS.f
  by_cases he : xs.length = ys.length
  · simp only [if_pos (show (xs.length : Int) = (ys.length : Int) by omega)]
    refine ev_same xs ys he (fun k i => laws_eqIntS.l0 k xs ys (i : Int)) hb ?_ ?_ ?_
    · intro i hi hi' e hn
      refine Ev.step (fun k => by simp only [laws_eqIntS.l0]; rfl) ?_
      simp only [if_pos (show (i : Int) < (xs.length : Int) by omega), if_pos (show 0 ≤ (i : Int) by omega), if_pos (show (i : Int) < (ys.length : Int) by omega)]
      rw [wrap_succ hi (by omega), rd_nat hi, rd_nat hi']
      simp only [if_pos e]
      exact hn
    · intro i hi hi' e
      refine Ev.step (fun k => by simp only [laws_eqIntS.l0]; rfl) ?_
      simp only [if_pos (show (i : Int) < (xs.length : Int) by omega), if_pos (show 0 ≤ (i : Int) by omega), if_pos (show (i : Int) < (ys.length : Int) by omega)]
      rw [rd_nat hi, rd_nat hi']
      simp only [if_neg e]
      exact ev_val rfl
    · refine Ev.step (fun k => by simp only [laws_eqIntS.l0]; rfl) ?_
      simp only [if_neg (show ¬ (xs.length : Int) < (xs.length : Int) by omega)]
      exact ev_val rfl
  · simp only [if_neg (show ¬ (xs.length : Int) = (ys.length : Int) by omega)]
    exact ev_val (bool_not hb fun e => he (by rw [e])).symm

theorem eq_laws_eqLink (a0 a1 a2 a3 b0 b1 b2 b3 : Int) : laws_eqLink.f a0 a1 a2 a3 b0 b1 b2 b3 = some (decide (a0 = b0 ∧ a1 = b1 ∧ a2 = b2 ∧ a3 = b3)) := by
  unfold laws_eqLink.f
  (repeat' split) <;> simp_all
theorem ev_laws_eqLinkS (xs ys : List S53) (hl : xs.length ≤ 4611686018427387904) (b : Bool) (hb : b = true ↔ xs = ys) : Ev (fun k => laws_eqLinkS.f k xs ys) b := by
  unfold laws_eqLinkS.f
  by_cases he : xs.length = ys.length
  · simp only [if_pos (show (xs.length : Int) = (ys.length : Int) by omega)]
    have e : ∀ (zs : List S53) (i : Nat) (hi : i < zs.length), rd_T53 zs (i : Int) = zs[i] := fun zs i hi => getD_nat _ hi
    refine ev_same xs ys he (fun k i => laws_eqLinkS.l0 k xs ys (i : Int)) hb ?_ ?_ ?_
    · intro i hi hi' e1 hn
      refine Ev.step (fun k => by simp only [laws_eqLinkS.l0]; rfl) ?_
      simp only [if_pos (show (i : Int) < (xs.length : Int) by omega), if_pos (show 0 ≤ (i : Int) by omega), if_pos (show (i : Int) < (ys.length : Int) by omega), eq_laws_eqLink, e _ _ hi, e _ _ hi', e1, Option.bind_some, and_self, decide_true, if_true]
      rw [wrap_succ hi (by omega)]
      exact hn
    · intro i hi hi' e1
      refine Ev.step (fun k => by simp only [laws_eqLinkS.l0]; rfl) ?_
      have e2 : ¬ (xs[i].f0 = ys[i].f0 ∧ xs[i].f1 = ys[i].f1 ∧ xs[i].f2 = ys[i].f2 ∧ xs[i].f3 = ys[i].f3) := fun h => e1 (extLink _ _ h)
      simp only [if_pos (show (i : Int) < (xs.length : Int) by omega), if_pos (show 0 ≤ (i : Int) by omega), if_pos (show (i : Int) < (ys.length : Int) by omega), eq_laws_eqLink, e _ _ hi, e _ _ hi', decide_eq_false e2, Option.bind_some]
      exact ev_val rfl
    · refine Ev.step (fun k => by simp only [laws_eqLinkS.l0]; rfl) ?_
      simp only [if_neg (show ¬ (xs.length : Int) < (xs.length : Int) by omega)]
      exact ev_val rfl
  · simp only [if_neg (show ¬ (xs.length : Int) = (ys.length : Int) by omega)]
    exact ev_val (bool_not hb fun e => he (by rw [e])).symm

theorem ev_laws_eqWork_same (plan : List Int) (links : List S53) (wait : Int) (hp : plan.length ≤ 1048576) (hl : links.length ≤ 1048576) : Ev (fun k => laws_eqWork.f k plan links wait plan links wait) true := by
  unfold laws_eqWork.f
  refine Ev.bind (ev_laws_eqIntS _ _ (by omega) true (by simp)) ?_
  simp only [if_true]
  exact Ev.bind (ev_laws_eqLinkS _ _ (by omega) true (by simp)) (ev_val rfl)

def markedInt (m : Nat) (a : Int) : List Int := (List.range m).map fun (i : Nat) => (a + (i : Int))
theorem markedInt_length (m : Nat) (a : Int) : (markedInt m a).length = m := by simp [markedInt]
theorem marked_set (i : Nat) (a : Int) (xs : List Int) (hi : i < xs.length) : (markedInt i a ++ xs.drop i).set i ((a + (i : Int))) = markedInt (i + 1) a ++ xs.drop (i + 1) := by
  have hl : (markedInt i a).length = i := by simp [markedInt]
  rw [List.set_append_right _ _ (by omega), hl, Nat.sub_self, List.drop_eq_getElem_cons hi, List.set_cons_zero]
  simp [markedInt, List.range_succ]
theorem ev_laws_markIntS (xs : List Int) (hl : xs.length ≤ 4194304) (a : Int) (h0 : 0 ≤ a) (h1 : a ≤ 1152921504606846976) : Ev (fun k => laws_markIntS.f k xs a) (a + (xs.length : Int), markedInt xs.length a) := by
  unfold laws_markIntS.f
  have hlen : ∀ i, i < xs.length → (markedInt i a ++ xs.drop i).length = xs.length := by
    intro i hi
    simp [markedInt]
    omega
  have key := ev_fold (fun k i => laws_markIntS.l0 k (markedInt i a ++ xs.drop i) (a + (i : Int)) (i : Int)) xs.length (r := (a + (xs.length : Int), markedInt xs.length a)) ?_ ?_
  · have e : a + 0 = a := by omega
    simpa [markedInt] using key
  · intro i hi hn
    refine Ev.step (fun k => by simp only [laws_markIntS.l0]; rfl) ?_
    simp only [if_pos (show (i : Int) < ((markedInt i a ++ xs.drop i).length : Int) by rw [hlen i hi]; omega), if_pos (show 0 ≤ (i : Int) by omega), Int.toNat_natCast]
    rw [marked_set i a xs hi, wrap_succ hi (by omega), wrap_id (by omega) (by omega), show a + (i : Int) + 1 = a + ((i + 1 : Nat) : Int) by omega]
    exact hn
  · refine Ev.step (fun k => by simp only [laws_markIntS.l0]; rfl) ?_
    have e : markedInt xs.length a ++ xs.drop xs.length = markedInt xs.length a := by simp
    rw [e]
    simp only [markedInt_length, if_neg (show ¬ (xs.length : Int) < (xs.length : Int) by omega)]
    exact ev_val rfl

def mkLink (a : Int) (i : Nat) : S53 := ⟨a + 4 * (i : Int), a + 4 * (i : Int) + 1, a + 4 * (i : Int) + 2, a + 4 * (i : Int) + 3⟩
def markedLink (m : Nat) (a : Int) : List S53 := (List.range m).map fun (i : Nat) => mkLink a i
theorem markedLink_length (m : Nat) (a : Int) : (markedLink m a).length = m := by simp [markedLink]
theorem marked_setLink (i : Nat) (a : Int) (xs : List S53) (hi : i < xs.length) : (markedLink i a ++ xs.drop i).set i (mkLink a i) = markedLink (i + 1) a ++ xs.drop (i + 1) := by
  have hl : (markedLink i a).length = i := by simp [markedLink]
  rw [List.set_append_right _ _ (by omega), hl, Nat.sub_self, List.drop_eq_getElem_cons hi, List.set_cons_zero]
  simp [markedLink, List.range_succ]
theorem rds_Link (xs : List S53) (i : Nat) (v : S53) (hi : i < xs.length) : rd_T53 (xs.set i v) (i : Int) = v := by
  have h : i < (xs.set i v).length := by rw [List.length_set]; exact hi
  have e : rd_T53 (xs.set i v) (i : Int) = (xs.set i v)[i] := getD_nat _ h
  rw [e, List.getElem_set_self]
theorem ev_laws_markLinkS (xs : List S53) (hl : xs.length ≤ 4194304) (a : Int) (h0 : 0 ≤ a) (h1 : a ≤ 1152921504606846976) : Ev (fun k => laws_markLinkS.f k xs a) (a + 4 * (xs.length : Int), markedLink xs.length a) := by
  unfold laws_markLinkS.f
  have hlen : ∀ i, i < xs.length → (markedLink i a ++ xs.drop i).length = xs.length := by
    intro i hi
    simp [markedLink]
    omega
  have key := ev_fold (fun k i => laws_markLinkS.l0 k (markedLink i a ++ xs.drop i) (a + 4 * (i : Int)) (i : Int)) xs.length (r := (a + 4 * (xs.length : Int), markedLink xs.length a)) ?_ ?_
  · have e : a + 4 * 0 = a := by omega
    simpa [markedLink] using key
  · intro i hi hn
    refine Ev.step (fun k => by simp only [laws_markLinkS.l0]; rfl) ?_
    have hlt : i < (markedLink i a ++ xs.drop i).length := by rw [hlen i hi]; omega
    simp only [if_pos (show (i : Int) < ((markedLink i a ++ xs.drop i).length : Int) by omega), if_pos (show 0 ≤ (i : Int) by omega), Int.toNat_natCast, Option.bind_some]
    simp only [rds_Link _ _ _ hlt, List.length_set, List.set_set]
    rw [wrap_id (x := a + 4 * (i : Int) + 1) (by omega) (by omega)]
    rw [wrap_id (x := a + 4 * (i : Int) + 1 + 1) (by omega) (by omega), show a + 4 * (i : Int) + 1 + 1 = a + 4 * (i : Int) + 2 by omega]
    rw [wrap_id (x := a + 4 * (i : Int) + 2 + 1) (by omega) (by omega), show a + 4 * (i : Int) + 2 + 1 = a + 4 * (i : Int) + 3 by omega]
    rw [wrap_id (x := a + 4 * (i : Int) + 3 + 1) (by omega) (by omega)]
    rw [wrap_succ hi (by omega)]
    have e := marked_setLink i a xs hi
    unfold mkLink at e
    simp only [e]
    rw [show a + 4 * (i : Int) + 3 + 1 = a + 4 * ((i + 1 : Nat) : Int) by omega]
    exact hn
  · refine Ev.step (fun k => by simp only [laws_markLinkS.l0]; rfl) ?_
    have e : markedLink xs.length a ++ xs.drop xs.length = markedLink xs.length a := by simp
    rw [e]
    simp only [markedLink_length, if_neg (show ¬ (xs.length : Int) < (xs.length : Int) by omega)]
    exact ev_val rfl

theorem ev_laws_markWork (plan : List Int) (links : List S53) (wait : Int) (hp : plan.length ≤ 4194304) (hl : links.length ≤ 4194304) (a : Int) (h0 : 0 ≤ a) (h1 : a ≤ 1048576) : Ev (fun k => laws_markWork.f k plan links wait a) (a + (plan.length : Int) + 4 * (links.length : Int), markedInt plan.length a, markedLink links.length (a + (plan.length : Int))) := by
  unfold laws_markWork.f
  refine Ev.bind (ev_laws_markIntS plan hp a h0 (by omega)) ?_
  refine Ev.bind (ev_laws_markLinkS links hl (a + (plan.length : Int)) (by omega) (by omega)) ?_
  exact ev_val rfl

theorem ev_laws_heldIntS (m : Nat) (hl : m ≤ 4194304) (a : Int) (h0 : 0 ≤ a) (h1 : a ≤ 1152921504606846976) : Ev (fun k => laws_heldIntS.f k (markedInt m a) a) (a + (m : Int)) := by
  unfold laws_heldIntS.f
  have e : ∀ i (hi : i < m), (markedInt m a)[i]'(by rw [markedInt_length]; exact hi) = (a + (i : Int)) := by
    intro i hi
    simp [markedInt]
  have key := ev_fold (fun k i => laws_heldIntS.l0 k (markedInt m a) (a + (i : Int)) (i : Int)) m (r := a + (m : Int)) ?_ ?_
  · simpa using key
  · intro i hi hn
    refine Ev.step (fun k => by simp only [laws_heldIntS.l0]; rfl) ?_
    simp only [if_pos (show (i : Int) < ((markedInt m a).length : Int) by rw [markedInt_length]; omega), if_pos (show 0 ≤ (i : Int) by omega), rd_nat (show i < (markedInt m a).length by rw [markedInt_length]; exact hi), e i hi, if_true]
    rw [wrap_succ hi (by omega), wrap_id (by omega) (by omega), show a + (i : Int) + 1 = a + ((i + 1 : Nat) : Int) by omega]
    exact hn
  · refine Ev.step (fun k => by simp only [laws_heldIntS.l0]; rfl) ?_
    simp only [markedInt_length, if_neg (show ¬ (m : Int) < (m : Int) by omega)]
    exact ev_val rfl

theorem FnExactLateness : RFnExactLateness.Pure := by
  intro x late ⟨⟨hp, _⟩, ⟨hm, _⟩, _⟩ ⟨hml, _⟩
  refine Ev.rounds ?_
  unfold laws_FnExactLateness.f
  refine Ev.ite (fun _ => ev_val rfl) (fun hlb => ?_)
  rw [eq_laws_szWork _ _ _ _ hp hm (by omega) (by omega)]
  simp only [Option.bind_some]
  refine Ev.ite (fun _ => ev_val rfl) (fun hbig => ?_)
  have hz := sz2w_ok hbig
  have hl1 : x.f0.length ≤ 1048576 := by omega
  have hl2 : x.f1.length ≤ 1048576 := by omega
  have hl3 : late.length ≤ 1048576 := by omega
  have hl' : (x.f1.map cvLink).length ≤ 1048576 := by simpa using hl2
  have hr := latesOf_len x.f0 (x.f1.map cvLink) x.f2 late
  have e1 := ev_spec_Lateness x.f0 late (x.f1.map cvLink) x.f2 (by omega) hl1
  have e2 := ev_impl_Lateness x.f0 late (x.f1.map cvLink) x.f2 (by omega) hl1
  obtain ⟨r, er⟩ : ∃ r, r = latesOf x.f0 (x.f1.map cvLink) x.f2 late := ⟨_, rfl⟩
  rw [← er] at hr e1 e2
  refine Ev.bind (ev_laws_toWork _ _ _ hl1 hl2) ?_
  refine Ev.bind (ev_laws_toIntS _ hl3) ?_
  refine Ev.bind e1 ?_
  refine Ev.bind (ev_laws_toWork _ _ _ hl1 hl2) ?_
  refine Ev.bind (ev_laws_toIntS _ hl3) ?_
  refine Ev.bind e2 ?_
  refine Ev.bind (ev_laws_eqIntS _ _ (by omega) true (by simp)) ?_
  simp only [if_true]
  refine Ev.bind (ev_laws_toWork _ _ _ hl1 hl2) ?_
  refine Ev.bind (ev_laws_eqWork_same _ _ _ hl1 hl') ?_
  simp only [if_true]
  refine Ev.bind (ev_laws_toIntS _ hl3) ?_
  refine Ev.bind (ev_laws_eqIntS _ _ (by omega) true (by simp)) ?_
  simp only [if_true]
  refine Ev.bind (ev_laws_markWork x.f0 (x.f1.map cvLink) x.f2 (by omega) (by omega) 1 (by omega) (by omega)) ?_
  refine Ev.bind (ev_laws_markIntS late (by omega) (1 + (x.f0.length : Int) + 4 * ((x.f1.map cvLink).length : Int)) (by omega) (by omega)) ?_
  simp only [if_neg (show ¬ 1 + (x.f0.length : Int) + 4 * ((x.f1.map cvLink).length : Int) + (late.length : Int) < 0 by omega)]
  refine Ev.bind (ev_laws_eqIntS _ _ (by omega) true (by simp)) ?_
  simp only [Bool.not_true]
  refine Ev.step (fun k => by simp only [laws_FnExactLateness.j0]; rfl) ?_
  simp only [Bool.false_eq_true, if_false]
  refine Ev.bind (ev_laws_markIntS r (by omega) 1 (by omega) (by omega)) ?_
  refine Ev.bind (ev_laws_heldIntS r.length (by omega) 1 (by omega) (by omega)) ?_
  simp only [if_neg (show ¬ 1 + (r.length : Int) < 0 by omega), if_true]
  refine Ev.bind (ev_laws_toWork _ _ _ hl1 hl2) ?_
  refine Ev.bind (ev_laws_toIntS _ hl3) ?_
  refine Ev.bind e2 ?_
  refine Ev.bind (ev_laws_eqIntS _ _ (by omega) true (by simp)) ?_
  simp only [if_true]
  refine Ev.bind (ev_laws_heldIntS r.length (by omega) 1 (by omega) (by omega)) ?_
  simp only [if_neg (show ¬ 1 + (r.length : Int) < 0 by omega), if_true]
  exact ev_val rfl

end Go.Proofs.Ytomkglmlhoaniaa.Pure
