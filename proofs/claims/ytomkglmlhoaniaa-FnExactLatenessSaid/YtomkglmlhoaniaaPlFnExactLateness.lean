/- Plain laws of rounds: loops that count up, loops that fill a list, loops that compare two lists; what a number's wrap is within its bounds. -/
import Derived.Test.YtomkglmlhoaniaaVFnExactLateness
namespace Go.Proofs.Ytomkglmlhoaniaa.Pl
open Go.RowKit Go.Proofs.YtomkglmlhoaniaaW.PrintWords Go.Proofs.YtomkglmlhoaniaaW.PrintLast Go.Proofs.YtomkglmlhoaniaaW.PrintMore

theorem wrap_id {x : Int} (h0 : -9223372036854775808 ≤ x) (h1 : x < 9223372036854775808) : wrap64 x = x := by unfold wrap64; omega
theorem wrap_succ {i n : Nat} (h : i < n) (hn : n ≤ 9223372036854775807) : wrap64 ((i : Int) + 1) = ((i + 1 : Nat) : Int) := by unfold wrap64; omega
theorem wf_lo {x : Int} (h : (Lit.int .i64 x).wf = true) : -9223372036854775808 ≤ x := by
  simp only [Lit.wf, Bool.and_eq_true, decide_eq_true_eq] at h
  have h1 : IntKind.i64.min = -9223372036854775808 := by decide
  omega
theorem wf_hi {x : Int} (h : (Lit.int .i64 x).wf = true) : x ≤ 9223372036854775807 := by
  simp only [Lit.wf, Bool.and_eq_true, decide_eq_true_eq] at h
  have h1 : IntKind.i64.max = 9223372036854775807 := by decide
  omega
theorem getD_nat {α : Type} {xs : List α} {i : Nat} (z : α) (h : i < xs.length) : xs.getD (i : Int).toNat z = xs[i] := by
  rw [Int.toNat_natCast, List.getD_eq_getElem?_getD, List.getElem?_eq_getElem h]
  rfl
theorem rd_nat {xs : List Int} {i : Nat} (h : i < xs.length) : rd xs (i : Int) = xs[i] := getD_nat 0 h
theorem bool_of {b : Bool} {P : Prop} (hb : b = true ↔ P) (h : P) : b = true := hb.2 h
theorem bool_not {b : Bool} {P : Prop} (hb : b = true ↔ P) (h : ¬ P) : b = false := by
  cases b with
  | false => rfl
  | true => exact absurd (hb.1 rfl) h
/-- The answer is the same. -/
theorem Ev.cast {R : Type} {g : Nat → Option R} {r r' : R} (h : Ev g r) (e : r = r') : Ev g r' := e ▸ h
theorem ev_val {R : Type} {a r : R} (e : a = r) : Ev (fun _ => some a) r := ⟨0, fun _ _ => by rw [e]⟩
theorem ev_opt {R : Type} {a : Option R} {r : R} (e : a = some r) : Ev (fun _ => a) r := ⟨0, fun _ _ => e⟩
/-- A loop that counts up: it stops at the first place where c holds, or at the end. -/
theorem ev_run {R : Type} (G : Nat → Nat → Option R) (c : Nat → Bool) (n : Nat) {r : R}
    (h : ∀ i, i < n → c i = false → Ev (fun k => G k (i + 1)) r → Ev (fun k => G k i) r)
    (hex : ∀ i, i < n → c i = true → (∀ j, j < i → c j = false) → Ev (fun k => G k i) r)
    (hend : (∀ j, j < n → c j = false) → Ev (fun k => G k n) r) : Ev (fun k => G k 0) r := by
  have key : ∀ d i, i + d = n → (∀ j, j < i → c j = false) → Ev (fun k => G k i) r := by
    intro d
    induction d with
    | zero =>
      intro i hi hc
      obtain rfl : i = n := by omega
      exact hend hc
    | succ d ih =>
      intro i hi hc
      cases hci : c i with
      | true => exact hex i (by omega) hci hc
      | false =>
        refine h i (by omega) hci (ih (i + 1) (by omega) fun j hj => ?_)
        rcases Nat.lt_or_ge j i with hl | hg
        · exact hc j hl
        · obtain rfl : j = i := by omega
          exact hci
  exact key n 0 (by omega) (fun j hj => absurd hj (Nat.not_lt_zero _))
/-- A loop that counts up and never stops ahead of the end. -/
theorem ev_fold {R : Type} (G : Nat → Nat → Option R) (n : Nat) {r : R}
    (h : ∀ i, i < n → Ev (fun k => G k (i + 1)) r → Ev (fun k => G k i) r) (hend : Ev (fun k => G k n) r) : Ev (fun k => G k 0) r :=
  ev_run G (fun _ => false) n (fun i hi _ => h i hi) (fun _ _ h => by cases h) (fun _ => hend)
theorem fill_step {α β : Type} (xs : List α) (f : α → β) (z : β) (i : Nat) (hi : i < xs.length) :
    ((xs.take i).map f ++ List.replicate (xs.length - i) z).set i (f xs[i]) = (xs.take (i + 1)).map f ++ List.replicate (xs.length - (i + 1)) z := by
  have hl : ((xs.take i).map f).length = i := by simp; omega
  rw [List.set_append_right _ _ (by omega), hl, Nat.sub_self]
  have hr : xs.length - i = (xs.length - (i + 1)) + 1 := by omega
  rw [hr, List.replicate_succ, List.set_cons_zero, List.take_succ_eq_append_getElem hi, List.map_append]
  simp
/-- A list is filled place by place. -/
theorem ev_fill {R α β : Type} (xs : List α) (f : α → β) (z : β) (G : Nat → List β → Nat → Option R) {r : R}
    (h : ∀ i (hi : i < xs.length) (s : List β), s.length = xs.length → Ev (fun k => G k (s.set i (f xs[i])) (i + 1)) r → Ev (fun k => G k s i) r)
    (hend : Ev (fun k => G k (xs.map f) xs.length) r) : Ev (fun k => G k (List.replicate xs.length z) 0) r := by
  have := ev_fold (fun k i => G k ((xs.take i).map f ++ List.replicate (xs.length - i) z) i) xs.length (r := r)
    (fun i hi hn => h i hi _ (by simp; omega) (by rw [fill_step xs f z i hi]; exact hn)) (by simpa using hend)
  simpa using this
/-- Two lists of one length are compared place by place. -/
theorem ev_same {α : Type} (xs ys : List α) (hl : xs.length = ys.length) (G : Nat → Nat → Option Bool) {b : Bool} (hb : b = true ↔ xs = ys)
    (hstep : ∀ i (hi : i < xs.length) (hi' : i < ys.length), xs[i] = ys[i] → Ev (fun k => G k (i + 1)) b → Ev (fun k => G k i) b)
    (hbad : ∀ i (hi : i < xs.length) (hi' : i < ys.length), xs[i] ≠ ys[i] → Ev (fun k => G k i) false)
    (hend : Ev (fun k => G k xs.length) true) : Ev (fun k => G k 0) b := by
  classical
  refine ev_run G (fun i => decide (∃ h : i < xs.length, ∃ h' : i < ys.length, xs[i] ≠ ys[i])) xs.length ?_ ?_ ?_
  · intro i hi hc hn
    have hc := of_decide_eq_false hc
    exact hstep i hi (hl ▸ hi) (Classical.not_not.1 fun hne => hc ⟨hi, hl ▸ hi, hne⟩) hn
  · intro i hi hc _
    obtain ⟨h1, h2, hne⟩ := of_decide_eq_true hc
    refine Ev.cast (hbad i h1 h2 hne) (bool_not hb fun e => hne ?_).symm
    subst e
    rfl
  · intro hc
    refine Ev.cast hend (bool_of hb ?_).symm
    refine List.ext_getElem hl fun i h1 h2 => ?_
    exact Classical.not_not.1 fun hne => of_decide_eq_false (hc i h1) ⟨h1, h2, hne⟩
/-- All elements are right, or one is not. -/
theorem ev_all {α : Type} (xs : List α) (p : α → Prop) (G : Nat → Nat → Option Bool) {b : Bool} (Q : Prop) (hb : b = true ↔ (∀ x ∈ xs, p x) ∧ Q)
    (hstep : ∀ i (hi : i < xs.length), p xs[i] → Ev (fun k => G k (i + 1)) b → Ev (fun k => G k i) b)
    (hbad : ∀ i (hi : i < xs.length), ¬ p xs[i] → Ev (fun k => G k i) false)
    (hend : (∀ x ∈ xs, p x) → (b = true ↔ Q) → Ev (fun k => G k xs.length) b) : Ev (fun k => G k 0) b := by
  classical
  refine ev_run G (fun i => decide (∃ h : i < xs.length, ¬ p xs[i])) xs.length ?_ ?_ ?_
  · intro i hi hc hn
    have hc := of_decide_eq_false hc
    exact hstep i hi (Classical.not_not.1 fun hne => hc ⟨hi, hne⟩) hn
  · intro i hi hc _
    obtain ⟨h1, hne⟩ := of_decide_eq_true hc
    exact Ev.cast (hbad i h1 hne) (bool_not hb fun e => hne (e.1 _ (List.getElem_mem h1))).symm
  · intro hc
    have hp : ∀ x ∈ xs, p x := by
      intro x hx
      obtain ⟨i, hi, rfl⟩ := List.getElem_of_mem hx
      exact Classical.not_not.1 fun hne => of_decide_eq_false (hc i hi) ⟨hi, hne⟩
    exact hend hp ⟨fun h => (hb.1 h).2, fun h => hb.2 ⟨hp, h⟩⟩
end Go.Proofs.Ytomkglmlhoaniaa.Pl
