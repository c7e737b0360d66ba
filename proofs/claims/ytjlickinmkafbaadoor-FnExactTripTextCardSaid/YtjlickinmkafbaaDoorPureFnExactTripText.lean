/- The pure statement of the law FnExactTripText: its function, told by the engine, gives true for every input. -/
import Derived.Test.YtjlickinmkafbaaDoorSFnExactTripText
namespace Go.Proofs.YtjlickinmkafbaaDoor.Fns
open Go.RowKit Go.WideShapes Go.Proofs.YtjlickinmkafbaaDoor.Eng
set_option linter.unusedVariables false
set_option linter.unusedSimpArgs false
/-- From some number of rounds on there is one answer, and C holds of it. -/
def Evx {α : Type} (g : Nat → Option α) (C : α → Prop) : Prop := ∃ r, Ev g r ∧ C r
section
variable {α β : Type}
theorem Evx.val {a : α} {C : α → Prop} (h : C a) : Evx (fun _ => some a) C := ⟨a, Ev.now a, h⟩
theorem Evx.of {g : Nat → Option α} {r : α} {C : α → Prop} (h : Ev g r) (hc : C r) : Evx g C := ⟨r, h, hc⟩
theorem Evx.bind {g : Nat → Option α} {f : Nat → α → Option β} {P : α → Prop} {C : β → Prop} (h : Evx g P) (k : ∀ a, P a → Evx (fun n => f n a) C) : Evx (fun n => (g n).bind (f n)) C := by
  obtain ⟨a, h1, h2⟩ := h
  obtain ⟨r, h3, h4⟩ := k a h2
  exact ⟨r, Ev.bind h1 h3, h4⟩
theorem Evx.bindv {g : Nat → Option α} {f : Nat → α → Option β} {a : α} {C : β → Prop} (h : Ev g a) (k : Evx (fun n => f n a) C) : Evx (fun n => (g n).bind (f n)) C := by
  obtain ⟨r, h3, h4⟩ := k
  exact ⟨r, Ev.bind h h3, h4⟩
theorem Evx.opt {g : Option α} {f : Nat → α → Option β} {a : α} {C : β → Prop} (h : g = some a) (k : Evx (fun n => f n a) C) : Evx (fun n => g.bind (f n)) C := by subst h; exact k
theorem Evx.step {g f : Nat → Option α} {C : α → Prop} (h : ∀ k, g (k + 1) = f k) (k : Evx f C) : Evx g C := by
  obtain ⟨r, h3, h4⟩ := k
  exact ⟨r, Ev.step h h3, h4⟩
theorem Evx.congr {g f : Nat → Option α} {C : α → Prop} (h : ∀ k, g k = f k) (k : Evx f C) : Evx g C := by
  obtain ⟨r, h3, h4⟩ := k
  exact ⟨r, Ev.congr h h3, h4⟩
theorem Evx.ite {c : Prop} [Decidable c] {g f : Nat → Option α} {C : α → Prop} (h : c → Evx g C) (h' : ¬ c → Evx f C) : Evx (fun k => if c then g k else f k) C := by
  by_cases hc : c
  · simp only [if_pos hc]; exact h hc
  · simp only [if_neg hc]; exact h' hc
theorem Evx.pos {c : Prop} [Decidable c] {g f : Nat → Option α} {C : α → Prop} (hc : c) (h : Evx g C) : Evx (fun k => if c then g k else f k) C := by simp only [if_pos hc]; exact h
theorem Evx.neg {c : Prop} [Decidable c] {g f : Nat → Option α} {C : α → Prop} (hc : ¬ c) (h : Evx f C) : Evx (fun k => if c then g k else f k) C := by simp only [if_neg hc]; exact h
theorem Evx.mono {g : Nat → Option α} {C D : α → Prop} (h : Evx g C) (hd : ∀ r, C r → D r) : Evx g D := by
  obtain ⟨r, h1, h2⟩ := h
  exact ⟨r, h1, hd r h2⟩
theorem Evx.ev {g : Nat → Option α} {r : α} (h : Evx g (fun x => x = r)) : Ev g r := by
  obtain ⟨a, h1, rfl⟩ := h
  exact h1
theorem Ev.uniq {g : Nat → Option α} {a b : α} (h : Ev g a) (h' : Ev g b) : a = b := by
  obtain ⟨K, hK⟩ := h
  obtain ⟨K', hK'⟩ := h'
  have e1 := hK (max K K') (by omega)
  have e2 := hK' (max K K') (by omega)
  rw [e1] at e2
  exact Option.some.inj e2
end
/-- A loop that counts up, with what holds of its state at each place. -/
theorem evx_loop {R σ : Type} (G : Nat → Nat → σ → Option R) (n : Nat) (Inv : Nat → σ → Prop) (C : R → Prop)
    (hstep : ∀ i s, i < n → Inv i s → (∀ s', Inv (i + 1) s' → Evx (fun k => G k (i + 1) s') C) → Evx (fun k => G k i s) C)
    (hend : ∀ s, Inv n s → Evx (fun k => G k n s) C) : ∀ s, Inv 0 s → Evx (fun k => G k 0 s) C := by
  have key : ∀ d i, i + d = n → ∀ s, Inv i s → Evx (fun k => G k i s) C := by
    intro d
    induction d with
    | zero => intro i hi s hs; obtain rfl : i = n := by omega
              exact hend s hs
    | succ d ih => intro i hi s hs; exact hstep i s (by omega) hs (fun s' hs' => ih (i + 1) (by omega) s' hs')
  exact fun s hs => key n 0 (by omega) s hs
-- counting, taking, placing
theorem at_getD {α : Type} [Inhabited α] (xs : List α) (i : Int) : at_ xs i = xs.getD i.toNat default := rfl
theorem at_int {α : Type} [Inhabited α] {xs : List α} {i : Int} (h0 : 0 ≤ i) (h1 : i < (xs.length : Int)) : at_ xs i = xs[i.toNat]'(by omega) := by
  have h : i.toNat < xs.length := by omega
  rw [at_getD, List.getD_eq_getElem?_getD, List.getElem?_eq_getElem h]
  rfl
theorem at_mem {α : Type} [Inhabited α] {xs : List α} {i : Int} (h0 : 0 ≤ i) (h1 : i < (xs.length : Int)) : at_ xs i ∈ xs := by
  rw [at_int h0 h1]; exact List.getElem_mem _
theorem all_at {α : Type} [Inhabited α] {xs : List α} {p : α → Prop} (h : ∀ y, y ∈ xs → p y) {i : Int} (h0 : 0 ≤ i) (h1 : i < (xs.length : Int)) : p (at_ xs i) := h _ (at_mem h0 h1)
theorem all_idx {α : Type} [Inhabited α] {xs : List α} {p : α → Prop} (h : ∀ i, i < xs.length → p (at_ xs (i : Int))) {i : Int} (h0 : 0 ≤ i) (h1 : i < (xs.length : Int)) : p (at_ xs i) := by
  have := h i.toNat (by omega)
  rwa [show ((i.toNat : Nat) : Int) = i by omega] at this
theorem all_iff {α : Type} [Inhabited α] {xs : List α} {p : α → Prop} : (∀ i, i < xs.length → p (at_ xs (i : Int))) ↔ ∀ y, y ∈ xs → p y := by
  refine ⟨fun h y hy => ?_, fun h i hi => h _ (at_mem (by omega) (by omega))⟩
  obtain ⟨i, hi, rfl⟩ := List.getElem_of_mem hy
  have := h i hi
  rwa [at_nat hi] at this
theorem take_succ' {α : Type} {xs : List α} {i : Nat} (h : i < xs.length) : xs.take (i + 1) = xs.take i ++ [xs[i]] := List.take_succ_eq_append_getElem h
theorem count_take {α : Type} (p : α → Bool) {xs : List α} {i : Nat} (h : i < xs.length) : (xs.take (i + 1)).countP p = (xs.take i).countP p + (if p xs[i] then 1 else 0) := by
  rw [take_succ' h, List.countP_append, List.countP_singleton]
theorem count_le {α : Type} (p : α → Bool) (xs : List α) : xs.countP p ≤ xs.length := List.countP_le_length
theorem set_take {α : Type} {xs : List α} {i j : Nat} (v : α) (h : j < xs.length) : (xs.set i v)[j]'(by rw [List.length_set]; exact h) = if i = j then v else xs[j] := by rw [List.getElem_set]
theorem at_set_ne {α : Type} [Inhabited α] {xs : List α} {i : Nat} {j : Int} {v : α} (h0 : 0 ≤ j) (h : (i : Int) ≠ j) : at_ (xs.set i v) j = at_ xs j := by
  rw [at_getD, at_getD, List.getD_eq_getElem?_getD, List.getD_eq_getElem?_getD, List.getElem?_set_ne (by omega)]
theorem at_set_eq {α : Type} [Inhabited α] {xs : List α} {i : Nat} {v : α} (h : i < xs.length) : at_ (xs.set i v) (i : Int) = v := by
  rw [at_getD, List.getD_eq_getElem?_getD, Int.toNat_natCast, List.getElem?_set_self h]; rfl
theorem at_app_left {α : Type} [Inhabited α] (a b : List α) {i : Int} (h0 : 0 ≤ i) (h : i < (a.length : Int)) : at_ (a ++ b) i = at_ a i := by
  rw [at_getD, at_getD, List.getD_eq_getElem?_getD, List.getD_eq_getElem?_getD, List.getElem?_append_left (by omega)]
theorem at_app_right {α : Type} [Inhabited α] (a b : List α) {i : Int} (h : (a.length : Int) ≤ i) : at_ (a ++ b) i = at_ b (i - a.length) := by
  rw [at_getD, at_getD, List.getD_eq_getElem?_getD, List.getD_eq_getElem?_getD, List.getElem?_append_right (by omega)]
  congr 2; omega
theorem at_app_last {α : Type} [Inhabited α] (a : List α) (v : α) : at_ (a ++ [v]) (a.length : Int) = v := by
  rw [at_app_right a [v] (by omega), Int.sub_self]; rfl
theorem at_take {α : Type} [Inhabited α] (xs : List α) {n : Nat} {i : Int} (h0 : 0 ≤ i) (h : i < n) : at_ (xs.take n) i = at_ xs i := by
  rw [at_getD, at_getD, List.getD_eq_getElem?_getD, List.getD_eq_getElem?_getD, List.getElem?_take_of_lt (by omega)]
theorem at_rep {α : Type} [Inhabited α] (n : Nat) (v : α) {i : Int} (h0 : 0 ≤ i) (h : i < n) : at_ (List.replicate n v) i = v := by
  rw [at_int h0 (by simpa using h)]; simp
theorem tmod_of {a : Int} (b : Int) (h : 0 ≤ a) : a.tmod b = a % b := Int.tmod_eq_emod_of_nonneg h
theorem tdiv_of {a : Int} (b : Int) (h : 0 ≤ a) : a.tdiv b = a / b := Int.tdiv_eq_ediv_of_nonneg h
theorem range_at {n : Nat} {f : Nat → Int} {i : Int} (h0 : 0 ≤ i) (h : i < n) : at_ ((List.range n).map f) i = f i.toNat := by
  rw [at_int h0 (by simpa using h)]; simp
theorem range_set {α : Type} (n : Nat) (f : Nat → α) (i : Nat) (v : α) : ((List.range n).map f).set i v = (List.range n).map (fun j => if j = i then v else f j) := by
  refine List.ext_getElem (by simp) fun j h1 h2 => ?_
  simp only [List.getElem_set, List.getElem_map, List.getElem_range]
  by_cases e : i = j
  · rw [if_pos e, if_pos e.symm]
  · rw [if_neg e, if_neg (fun g => e g.symm)]
theorem range_congr {α : Type} {n : Nat} {f g : Nat → α} (h : ∀ j, j < n → f j = g j) : (List.range n).map f = (List.range n).map g :=
  List.map_congr_left fun j hj => h j (List.mem_range.1 hj)
/-- A loop that counts up and stops where P does not hold. -/
theorem ev_scan {R : Type} (n : Nat) (P : Nat → Prop) (bad : R) (G : Nat → Nat → Option R) {r : R} (hr : (∃ i, i < n ∧ ¬ P i) → r = bad)
    (hstep : ∀ i, i < n → (∀ j, j < i → P j) → (P i → Ev (fun k => G k (i + 1)) r) → (¬ P i → r = bad) → Ev (fun k => G k i) r)
    (hend : (∀ i, i < n → P i) → Ev (fun k => G k n) r) : Ev (fun k => G k 0) r := by
  have key : ∀ d i, i + d = n → (∀ j, j < i → P j) → Ev (fun k => G k i) r := by
    intro d
    induction d with
    | zero => intro i hi hp; obtain rfl : i = n := by omega
              exact hend hp
    | succ d ih =>
      intro i hi hp
      refine hstep i (by omega) hp (fun h => ih (i + 1) (by omega) fun j hj => ?_) (fun h => hr ⟨i, by omega, h⟩)
      rcases Nat.lt_or_ge j i with g | g
      · exact hp j g
      · obtain rfl : j = i := by omega
        exact h
  exact key n 0 (by omega) (fun j hj => absurd hj (by omega))
theorem bool_eq {b : Bool} {P : Prop} (hb : b = true ↔ P) (h : P) : b = true := hb.2 h
theorem not_all {n : Nat} {P : Nat → Prop} (h : ¬ ∀ i, i < n → P i) : ∃ i, i < n ∧ ¬ P i := by
  classical
  exact Classical.byContradiction fun g => h fun i hi => Classical.byContradiction fun q => g ⟨i, hi, q⟩
theorem mem_take_iff {α : Type} [Inhabited α] {xs : List α} {n : Nat} {v : α} (h : n ≤ xs.length) : v ∈ xs.take n ↔ ∃ i, i < n ∧ at_ xs (i : Int) = v := by
  constructor
  · intro hv
    obtain ⟨i, hi, e⟩ := List.getElem_of_mem hv
    rw [List.length_take] at hi
    rw [List.getElem_take] at e
    exact ⟨i, by omega, by rw [at_nat (by omega)]; exact e⟩
  · rintro ⟨i, hi, e⟩
    rw [at_nat (by omega)] at e
    rw [← e]
    exact List.mem_take_iff_getElem.2 ⟨i, by omega, rfl⟩
theorem mem_at {α : Type} [Inhabited α] {xs : List α} {v : α} : v ∈ xs ↔ ∃ i, i < xs.length ∧ at_ xs (i : Int) = v := by
  have := mem_take_iff (xs := xs) (v := v) (Nat.le_refl _)
  rwa [List.take_length] at this
open Classical in
/-- The first place where P holds, or -1. -/
noncomputable def firstI (n : Nat) (P : Nat → Prop) : Int := if h : ∃ i, i < n ∧ P i then ((Classical.choose (least_of h) : Nat) : Int) else -1
theorem firstI_spec (n : Nat) (P : Nat → Prop) : (firstI n P = -1 ∧ ∀ i, i < n → ¬ P i) ∨ ∃ i, i < n ∧ P i ∧ (∀ j, j < i → ¬ P j) ∧ firstI n P = (i : Int) := by
  classical
  unfold firstI
  by_cases h : ∃ i, i < n ∧ P i
  · rw [dif_pos h]
    have hs := Classical.choose_spec (least_of h)
    exact .inr ⟨_, hs.1.1, hs.1.2, fun j hj hp => hs.2 j hj ⟨by have := hs.1.1; omega, hp⟩, rfl⟩
  · rw [dif_neg h]
    exact .inl ⟨rfl, fun i hi hp => h ⟨i, hi, hp⟩⟩
theorem firstI_lo (n : Nat) (P : Nat → Prop) : -1 ≤ firstI n P ∧ firstI n P < (n : Int) ∧ (0 ≤ firstI n P ↔ ∃ i, i < n ∧ P i) := by
  rcases firstI_spec n P with ⟨h, h2⟩ | ⟨i, h1, h2, _, h3⟩
  · rw [h]; exact ⟨by omega, by omega, fun g => by omega, fun ⟨i, hi, hp⟩ => absurd hp (h2 i hi)⟩
  · rw [h3]; exact ⟨by omega, by omega, fun _ => ⟨i, h1, h2⟩, fun _ => by omega⟩
theorem firstI_at {n : Nat} {P : Nat → Prop} (h : 0 ≤ firstI n P) : P (firstI n P).toNat := by
  rcases firstI_spec n P with ⟨h1, _⟩ | ⟨i, h1, h2, _, h3⟩
  · omega
  · rw [h3]; exact h2
theorem firstI_find {R : Type} (n : Nat) (P : Nat → Prop) (out : Int → R) : FindR n P (fun i => out (i : Int)) (out (-1)) (out (firstI n P)) := by
  rcases firstI_spec n P with ⟨h, h2⟩ | ⟨i, h1, h2, h4, h3⟩
  · exact .inl ⟨by rw [h], h2⟩
  · exact .inr ⟨i, h1, h2, h4, by rw [h3]⟩
theorem firstI_congr {n : Nat} {P Q : Nat → Prop} (h : ∀ i, i < n → (P i ↔ Q i)) : firstI n P = firstI n Q := by
  rcases firstI_spec n P with ⟨h1, h2⟩ | ⟨i, h1, h2, h4, h3⟩
  · rcases firstI_spec n Q with ⟨g1, g2⟩ | ⟨j, g1, g2, g4, g3⟩
    · rw [h1, g1]
    · exact absurd ((h j g1).2 g2) (h2 j g1)
  · rcases firstI_spec n Q with ⟨g1, g2⟩ | ⟨j, g1, g2, g4, g3⟩
    · exact absurd ((h i h1).1 h2) (g2 i h1)
    · rw [h3, g3]
      rcases Nat.lt_trichotomy i j with w | w | w
      · exact absurd ((h i h1).1 h2) (g4 i w)
      · rw [w]
      · exact absurd ((h j g1).2 g2) (h4 j w)
theorem firstI_eq {n : Nat} {P : Nat → Prop} {i : Nat} (h : i < n) (hp : P i) (hm : ∀ j, j < i → ¬ P j) : firstI n P = (i : Int) := by
  rcases firstI_spec n P with ⟨_, h2⟩ | ⟨j, h1, h2, h4, h3⟩
  · exact absurd hp (h2 i h)
  · rw [h3]
    rcases Nat.lt_trichotomy i j with w | w | w
    · exact absurd hp (h4 i w)
    · rw [w]
    · exact absurd h2 (hm j w)
theorem firstI_no {n : Nat} {P : Nat → Prop} (h : ∀ i, i < n → ¬ P i) : firstI n P = -1 := by
  rcases firstI_spec n P with ⟨h1, _⟩ | ⟨j, h1, h2, _, _⟩
  · exact h1
  · exact absurd h2 (h j h1)
/-- .. and what it gives hangs on where it stops. -/
theorem ev_scan2 {R : Type} (n : Nat) (P : Nat → Prop) (bad : Nat → R) (G : Nat → Nat → Option R) {r : R} (hr : ∀ i, i < n → ¬ P i → (∀ j, j < i → P j) → r = bad i)
    (hstep : ∀ i, i < n → (∀ j, j < i → P j) → (P i → Ev (fun k => G k (i + 1)) r) → (¬ P i → r = bad i) → Ev (fun k => G k i) r)
    (hend : (∀ i, i < n → P i) → Ev (fun k => G k n) r) : Ev (fun k => G k 0) r := by
  have key : ∀ d i, i + d = n → (∀ j, j < i → P j) → Ev (fun k => G k i) r := by
    intro d
    induction d with
    | zero => intro i hi hp; obtain rfl : i = n := by omega
              exact hend hp
    | succ d ih =>
      intro i hi hp
      refine hstep i (by omega) hp (fun h => ih (i + 1) (by omega) fun j hj => ?_) (fun h => hr i (by omega) h hp)
      rcases Nat.lt_or_ge j i with g | g
      · exact hp j g
      · obtain rfl : j = i := by omega
        exact h
  exact key n 0 (by omega) (fun j hj => absurd hj (by omega))
theorem eq_impl_between (a b c : Int) : impl_between.f a b c = some (decide (b ≤ a ∧ a ≤ c)) := by
  unfold impl_between.f
  by_cases h : a ≥ b
  · rw [if_pos h]; simp [show b ≤ a from h]
  · rw [if_neg h]; simp [show ¬ b ≤ a from h]
theorem eq_spec_l01In (a b c : Int) : spec_l01In.f a b c = some (decide (b ≤ a ∧ a ≤ c)) := by
  unfold spec_l01In.f
  by_cases h : b ≤ a
  · rw [if_pos h]; simp [h]
  · rw [if_neg h]; simp [h]
theorem sz_CallS (x : (List S48)) (left : Int) (h0 : 0 ≤ left) (h1 : left ≤ 1048576) (ho : (x.length ≤ maxLen ∧ ∀ y ∈ x, ok48 y)) : Evx (fun k => laws_szCallS.f x left) (fun r => r < 0 ∨ (0 ≤ r ∧ r ≤ left ∧ (x.length ≤ 1048576))) := by
  have hm : maxLen = 9223372036854775807 := rfl
  unfold laws_szCallS.f
  obtain ⟨hl, hy⟩ := ho
  rw [wrap_id (by omega) (by omega)]
  refine Evx.ite (fun h => Evx.val (.inl (by decide))) (fun h => ?_)
  exact Evx.val (.inr ⟨by omega, by omega, by omega⟩)
theorem sz_Trip (x : S23) (left : Int) (h0 : 0 ≤ left) (h1 : left ≤ 1048576) (ho : ok23 x) : Evx (fun k => laws_szTrip.f x left) (fun r => r < 0 ∨ (0 ≤ r ∧ r ≤ left ∧ (x.f0.size ≤ 1048576 ∧ (x.f1.length ≤ 1048576)))) := by
  have hm : maxLen = 9223372036854775807 := rfl
  unfold laws_szTrip.f
  unfold ok23 at ho
  obtain ⟨o0, o1⟩ := ho
  rw [wrap_id (x := left - (x.f0.size : Int)) (by omega) (by omega)]
  refine Evx.ite (fun h => Evx.val (.inl (by decide))) (fun h0_ => ?_)
  refine Evx.bind (sz_CallS x.f1 (left - (x.f0.size : Int)) (by omega) (by omega) o1) (fun r1 hr1 => ?_)
  refine Evx.ite (fun h => Evx.val (.inl (by decide))) (fun h1_ => ?_)
  obtain ⟨p1, q1, b1⟩ := hr1.resolve_left h1_
  exact Evx.val (.inr ⟨by omega, by omega, (by omega), b1⟩)
theorem to_Call (x : S48) (hb : True) : Ev (fun k => laws_toCall.f x) x := by
  unfold laws_toCall.f
  exact ev_val rfl
theorem to_CallS (x : (List S48)) (hb : (x.length ≤ 1048576)) : Ev (fun k => laws_toCallS.f k x) x := by
  unfold laws_toCallS.f
  have hl := hb
  refine Ev.pos (by omega) (Ev.pos (by omega) ?_)
  rw [Int.toNat_natCast]
  refine ev_fill x id _ (fun k s i => laws_toCallS.l0 k x s (i : Int)) ?_ ?_
  · intro i hi s hs hn
    refine Ev.step (fun k => by simp only [laws_toCallS.l0]; rfl) ?_
    refine Ev.pos (by omega) (Ev.pos (by omega) ?_)
    rw [at_nat hi]
    refine Ev.bind (to_Call x[i] trivial) ?_
    refine Ev.pos (by omega) ?_
    rw [Int.toNat_natCast, wrap_succ hi (by omega)]
    exact hn
  · refine Ev.step (fun k => by simp only [laws_toCallS.l0]; rfl) ?_
    refine Ev.neg (by omega) (ev_val (List.map_id x))
abbrev cv23_28 (x : S23) : S28 := ⟨x.f0, x.f1⟩
theorem bd_cv23_28 (x : S23) (h : (x.f0.size ≤ 1048576 ∧ (x.f1.length ≤ 1048576))) : ((cv23_28 x).f0.size ≤ 1048576 ∧ ((cv23_28 x).f1.length ≤ 1048576)) := ⟨h.1, h.2⟩
theorem to_Trip (x : S23) (hb : (x.f0.size ≤ 1048576 ∧ (x.f1.length ≤ 1048576))) : Ev (fun k => laws_toTrip.f k x) (cv23_28 x) := by
  unfold laws_toTrip.f
  refine Ev.bind (to_CallS x.f1 hb.2) ?_
  exact ev_val rfl
theorem eq_Call (x : S48) (hb : True) : Ev (fun k => laws_eqCall.f x x) true := by
  unfold laws_eqCall.f
  refine Ev.pos rfl ?_
  refine Ev.pos rfl ?_
  refine Ev.pos rfl ?_
  exact ev_val rfl
theorem eq_CallS (x : (List S48)) (hb : (x.length ≤ 1048576)) : Ev (fun k => laws_eqCallS.f k x x) true := by
  unfold laws_eqCallS.f
  have hl := hb
  refine Ev.pos rfl ?_
  refine ev_fold (fun k i => laws_eqCallS.l0 k x x (i : Int)) x.length ?_ ?_
  · intro i hi hn
    refine Ev.step (fun k => by simp only [laws_eqCallS.l0]; rfl) ?_
    refine Ev.pos (by omega) (Ev.pos (by omega) ?_)
    try refine Ev.pos (by omega) ?_
    rw [at_nat hi]
    refine Ev.bind (eq_Call x[i] trivial) ?_
    refine Ev.pos (by first | rfl | simp) ?_
    rw [wrap_succ hi (by omega)]
    exact hn
  · refine Ev.step (fun k => by simp only [laws_eqCallS.l0]; rfl) ?_
    exact Ev.neg (by omega) (ev_val rfl)
theorem eq_Trip (x : S28) (hb : (x.f0.size ≤ 1048576 ∧ (x.f1.length ≤ 1048576))) : Ev (fun k => laws_eqTrip.f k x x) true := by
  unfold laws_eqTrip.f
  refine Ev.pos (by simp [sEq]) ?_
  refine Ev.bind (eq_CallS x.f1 hb.2) ?_
  refine Ev.pos rfl ?_
  exact ev_val rfl
def ChP (b : Int) : Prop := (97 ≤ b ∧ b ≤ 122) ∨ (48 ≤ b ∧ b ≤ 57)
def NameP (s : ByteArray) : Prop := (1 ≤ s.size ∧ s.size ≤ 12) ∧ ∀ i, i < s.size → ChP (bt s (i : Int))
def CallP (cs : List S48) (i : Nat) : Prop := (0 ≤ (at_ cs (i : Int)).f0 ∧ (at_ cs (i : Int)).f0 ≤ 29) ∧ (0 ≤ (at_ cs (i : Int)).f1 ∧ (at_ cs (i : Int)).f1 ≤ (at_ cs (i : Int)).f2) ∧ (at_ cs (i : Int)).f2 ≤ 100000 ∧ (0 < i → (at_ cs ((i : Int) - 1)).f2 < (at_ cs (i : Int)).f1 ∧ (at_ cs ((i : Int) - 1)).f0 ≠ (at_ cs (i : Int)).f0)
def TripP (t : S28) : Prop := NameP t.f0 ∧ (2 ≤ t.f1.length ∧ t.f1.length ≤ 12) ∧ ∀ i, i < t.f1.length → CallP t.f1 i
def TripB (t : S28) : Prop := t.f0.size ≤ 1048576 ∧ t.f1.length ≤ 1048576
theorem eq_impl_isMinute (a : Int) : impl_isMinute.f a = some (decide (0 ≤ a ∧ a ≤ 100000)) := by
  unfold impl_isMinute.f
  rw [eq_impl_between]
  rfl
theorem ev_spec_l01Name (s : ByteArray) (hs : s.size ≤ 1048576) (b : Bool) (hb : b = true ↔ NameP s) : Ev (fun k => spec_l01Name.f k s) b := by
  unfold spec_l01Name.f
  refine ev_scan s.size (fun i => ChP (bt s (i : Int))) false (fun k i => spec_l01Name.l0 k s (i : Int)) (fun ⟨i, hi, h⟩ => bool_not hb fun g => h (g.2 i hi)) ?_ ?_
  · intro i hi _ hn hx
    refine Ev.step (fun k => by simp only [spec_l01Name.l0]; rfl) ?_
    rw [wrap_succ hi (by omega)]
    unfold ChP at hn hx
    have no : ¬ (97 ≤ bt s (i : Int) ∧ bt s (i : Int) ≤ 122 ∨ 48 ≤ bt s (i : Int) ∧ bt s (i : Int) ≤ 57) → Ev (fun _ => some false) b := fun h => ev_val (hx h).symm
    refine Ev.pos (by omega) (Ev.pos (by omega) (Ev.ite (fun h1 => Ev.ite (fun h2 => hn (.inl ⟨h1, h2⟩)) (fun h2 => Ev.ite (fun h3 => Ev.ite (fun h4 => hn (.inr ⟨h3, h4⟩)) (fun h4 => no (by omega))) (fun h3 => no (by omega)))) (fun h1 => Ev.ite (fun h3 => Ev.ite (fun h4 => hn (.inr ⟨h3, h4⟩)) (fun h4 => no (by omega))) (fun h3 => no (by omega)))))
  · intro hp
    refine Ev.step (fun k => by simp only [spec_l01Name.l0]; rfl) ?_
    refine Ev.neg (by omega) (Ev.opt (eq_spec_l01In _ _ _) (ev_val ?_))
    rw [Bool.eq_iff_iff, decide_eq_true_iff, hb]
    exact ⟨fun g => ⟨by omega, hp⟩, fun g => by have := g.1; omega⟩
theorem ev_impl_nameOk (s : ByteArray) (hs : s.size ≤ 1048576) (b : Bool) (hb : b = true ↔ NameP s) : Ev (fun k => impl_nameOk.f k s) b := by
  unfold impl_nameOk.f
  have bad : ¬ NameP s → b = false := bool_not hb
  refine Ev.ite (fun h => ev_val (bad fun g => by have := g.1; omega).symm) (fun g1 => Ev.ite (fun h => ev_val (bad fun g => by have := g.1; omega).symm) (fun g2 => ?_))
  refine ev_scan s.size (fun i => ChP (bt s (i : Int))) false (fun k i => impl_nameOk.l0 k s (i : Int)) (fun ⟨i, hi, h⟩ => bool_not hb fun g => h (g.2 i hi)) ?_ ?_
  · intro i hi _ hn hx
    refine Ev.step (fun k => by simp only [impl_nameOk.l0]; rfl) ?_
    rw [wrap_succ hi (by omega)]
    unfold ChP at hn hx
    have no : ¬ (97 ≤ bt s (i : Int) ∧ bt s (i : Int) ≤ 122 ∨ 48 ≤ bt s (i : Int) ∧ bt s (i : Int) ≤ 57) → Ev (fun _ => some false) b := fun h => ev_val (hx h).symm
    refine Ev.pos (by omega) (Ev.pos (by omega) (Ev.ite (fun h1 => ?_) (fun h1 => ?_)))
    · exact Ev.ite (fun h => no (by omega)) (fun h3 => Ev.ite (fun h => no (by omega)) (fun h4 => hn (.inr (by omega))))
    · exact Ev.ite (fun h2 => Ev.ite (fun h => no (by omega)) (fun h3 => Ev.ite (fun h => no (by omega)) (fun h4 => hn (.inr (by omega))))) (fun h2 => hn (.inl (by omega)))
  · intro hp
    refine Ev.step (fun k => by simp only [impl_nameOk.l0]; rfl) ?_
    exact Ev.neg (by omega) (ev_val (hb.2 ⟨by omega, hp⟩).symm)
theorem ev_spec_TripOk (t : S28) (hs : t.f0.size ≤ 1048576) (hl : t.f1.length ≤ 1048576) (b : Bool) (hb : b = true ↔ TripP t) : Ev (fun k => spec_TripOk.f k t) b := by
  classical
  unfold spec_TripOk.f
  have bad : ¬ TripP t → b = false := bool_not hb
  refine Ev.bind (ev_spec_l01Name t.f0 hs (decide (NameP t.f0)) decide_eq_true_iff) (Ev.ite (fun g1 => ?_) (fun h => ev_val (bad fun g => h (decide_eq_true g.1)).symm))
  refine Ev.opt (eq_spec_l01In _ _ _) (Ev.ite (fun g2 => ?_) (fun h => ev_val (bad fun g => h (decide_eq_true (by have := g.2.1; omega))).symm))
  have g2 := of_decide_eq_true g2
  refine ev_scan t.f1.length (CallP t.f1) false (fun k i => spec_TripOk.l0 k t (i : Int)) (fun ⟨i, hi, h⟩ => bad fun g => h (g.2.2 i hi)) ?_ ?_
  · intro i hi _ hn hx
    refine Ev.step (fun k => by simp only [spec_TripOk.l0]; rfl) ?_
    rw [wrap_succ hi (by omega), wrap_id (x := (i : Int) - 1) (by omega) (by omega)]
    unfold CallP at hn hx
    refine Ev.pos (by omega) (Ev.pos (by omega) (Ev.opt (eq_spec_l01In _ _ _) (Ev.ite (fun q1 => ?_) (fun h => ev_val (hx fun g => h (decide_eq_true g.1)).symm))))
    have q1 := of_decide_eq_true q1
    refine Ev.opt (eq_spec_l01In _ _ _) (Ev.ite (fun q2 => ?_) (fun h => ev_val (hx fun g => h (decide_eq_true (by omega))).symm))
    have q2 := of_decide_eq_true q2
    refine Ev.opt (eq_spec_l01In _ _ _) (Ev.ite (fun q3 => ?_) (fun h => ev_val (hx fun g => h (decide_eq_true (by omega))).symm))
    have q3 := of_decide_eq_true q3
    refine Ev.ite (fun h0 => ?_) (fun h0 => hn ⟨q1, q3, by omega, fun g => by omega⟩)
    refine Ev.pos (by omega) (Ev.pos (by omega) (Ev.ite (fun h => ev_val (hx fun g => by have := g.2.2.2 (by omega); omega).symm) (fun h1 => Ev.ite (fun h => ev_val (hx fun g => (g.2.2.2 (by omega)).2 h).symm) (fun h2 => hn ⟨q1, q3, by omega, fun _ => ⟨by omega, h2⟩⟩))))
  · intro hp
    refine Ev.step (fun k => by simp only [spec_TripOk.l0]; rfl) ?_
    exact Ev.neg (by omega) (ev_val (hb.2 ⟨of_decide_eq_true g1, by omega, hp⟩).symm)
theorem ev_impl_TripOk (t : S28) (hs : t.f0.size ≤ 1048576) (hl : t.f1.length ≤ 1048576) (b : Bool) (hb : b = true ↔ TripP t) : Ev (fun k => impl_TripOk.f k t) b := by
  classical
  unfold impl_TripOk.f
  have bad : ¬ TripP t → b = false := bool_not hb
  refine Ev.bind (ev_impl_nameOk t.f0 hs (decide (NameP t.f0)) decide_eq_true_iff) (Ev.ite (fun g1 => ?_) (fun h => ev_val (bad fun g => h (decide_eq_true g.1)).symm))
  refine Ev.opt (eq_impl_between _ _ _) (Ev.ite (fun g2 => ?_) (fun h => ev_val (bad fun g => h (decide_eq_true (by have := g.2.1; omega))).symm))
  have g2 := of_decide_eq_true g2
  refine ev_scan t.f1.length (CallP t.f1) false (fun k i => impl_TripOk.l0 k t (i : Int)) (fun ⟨i, hi, h⟩ => bad fun g => h (g.2.2 i hi)) ?_ ?_
  · intro i hi _ hn hx
    refine Ev.step (fun k => by simp only [impl_TripOk.l0]; rfl) ?_
    rw [wrap_succ hi (by omega), wrap_id (x := (i : Int) - 1) (by omega) (by omega)]
    unfold CallP at hn hx
    refine Ev.pos (by omega) (Ev.pos (by omega) (Ev.opt (eq_impl_between _ _ _) (Ev.ite (fun q1 => ?_) (fun h => ev_val (hx fun g => h (decide_eq_true g.1)).symm))))
    have q1 := of_decide_eq_true q1
    refine Ev.opt (eq_impl_isMinute _) (Ev.ite (fun q2 => ?_) (fun h => ev_val (hx fun g => h (decide_eq_true (by omega))).symm))
    have q2 := of_decide_eq_true q2
    refine Ev.opt (eq_impl_isMinute _) (Ev.ite (fun q3 => ?_) (fun h => ev_val (hx fun g => h (decide_eq_true (by omega))).symm))
    have q3 := of_decide_eq_true q3
    refine Ev.ite (fun h => ev_val (hx fun g => by omega).symm) (fun h4 => Ev.ite (fun h0 => ?_) (fun h0 => hn ⟨q1, by omega, by omega, fun g => by omega⟩))
    refine Ev.pos (by omega) (Ev.pos (by omega) (Ev.ite (fun h => ev_val (hx fun g => by have := g.2.2.2 (by omega); omega).symm) (fun h1 => Ev.ite (fun h => ev_val (hx fun g => (g.2.2.2 (by omega)).2 h.symm).symm) (fun h2 => hn ⟨q1, by omega, by omega, fun _ => ⟨by omega, fun g => h2 g.symm⟩⟩))))
  · intro hp
    refine Ev.step (fun k => by simp only [impl_TripOk.l0]; rfl) ?_
    exact Ev.neg (by omega) (ev_val (hb.2 ⟨of_decide_eq_true g1, by omega, hp⟩).symm)
theorem call_bd {t : S28} (h : TripP t) {i : Int} (h0 : 0 ≤ i) (h1 : i < (t.f1.length : Int)) : (0 ≤ (at_ t.f1 i).f0 ∧ (at_ t.f1 i).f0 ≤ 29) ∧ (0 ≤ (at_ t.f1 i).f1 ∧ (at_ t.f1 i).f1 ≤ (at_ t.f1 i).f2) ∧ (at_ t.f1 i).f2 ≤ 100000 := by
  have h2 := h.2.2 i.toNat (by omega)
  unfold CallP at h2
  rw [show ((i.toNat : Nat) : Int) = i by omega] at h2
  exact ⟨h2.1, h2.2.1, h2.2.2.1⟩
-- strings as lists of bytes
def byt (s : ByteArray) : List UInt8 := s.data.toList
theorem byt_len (s : ByteArray) : (byt s).length = s.size := by unfold byt ByteArray.size; exact Array.length_toList
theorem byt_mk (l : List UInt8) : byt ⟨l.toArray⟩ = l := by simp [byt]
theorem byt_app (a b : ByteArray) : byt (a ++ b) = byt a ++ byt b := by simp [byt, ByteArray.data_append]
theorem byt_ext {a b : ByteArray} (h : byt a = byt b) : a = b := by
  cases a with | mk x => cases b with | mk y => 
  congr 1
  exact Array.toList_inj.1 h
theorem mk_byt (s : ByteArray) : (⟨(byt s).toArray⟩ : ByteArray) = s := byt_ext (byt_mk _)
theorem bt_eq (s : ByteArray) {i : Nat} (h : i < (byt s).length) : bt s (i : Int) = ((byt s)[i].toNat : Int) := by
  have h2 : i < s.size := by rw [← byt_len]; exact h
  unfold bt
  rw [dif_pos (by rw [Int.toNat_natCast]; exact h2)]
  rfl
def ChU (b : UInt8) : Prop := (97 ≤ b.toNat ∧ b.toNat ≤ 122) ∨ (48 ≤ b.toNat ∧ b.toNat ≤ 57)
theorem name_iff (s : ByteArray) : NameP s ↔ (1 ≤ (byt s).length ∧ (byt s).length ≤ 12) ∧ ∀ b, b ∈ byt s → ChU b := by
  unfold NameP
  rw [byt_len]
  refine and_congr Iff.rfl ⟨fun h b hb => ?_, fun h i hi => ?_⟩
  · obtain ⟨i, hi, rfl⟩ := List.getElem_of_mem hb
    have := h i (by rw [← byt_len]; exact hi)
    rw [bt_eq s hi] at this
    unfold ChP at this
    unfold ChU
    omega
  · have hi2 : i < (byt s).length := by rw [byt_len]; exact hi
    have := h _ (List.getElem_mem hi2)
    rw [bt_eq s hi2]
    unfold ChU at this
    unfold ChP
    omega
/-- The decimal digits. -/
def dec (n : Nat) : List UInt8 := if h : n < 10 then [UInt8.ofNat (48 + n)] else dec (n / 10) ++ [UInt8.ofNat (48 + n % 10)]
termination_by n
theorem dec_lt {n : Nat} (h : n < 10) : dec n = [UInt8.ofNat (48 + n)] := by rw [dec, dif_pos h]
theorem dec_ge {n : Nat} (h : ¬ n < 10) : dec n = dec (n / 10) ++ [UInt8.ofNat (48 + n % 10)] := by rw [dec, dif_neg h]
def decZ (n : Nat) : List UInt8 := if n = 0 then [] else dec n
theorem decZ_step {n : Nat} (h : n ≠ 0) : decZ n = decZ (n / 10) ++ [UInt8.ofNat (48 + n % 10)] := by
  unfold decZ
  rw [if_neg h]
  by_cases g : n < 10
  · rw [dec_lt g, if_pos (by omega), Nat.mod_eq_of_lt g]; rfl
  · rw [dec_ge g, if_neg (by omega)]
theorem dig_nat {d : Nat} (h : d < 10) : (UInt8.ofNat (48 + d)).toNat = 48 + d := by
  rw [UInt8.toNat_ofNat']
  omega
theorem dec_dig (n : Nat) : ∀ b, b ∈ dec n → 48 ≤ b.toNat ∧ b.toNat ≤ 57 := by
  induction n using Nat.strongRecOn with
  | ind n ih =>
    intro b hb
    by_cases g : n < 10
    · rw [dec_lt g, List.mem_singleton] at hb
      rw [hb, dig_nat g]; omega
    · rw [dec_ge g, List.mem_append, List.mem_singleton] at hb
      rcases hb with hb | hb
      · exact ih (n / 10) (by omega) b hb
      · rw [hb, dig_nat (by omega)]; omega
theorem dec_len_le : ∀ (k n : Nat), n < 10 ^ (k + 1) → (dec n).length ≤ k + 1 := by
  intro k
  induction k with
  | zero => intro n h; rw [dec_lt (by simpa using h)]; simp
  | succ k ih =>
    intro n h
    by_cases g : n < 10
    · rw [dec_lt g]; simp
    · rw [dec_ge g, List.length_append, List.length_singleton]
      have := ih (n / 10) (by rw [Nat.pow_succ] at h; omega)
      omega
theorem dec_len_pos (n : Nat) : 1 ≤ (dec n).length := by
  by_cases g : n < 10
  · rw [dec_lt g]; simp
  · rw [dec_ge g]; simp
theorem ofs_u8 {d : Int} (h0 : 0 ≤ d) (h1 : d < 10) : UInt8.ofNat (IntKind.u8.wrap (wrap64 (48 + d))).toNat = UInt8.ofNat (48 + d.toNat) := by
  rw [wrap_id (by omega) (by omega)]
  have e : IntKind.u8.wrap (48 + d) = 48 + d := by
    have h2 : d = 0 ∨ d = 1 ∨ d = 2 ∨ d = 3 ∨ d = 4 ∨ d = 5 ∨ d = 6 ∨ d = 7 ∨ d = 8 ∨ d = 9 := by omega
    rcases h2 with rfl | rfl | rfl | rfl | rfl | rfl | rfl | rfl | rfl | rfl <;> decide
  rw [e]
  congr 1
  omega
theorem ev_spec_l01Num (n : Nat) (hn : n < 10 ^ 15) : Ev (fun k => spec_l01Num.f k (n : Int)) ⟨(dec n).toArray⟩ := by
  unfold spec_l01Num.f
  refine Ev.ite (fun h => ev_val ?_) (fun h0 => ?_)
  · obtain rfl : n = 0 := by omega
    rw [dec_lt (by omega)]; rfl
  have key : ∀ j m : Nat, m < 10 ^ j → m < 10 ^ 15 → ∀ s : ByteArray, s.size + j ≤ 1000 → Ev (fun k => spec_l01Num.l0 k (n : Int) (m : Int) s) ⟨(decZ m ++ byt s).toArray⟩ := by
    intro j
    induction j with
    | zero =>
      intro m hm _ s hs
      obtain rfl : m = 0 := by simpa using hm
      refine Ev.step (fun k => by simp only [spec_l01Num.l0]; rfl) ?_
      refine Ev.pos rfl (Ev.neg (by omega) (ev_val (byt_ext ?_)))
      rw [byt_mk]; rfl
    | succ j ih =>
      intro m hm hm2 s hs
      refine Ev.step (fun k => by simp only [spec_l01Num.l0]; rfl) ?_
      refine Ev.ite (fun g => ?_) (fun g => ?_)
      · obtain rfl : m = 0 := by omega
        refine Ev.neg (by omega) (ev_val (byt_ext ?_))
        rw [byt_mk]; rfl
      · have hmod : ((m : Int).tmod 10) = ((m % 10 : Nat) : Int) := by rw [tmod_of 10 (by omega)]; omega
        have hdiv : wrap64 ((m : Int).tdiv 10) = ((m / 10 : Nat) : Int) := by rw [tdiv_of 10 (by omega), wrap_id (by omega) (by omega)]; omega
        rw [hmod, hdiv]
        refine Ev.neg (by omega) ?_
        rw [ofs_u8 (by omega) (by omega), Int.toNat_natCast]
        refine Ev.pos (by show 1 + s.size ≤ _; omega) ?_
        have e : (decZ m ++ byt s) = decZ (m / 10) ++ byt ((⟨#[UInt8.ofNat (48 + m % 10)]⟩ : ByteArray) ++ s) := by
          rw [byt_app, decZ_step (by omega), List.append_assoc]; rfl
        rw [e]
        refine ih (m / 10) (by rw [Nat.pow_succ] at hm; omega) (by omega) _ ?_
        rw [ByteArray.size_append]
        show 1 + s.size + j ≤ _
        omega
  have := key 15 n hn hn ⟨#[]⟩ (by decide)
  have e : decZ n ++ byt ⟨#[]⟩ = dec n := by unfold decZ; rw [if_neg (by omega)]; simp [byt]
  rw [e] at this
  exact this
-- times and trips as texts
def bs (l : List UInt8) : ByteArray := ⟨l.toArray⟩
theorem bs_app (a b : List UInt8) : bs a ++ bs b = bs (a ++ b) := byt_ext (by unfold bs; rw [byt_app, byt_mk, byt_mk, byt_mk])
theorem bs_size (a : List UInt8) : (bs a).size = a.length := by rw [← byt_len]; unfold bs; rw [byt_mk]
theorem bs_byt (s : ByteArray) : bs (byt s) = s := mk_byt s
/-- Two digits at least. -/
def two (n : Nat) : List UInt8 := if n < 10 then 48 :: dec n else dec n
def timeL (m : Nat) : List UInt8 := two (m / 60) ++ 58 :: two (m % 60)
def callL (c : S48) : List UInt8 := 32 :: dec c.f0.toNat ++ 64 :: timeL c.f1.toNat ++ 45 :: timeL c.f2.toNat
def callsL (cs : List S48) : List UInt8 := cs.flatMap callL
theorem decDigits_eq (n : Nat) : Go.Lib.decDigits n = dec n := by
  induction n using Nat.strongRecOn with
  | ind n ih =>
    rw [Go.Lib.decDigits]
    by_cases g : n < 10
    · rw [dif_pos g, dec_lt g]
    · rw [dif_neg g, dec_ge g, ih (n / 10) (by omega)]
theorem itoa_nat (n : Nat) : Go.Lib.itoa (n : Int) = dec n := by
  unfold Go.Lib.itoa
  rw [if_neg (by omega), Int.toNat_natCast, decDigits_eq]
theorem ev_Itoa (n : Nat) (h : n < 1000000) : strconv_Itoa.f (n : Int) = some (bs (dec n)) := by
  unfold strconv_Itoa.f
  rw [if_pos (by omega), if_pos (by omega), itoa_nat]
  rfl
theorem dec_len2 (n : Nat) : (dec n).length < 2 ↔ n < 10 := by
  by_cases g : n < 10
  · rw [dec_lt g]; simp [g]
  · rw [dec_ge g, List.length_append, List.length_singleton]
    have := dec_len_pos (n / 10)
    omega
theorem dec_len7 {n : Nat} (h : n < 1000000) : (dec n).length ≤ 6 := dec_len_le 5 n (by omega)
theorem two_len {n : Nat} (h : n < 1000000) : (two n).length ≤ 7 := by
  unfold two
  have := dec_len7 h
  split
  · simp only [List.length_cons]; omega
  · omega
theorem timeL_len {m : Nat} (h : m ≤ 100000) : (timeL m).length ≤ 15 := by
  unfold timeL
  rw [List.length_append, List.length_cons]
  have h1 := two_len (n := m / 60) (by omega)
  have h2 := two_len (n := m % 60) (by omega)
  omega
theorem eq_twoDigits (n : Nat) (h : n < 1000000) : impl_twoDigits.f (n : Int) = some (bs (two n)) := by
  unfold impl_twoDigits.f two
  rw [ev_Itoa n h]
  have h7 := dec_len7 h
  by_cases g : n < 10
  · rw [if_pos (by omega), if_pos g, Option.bind_some, if_pos (by rw [bs_size]; show 1 + _ ≤ _; omega)]
    exact congrArg some (bs_app [48] (dec n))
  · rw [if_neg (by omega), if_neg g, Option.bind_some]
theorem eq_impl_TimeText (m : Nat) (h : m ≤ 100000) : impl_TimeText.f (m : Int) = some (bs (timeL m)) := by
  unfold impl_TimeText.f timeL
  have l1 := two_len (n := m / 60) (by omega)
  have l2 := two_len (n := m % 60) (by omega)
  rw [eq_impl_isMinute, Option.bind_some, if_pos (decide_eq_true (by omega)), tdiv_of 60 (by omega), tmod_of 60 (by omega), wrap_id (by omega) (by omega), show (m : Int) / 60 = ((m / 60 : Nat) : Int) by omega, show (m : Int) % 60 = ((m % 60 : Nat) : Int) by omega, eq_twoDigits _ (by omega), eq_twoDigits _ (by omega), Option.bind_some, Option.bind_some]
  have e1 : bs (two (m / 60)) ++ (⟨#[58]⟩ : ByteArray) = bs (two (m / 60) ++ [58]) := bs_app _ [58]
  rw [e1, bs_size, bs_size, bs_size, if_pos (by show _ + 1 ≤ _; omega), if_pos (by rw [List.length_append]; show _ + 1 + _ ≤ _; omega), bs_app, List.append_assoc]
  rfl
theorem ev_spec_TimeText (m : Nat) (h : m ≤ 100000) : Ev (fun k => spec_TimeText.f k (m : Int)) (bs (timeL m)) := by
  have l1 := dec_len7 (n := m / 60) (by omega)
  have l2 := dec_len7 (n := m % 60) (by omega)
  have c1 := dec_len2 (m / 60)
  have c2 := dec_len2 (m % 60)
  unfold spec_TimeText.f
  refine Ev.opt (eq_spec_l01In _ _ _) (Ev.pos (decide_eq_true (by omega)) ?_)
  rw [tdiv_of 60 (by omega), tmod_of 60 (by omega), wrap_id (by omega) (by omega), show (m : Int) / 60 = ((m / 60 : Nat) : Int) by omega, show (m : Int) % 60 = ((m % 60 : Nat) : Int) by omega]
  refine Ev.bind (ev_spec_l01Num (m / 60) (by omega)) (Ev.bind (ev_spec_l01Num (m % 60) (by omega)) ?_)
  have e : ∀ l : List UInt8, (⟨l.toArray⟩ : ByteArray) = bs l := fun _ => rfl
  have e48 : (⟨#[48]⟩ : ByteArray) = bs [48] := rfl
  have e58 : (⟨#[58]⟩ : ByteArray) = bs [58] := rfl
  simp only [e, e48, e58, bs_app, bs_size, List.length_append, List.length_cons, List.length_nil]
  unfold timeL two
  by_cases g1 : m / 60 < 10
  · refine Ev.pos (by omega) (Ev.pos (by omega) ?_)
    by_cases g2 : m % 60 < 10
    · refine Ev.pos (by omega) (Ev.pos (by omega) (Ev.pos (by omega) (Ev.pos (by omega) (ev_val ?_))))
      rw [if_pos g1, if_pos g2]; simp
    · refine Ev.neg (by omega) (Ev.pos (by omega) (Ev.pos (by omega) (ev_val ?_)))
      rw [if_pos g1, if_neg g2]; simp
  · refine Ev.neg (by omega) ?_
    by_cases g2 : m % 60 < 10
    · refine Ev.pos (by omega) (Ev.pos (by omega) (Ev.pos (by omega) (Ev.pos (by omega) (ev_val ?_))))
      rw [if_neg g1, if_pos g2]; simp
    · refine Ev.neg (by omega) (Ev.pos (by omega) (Ev.pos (by omega) (ev_val ?_)))
      rw [if_neg g1, if_neg g2]; simp
theorem callL_len {c : S48} (h : c.f0.toNat < 1000000) (h1 : c.f1.toNat ≤ 100000) (h2 : c.f2.toNat ≤ 100000) : (callL c).length ≤ 39 := by
  unfold callL
  have a := dec_len7 h
  have b := timeL_len h1
  have d := timeL_len h2
  simp only [List.length_append, List.length_cons]
  omega
def tripL (t : S28) : List UInt8 := byt t.f0 ++ callsL t.f1
theorem callsL_succ (cs : List S48) {i : Nat} (h : i < cs.length) : callsL (cs.take (i + 1)) = callsL (cs.take i) ++ callL (at_ cs (i : Int)) := by
  unfold callsL
  rw [take_succ' h, List.flatMap_append, at_nat h]
  simp
theorem callsL_len {t : S28} (ht : TripP t) : ∀ i : Nat, i ≤ t.f1.length → (callsL (t.f1.take i)).length ≤ 39 * i
  | 0, _ => by simp [callsL]
  | i + 1, hi => by
    have ih := callsL_len ht i (by omega)
    have hc := call_bd ht (i := (i : Int)) (by omega) (by omega)
    have hl := callL_len (c := at_ t.f1 (i : Int)) (by omega) (by omega) (by omega)
    rw [callsL_succ _ (by omega), List.length_append]
    omega
theorem ev_spec_TripText {t : S28} (ht : TripP t) : Ev (fun k => spec_TripText.l0 k t t.f0 0) (bs (tripL t)) := by
  have hl := ht.2.1
  have hn := ht.1.1
  have hb := byt_len t.f0
  have key := ev_fold (fun k i => spec_TripText.l0 k t (bs (byt t.f0 ++ callsL (t.f1.take i))) (i : Int)) t.f1.length (r := bs (tripL t)) ?_ ?_
  · simpa [callsL, bs_byt] using key
  · intro i hi hnx
    have hc := call_bd ht (i := (i : Int)) (by omega) (by omega)
    have hcl := callsL_len ht i (by omega)
    rw [callsL_succ _ hi] at hnx
    refine Ev.step (fun k => by simp only [spec_TripText.l0]; rfl) ?_
    rw [wrap_succ hi (by omega)]
    have e0 : (at_ t.f1 (i : Int)).f0 = (((at_ t.f1 (i : Int)).f0.toNat : Nat) : Int) := by omega
    have e1 : (at_ t.f1 (i : Int)).f1 = (((at_ t.f1 (i : Int)).f1.toNat : Nat) : Int) := by omega
    have e2 : (at_ t.f1 (i : Int)).f2 = (((at_ t.f1 (i : Int)).f2.toNat : Nat) : Int) := by omega
    have n0 := ev_spec_l01Num (at_ t.f1 (i : Int)).f0.toNat (by omega)
    have n1 := ev_spec_TimeText (at_ t.f1 (i : Int)).f1.toNat (by omega)
    have n2 := ev_spec_TimeText (at_ t.f1 (i : Int)).f2.toNat (by omega)
    rw [← e0] at n0
    rw [← e1] at n1
    rw [← e2] at n2
    have l0 := dec_len7 (n := (at_ t.f1 (i : Int)).f0.toNat) (by omega)
    have l1 := timeL_len (m := (at_ t.f1 (i : Int)).f1.toNat) (by omega)
    have l2 := timeL_len (m := (at_ t.f1 (i : Int)).f2.toNat) (by omega)
    have e : (⟨(dec (at_ t.f1 (i : Int)).f0.toNat).toArray⟩ : ByteArray) = bs (dec (at_ t.f1 (i : Int)).f0.toNat) := rfl
    have e32 : (⟨#[32]⟩ : ByteArray) = bs [32] := rfl
    have e64 : (⟨#[64]⟩ : ByteArray) = bs [64] := rfl
    have e45 : (⟨#[45]⟩ : ByteArray) = bs [45] := rfl
    rw [e] at n0
    rw [e32, e64, e45]
    refine Ev.pos (by omega) (Ev.pos (by omega) (Ev.pos ?_ (Ev.bind n0 (Ev.pos ?_ (Ev.pos ?_ (Ev.bind n1 (Ev.pos ?_ (Ev.pos ?_ (Ev.bind n2 (Ev.pos ?_ ?_))))))))))
    all_goals simp only [bs_app, bs_size, List.length_append, List.length_cons, List.length_nil]
    iterate 6 (first | omega | skip)
    have ef : byt t.f0 ++ callsL (List.take i t.f1) ++ [32] ++ dec (at_ t.f1 (i : Int)).f0.toNat ++ [64] ++ timeL (at_ t.f1 (i : Int)).f1.toNat ++ [45] ++ timeL (at_ t.f1 (i : Int)).f2.toNat = byt t.f0 ++ (callsL (List.take i t.f1) ++ callL (at_ t.f1 (i : Int))) := by
      unfold callL
      simp
    rw [ef]
    exact hnx
  · refine Ev.step (fun k => by simp only [spec_TripText.l0]; rfl) ?_
    rw [List.take_length]
    exact Ev.neg (by omega) (ev_val rfl)
theorem ev_impl_TripText {t : S28} (ht : TripP t) : Ev (fun k => impl_TripText.l0 k t t.f0 0) (bs (tripL t)) := by
  have hl := ht.2.1
  have hn := ht.1.1
  have hb := byt_len t.f0
  have key := ev_fold (fun k i => impl_TripText.l0 k t (bs (byt t.f0 ++ callsL (t.f1.take i))) (i : Int)) t.f1.length (r := bs (tripL t)) ?_ ?_
  · simpa [callsL, bs_byt] using key
  · intro i hi hnx
    have hc := call_bd ht (i := (i : Int)) (by omega) (by omega)
    have hcl := callsL_len ht i (by omega)
    rw [callsL_succ _ hi] at hnx
    refine Ev.step (fun k => by simp only [impl_TripText.l0]; rfl) ?_
    rw [wrap_succ hi (by omega)]
    have e0 : (at_ t.f1 (i : Int)).f0 = (((at_ t.f1 (i : Int)).f0.toNat : Nat) : Int) := by omega
    have e1 : (at_ t.f1 (i : Int)).f1 = (((at_ t.f1 (i : Int)).f1.toNat : Nat) : Int) := by omega
    have e2 : (at_ t.f1 (i : Int)).f2 = (((at_ t.f1 (i : Int)).f2.toNat : Nat) : Int) := by omega
    have n0 := ev_Itoa (at_ t.f1 (i : Int)).f0.toNat (by omega)
    have n1 := eq_impl_TimeText (at_ t.f1 (i : Int)).f1.toNat (by omega)
    have n2 := eq_impl_TimeText (at_ t.f1 (i : Int)).f2.toNat (by omega)
    rw [← e0] at n0
    rw [← e1] at n1
    rw [← e2] at n2
    have l0 := dec_len7 (n := (at_ t.f1 (i : Int)).f0.toNat) (by omega)
    have l1 := timeL_len (m := (at_ t.f1 (i : Int)).f1.toNat) (by omega)
    have l2 := timeL_len (m := (at_ t.f1 (i : Int)).f2.toNat) (by omega)
    have e32 : (⟨#[32]⟩ : ByteArray) = bs [32] := rfl
    have e64 : (⟨#[64]⟩ : ByteArray) = bs [64] := rfl
    have e45 : (⟨#[45]⟩ : ByteArray) = bs [45] := rfl
    rw [e32, e64, e45]
    refine Ev.pos (by omega) (Ev.pos (by omega) (Ev.opt n0 (Ev.pos ?_ (Ev.pos ?_ (Ev.opt n1 (Ev.pos ?_ (Ev.pos ?_ (Ev.opt n2 (Ev.pos ?_ (Ev.pos ?_ ?_))))))))))
    all_goals simp only [bs_app, bs_size, List.length_append, List.length_cons, List.length_nil]
    iterate 6 (first | omega | skip)
    have ef : byt t.f0 ++ callsL (List.take i t.f1) ++ ([32] ++ dec (at_ t.f1 (i : Int)).f0.toNat ++ [64] ++ timeL (at_ t.f1 (i : Int)).f1.toNat ++ [45] ++ timeL (at_ t.f1 (i : Int)).f2.toNat) = byt t.f0 ++ (callsL (List.take i t.f1) ++ callL (at_ t.f1 (i : Int))) := by
      unfold callL
      simp
    rw [ef]
    exact hnx
  · refine Ev.step (fun k => by simp only [impl_TripText.l0]; rfl) ?_
    rw [List.take_length]
    exact Ev.neg (by omega) (ev_val rfl)
theorem main_FnExactTripText (x0 : S23) (h0 : ok23 x0) (b0 : (x0.f0.size ≤ 1048576 ∧ (x0.f1.length ≤ 1048576))) : ∃ w, Ev (fun k => spec_TripText.f k (cv23_28 x0)) w ∧ Ev (fun k => impl_TripText.f k (cv23_28 x0)) w ∧ w.size ≤ 1048576 := by
  classical
  have hb : (cv23_28 x0).f0.size ≤ 1048576 ∧ (cv23_28 x0).f1.length ≤ 1048576 := b0
  generalize cv23_28 x0 = t at hb
  unfold spec_TripText.f impl_TripText.f
  by_cases ht : TripP t
  · refine ⟨bs (tripL t), Ev.bind (ev_spec_TripOk t hb.1 hb.2 true (by simp [ht])) (Ev.pos rfl (ev_spec_TripText ht)), Ev.bind (ev_impl_TripOk t hb.1 hb.2 true (by simp [ht])) (Ev.pos rfl (ev_impl_TripText ht)), ?_⟩
    have hl := ht.2.1
    have hn := ht.1.1
    have hy := byt_len t.f0
    have hc := callsL_len ht t.f1.length (Nat.le_refl _)
    rw [List.take_length] at hc
    rw [bs_size]
    unfold tripL
    rw [List.length_append]
    omega
  · exact ⟨⟨#[]⟩, Ev.bind (ev_spec_TripOk t hb.1 hb.2 false (by simp [ht])) (Ev.neg (by decide) (ev_val rfl)), Ev.bind (ev_impl_TripOk t hb.1 hb.2 false (by simp [ht])) (Ev.neg (by decide) (ev_val rfl)), by decide⟩
theorem pure_FnExactTripText : Pure := by
  intro x0 h0
  refine Ev.rounds ?_
  unfold laws_FnExactTripText.f
  obtain ⟨r0, e0, hr0⟩ := sz_Trip x0 1048576 (by omega) (by omega) h0
  refine Ev.bind e0 ?_
  refine Ev.ite (fun _ => ev_val rfl) (fun g0 => ?_)
  obtain ⟨p0, q0, b0⟩ := hr0.resolve_left g0
  have c0_0 : x0.f0.size ≤ 1048576 := b0.1
  have c0_1 : x0.f1.length ≤ 1048576 := b0.2
  obtain ⟨w, es, ei, hb⟩ := main_FnExactTripText x0 h0 b0
  refine Ev.bind (to_Trip x0 b0) ?_
  refine Ev.bind es ?_
  refine Ev.bind (to_Trip x0 b0) ?_
  refine Ev.bind ei ?_
  refine Ev.pos (by first | rfl | simp [sEq] | omega) ?_
  refine Ev.bind (to_Trip x0 b0) ?_
  refine Ev.bind (eq_Trip _ ⟨b0.1, b0.2⟩) ?_
  refine Ev.pos (by first | rfl | simp [sEq] | omega) ?_
  exact ev_val rfl

end Go.Proofs.YtjlickinmkafbaaDoor.Fns
