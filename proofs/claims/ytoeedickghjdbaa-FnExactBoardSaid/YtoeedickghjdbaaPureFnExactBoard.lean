/- The pure statement of the law FnExactBoard: its function, told by the engine, gives true for every input. -/
import Derived.Test.YtoeedickghjdbaaSFnExactBoard
namespace Go.Proofs.Ytoeedickghjdbaa.Fns
open Go.RowKit Go.WideShapes Go.Proofs.Ytoeedickghjdbaa.Eng
set_option linter.unusedVariables false
set_option linter.unusedSimpArgs false
/-- From some number of rounds on there is one answer, and C holds of it. -/
def Evx {α : Type} (g : Nat → Option α) (C : α → Prop) : Prop := ∃ r, Ev g r ∧ C r
section
variable {α β : Type}
theorem Evx.val {a : α} {C : α → Prop} (h : C a) : Evx (fun _ => some a) C := ⟨a, Ev.now a, h⟩
theorem Evx.of {g : Nat → Option α} {r : α} {C : α → Prop} (h : Ev g r) (hc : C r) : Evx g C := ⟨r, h, hc⟩
theorem Evx.bind {g : Nat → Option α} {f : Nat → α → Option β} {P : α → Prop} {C : β → Prop} (h : Evx g P) (k : ∀ a, P a → Evx (fun n => f n a) C) : Evx (fun n => (g n).bind (f n)) C := by
  obtain ⟨a, h1, h2⟩ := h
  obtain ⟨r, h3, h4⟩ := k a h2
  exact ⟨r, Ev.bind h1 h3, h4⟩
theorem Evx.bindv {g : Nat → Option α} {f : Nat → α → Option β} {a : α} {C : β → Prop} (h : Ev g a) (k : Evx (fun n => f n a) C) : Evx (fun n => (g n).bind (f n)) C := by
  obtain ⟨r, h3, h4⟩ := k
  exact ⟨r, Ev.bind h h3, h4⟩
theorem Evx.opt {g : Option α} {f : Nat → α → Option β} {a : α} {C : β → Prop} (h : g = some a) (k : Evx (fun n => f n a) C) : Evx (fun n => g.bind (f n)) C := by subst h; exact k
theorem Evx.step {g f : Nat → Option α} {C : α → Prop} (h : ∀ k, g (k + 1) = f k) (k : Evx f C) : Evx g C := by
  obtain ⟨r, h3, h4⟩ := k
  exact ⟨r, Ev.step h h3, h4⟩
theorem Evx.congr {g f : Nat → Option α} {C : α → Prop} (h : ∀ k, g k = f k) (k : Evx f C) : Evx g C := by
  obtain ⟨r, h3, h4⟩ := k
  exact ⟨r, Ev.congr h h3, h4⟩
theorem Evx.ite {c : Prop} [Decidable c] {g f : Nat → Option α} {C : α → Prop} (h : c → Evx g C) (h' : ¬ c → Evx f C) : Evx (fun k => if c then g k else f k) C := by
  by_cases hc : c
  · simp only [if_pos hc]; exact h hc
  · simp only [if_neg hc]; exact h' hc
theorem Evx.pos {c : Prop} [Decidable c] {g f : Nat → Option α} {C : α → Prop} (hc : c) (h : Evx g C) : Evx (fun k => if c then g k else f k) C := by simp only [if_pos hc]; exact h
theorem Evx.neg {c : Prop} [Decidable c] {g f : Nat → Option α} {C : α → Prop} (hc : ¬ c) (h : Evx f C) : Evx (fun k => if c then g k else f k) C := by simp only [if_neg hc]; exact h
theorem Evx.mono {g : Nat → Option α} {C D : α → Prop} (h : Evx g C) (hd : ∀ r, C r → D r) : Evx g D := by
  obtain ⟨r, h1, h2⟩ := h
  exact ⟨r, h1, hd r h2⟩
theorem Evx.ev {g : Nat → Option α} {r : α} (h : Evx g (fun x => x = r)) : Ev g r := by
  obtain ⟨a, h1, rfl⟩ := h
  exact h1
theorem Ev.uniq {g : Nat → Option α} {a b : α} (h : Ev g a) (h' : Ev g b) : a = b := by
  obtain ⟨K, hK⟩ := h
  obtain ⟨K', hK'⟩ := h'
  have e1 := hK (max K K') (by omega)
  have e2 := hK' (max K K') (by omega)
  rw [e1] at e2
  exact Option.some.inj e2
end
/-- A loop that counts up, with what holds of its state at each place. -/
theorem evx_loop {R σ : Type} (G : Nat → Nat → σ → Option R) (n : Nat) (Inv : Nat → σ → Prop) (C : R → Prop)
    (hstep : ∀ i s, i < n → Inv i s → (∀ s', Inv (i + 1) s' → Evx (fun k => G k (i + 1) s') C) → Evx (fun k => G k i s) C)
    (hend : ∀ s, Inv n s → Evx (fun k => G k n s) C) : ∀ s, Inv 0 s → Evx (fun k => G k 0 s) C := by
  have key : ∀ d i, i + d = n → ∀ s, Inv i s → Evx (fun k => G k i s) C := by
    intro d
    induction d with
    | zero => intro i hi s hs; obtain rfl : i = n := by omega
              exact hend s hs
    | succ d ih => intro i hi s hs; exact hstep i s (by omega) hs (fun s' hs' => ih (i + 1) (by omega) s' hs')
  exact fun s hs => key n 0 (by omega) s hs
-- counting, taking, placing
theorem at_getD {α : Type} [Inhabited α] (xs : List α) (i : Int) : at_ xs i = xs.getD i.toNat default := rfl
theorem at_int {α : Type} [Inhabited α] {xs : List α} {i : Int} (h0 : 0 ≤ i) (h1 : i < (xs.length : Int)) : at_ xs i = xs[i.toNat]'(by omega) := by
  have h : i.toNat < xs.length := by omega
  rw [at_getD, List.getD_eq_getElem?_getD, List.getElem?_eq_getElem h]
  rfl
theorem at_mem {α : Type} [Inhabited α] {xs : List α} {i : Int} (h0 : 0 ≤ i) (h1 : i < (xs.length : Int)) : at_ xs i ∈ xs := by
  rw [at_int h0 h1]; exact List.getElem_mem _
theorem all_at {α : Type} [Inhabited α] {xs : List α} {p : α → Prop} (h : ∀ y, y ∈ xs → p y) {i : Int} (h0 : 0 ≤ i) (h1 : i < (xs.length : Int)) : p (at_ xs i) := h _ (at_mem h0 h1)
theorem all_idx {α : Type} [Inhabited α] {xs : List α} {p : α → Prop} (h : ∀ i, i < xs.length → p (at_ xs (i : Int))) {i : Int} (h0 : 0 ≤ i) (h1 : i < (xs.length : Int)) : p (at_ xs i) := by
  have := h i.toNat (by omega)
  rwa [show ((i.toNat : Nat) : Int) = i by omega] at this
theorem all_iff {α : Type} [Inhabited α] {xs : List α} {p : α → Prop} : (∀ i, i < xs.length → p (at_ xs (i : Int))) ↔ ∀ y, y ∈ xs → p y := by
  refine ⟨fun h y hy => ?_, fun h i hi => h _ (at_mem (by omega) (by omega))⟩
  obtain ⟨i, hi, rfl⟩ := List.getElem_of_mem hy
  have := h i hi
  rwa [at_nat hi] at this
theorem take_succ' {α : Type} {xs : List α} {i : Nat} (h : i < xs.length) : xs.take (i + 1) = xs.take i ++ [xs[i]] := List.take_succ_eq_append_getElem h
theorem count_take {α : Type} (p : α → Bool) {xs : List α} {i : Nat} (h : i < xs.length) : (xs.take (i + 1)).countP p = (xs.take i).countP p + (if p xs[i] then 1 else 0) := by
  rw [take_succ' h, List.countP_append, List.countP_singleton]
theorem count_le {α : Type} (p : α → Bool) (xs : List α) : xs.countP p ≤ xs.length := List.countP_le_length
theorem set_take {α : Type} {xs : List α} {i j : Nat} (v : α) (h : j < xs.length) : (xs.set i v)[j]'(by rw [List.length_set]; exact h) = if i = j then v else xs[j] := by rw [List.getElem_set]
theorem at_set_ne {α : Type} [Inhabited α] {xs : List α} {i : Nat} {j : Int} {v : α} (h0 : 0 ≤ j) (h : (i : Int) ≠ j) : at_ (xs.set i v) j = at_ xs j := by
  rw [at_getD, at_getD, List.getD_eq_getElem?_getD, List.getD_eq_getElem?_getD, List.getElem?_set_ne (by omega)]
theorem at_set_eq {α : Type} [Inhabited α] {xs : List α} {i : Nat} {v : α} (h : i < xs.length) : at_ (xs.set i v) (i : Int) = v := by
  rw [at_getD, List.getD_eq_getElem?_getD, Int.toNat_natCast, List.getElem?_set_self h]; rfl
theorem at_app_left {α : Type} [Inhabited α] (a b : List α) {i : Int} (h0 : 0 ≤ i) (h : i < (a.length : Int)) : at_ (a ++ b) i = at_ a i := by
  rw [at_getD, at_getD, List.getD_eq_getElem?_getD, List.getD_eq_getElem?_getD, List.getElem?_append_left (by omega)]
theorem at_app_right {α : Type} [Inhabited α] (a b : List α) {i : Int} (h : (a.length : Int) ≤ i) : at_ (a ++ b) i = at_ b (i - a.length) := by
  rw [at_getD, at_getD, List.getD_eq_getElem?_getD, List.getD_eq_getElem?_getD, List.getElem?_append_right (by omega)]
  congr 2; omega
theorem at_app_last {α : Type} [Inhabited α] (a : List α) (v : α) : at_ (a ++ [v]) (a.length : Int) = v := by
  rw [at_app_right a [v] (by omega), Int.sub_self]; rfl
theorem at_take {α : Type} [Inhabited α] (xs : List α) {n : Nat} {i : Int} (h0 : 0 ≤ i) (h : i < n) : at_ (xs.take n) i = at_ xs i := by
  rw [at_getD, at_getD, List.getD_eq_getElem?_getD, List.getD_eq_getElem?_getD, List.getElem?_take_of_lt (by omega)]
theorem at_rep {α : Type} [Inhabited α] (n : Nat) (v : α) {i : Int} (h0 : 0 ≤ i) (h : i < n) : at_ (List.replicate n v) i = v := by
  rw [at_int h0 (by simpa using h)]; simp
theorem tmod_of {a : Int} (b : Int) (h : 0 ≤ a) : a.tmod b = a % b := Int.tmod_eq_emod_of_nonneg h
theorem tdiv_of {a : Int} (b : Int) (h : 0 ≤ a) : a.tdiv b = a / b := Int.tdiv_eq_ediv_of_nonneg h
theorem range_at {n : Nat} {f : Nat → Int} {i : Int} (h0 : 0 ≤ i) (h : i < n) : at_ ((List.range n).map f) i = f i.toNat := by
  rw [at_int h0 (by simpa using h)]; simp
theorem range_set {α : Type} (n : Nat) (f : Nat → α) (i : Nat) (v : α) : ((List.range n).map f).set i v = (List.range n).map (fun j => if j = i then v else f j) := by
  refine List.ext_getElem (by simp) fun j h1 h2 => ?_
  simp only [List.getElem_set, List.getElem_map, List.getElem_range]
  by_cases e : i = j
  · rw [if_pos e, if_pos e.symm]
  · rw [if_neg e, if_neg (fun g => e g.symm)]
theorem range_congr {α : Type} {n : Nat} {f g : Nat → α} (h : ∀ j, j < n → f j = g j) : (List.range n).map f = (List.range n).map g :=
  List.map_congr_left fun j hj => h j (List.mem_range.1 hj)
/-- A loop that counts up and stops where P does not hold. -/
theorem ev_scan {R : Type} (n : Nat) (P : Nat → Prop) (bad : R) (G : Nat → Nat → Option R) {r : R} (hr : (∃ i, i < n ∧ ¬ P i) → r = bad)
    (hstep : ∀ i, i < n → (∀ j, j < i → P j) → (P i → Ev (fun k => G k (i + 1)) r) → (¬ P i → r = bad) → Ev (fun k => G k i) r)
    (hend : (∀ i, i < n → P i) → Ev (fun k => G k n) r) : Ev (fun k => G k 0) r := by
  have key : ∀ d i, i + d = n → (∀ j, j < i → P j) → Ev (fun k => G k i) r := by
    intro d
    induction d with
    | zero => intro i hi hp; obtain rfl : i = n := by omega
              exact hend hp
    | succ d ih =>
      intro i hi hp
      refine hstep i (by omega) hp (fun h => ih (i + 1) (by omega) fun j hj => ?_) (fun h => hr ⟨i, by omega, h⟩)
      rcases Nat.lt_or_ge j i with g | g
      · exact hp j g
      · obtain rfl : j = i := by omega
        exact h
  exact key n 0 (by omega) (fun j hj => absurd hj (by omega))
theorem bool_eq {b : Bool} {P : Prop} (hb : b = true ↔ P) (h : P) : b = true := hb.2 h
theorem not_all {n : Nat} {P : Nat → Prop} (h : ¬ ∀ i, i < n → P i) : ∃ i, i < n ∧ ¬ P i := by
  classical
  exact Classical.byContradiction fun g => h fun i hi => Classical.byContradiction fun q => g ⟨i, hi, q⟩
theorem mem_take_iff {α : Type} [Inhabited α] {xs : List α} {n : Nat} {v : α} (h : n ≤ xs.length) : v ∈ xs.take n ↔ ∃ i, i < n ∧ at_ xs (i : Int) = v := by
  constructor
  · intro hv
    obtain ⟨i, hi, e⟩ := List.getElem_of_mem hv
    rw [List.length_take] at hi
    rw [List.getElem_take] at e
    exact ⟨i, by omega, by rw [at_nat (by omega)]; exact e⟩
  · rintro ⟨i, hi, e⟩
    rw [at_nat (by omega)] at e
    rw [← e]
    exact List.mem_take_iff_getElem.2 ⟨i, by omega, rfl⟩
theorem mem_at {α : Type} [Inhabited α] {xs : List α} {v : α} : v ∈ xs ↔ ∃ i, i < xs.length ∧ at_ xs (i : Int) = v := by
  have := mem_take_iff (xs := xs) (v := v) (Nat.le_refl _)
  rwa [List.take_length] at this
open Classical in
/-- The first place where P holds, or -1. -/
noncomputable def firstI (n : Nat) (P : Nat → Prop) : Int := if h : ∃ i, i < n ∧ P i then ((Classical.choose (least_of h) : Nat) : Int) else -1
theorem firstI_spec (n : Nat) (P : Nat → Prop) : (firstI n P = -1 ∧ ∀ i, i < n → ¬ P i) ∨ ∃ i, i < n ∧ P i ∧ (∀ j, j < i → ¬ P j) ∧ firstI n P = (i : Int) := by
  classical
  unfold firstI
  by_cases h : ∃ i, i < n ∧ P i
  · rw [dif_pos h]
    have hs := Classical.choose_spec (least_of h)
    exact .inr ⟨_, hs.1.1, hs.1.2, fun j hj hp => hs.2 j hj ⟨by have := hs.1.1; omega, hp⟩, rfl⟩
  · rw [dif_neg h]
    exact .inl ⟨rfl, fun i hi hp => h ⟨i, hi, hp⟩⟩
theorem firstI_lo (n : Nat) (P : Nat → Prop) : -1 ≤ firstI n P ∧ firstI n P < (n : Int) ∧ (0 ≤ firstI n P ↔ ∃ i, i < n ∧ P i) := by
  rcases firstI_spec n P with ⟨h, h2⟩ | ⟨i, h1, h2, _, h3⟩
  · rw [h]; exact ⟨by omega, by omega, fun g => by omega, fun ⟨i, hi, hp⟩ => absurd hp (h2 i hi)⟩
  · rw [h3]; exact ⟨by omega, by omega, fun _ => ⟨i, h1, h2⟩, fun _ => by omega⟩
theorem firstI_at {n : Nat} {P : Nat → Prop} (h : 0 ≤ firstI n P) : P (firstI n P).toNat := by
  rcases firstI_spec n P with ⟨h1, _⟩ | ⟨i, h1, h2, _, h3⟩
  · omega
  · rw [h3]; exact h2
theorem firstI_find {R : Type} (n : Nat) (P : Nat → Prop) (out : Int → R) : FindR n P (fun i => out (i : Int)) (out (-1)) (out (firstI n P)) := by
  rcases firstI_spec n P with ⟨h, h2⟩ | ⟨i, h1, h2, h4, h3⟩
  · exact .inl ⟨by rw [h], h2⟩
  · exact .inr ⟨i, h1, h2, h4, by rw [h3]⟩
theorem firstI_congr {n : Nat} {P Q : Nat → Prop} (h : ∀ i, i < n → (P i ↔ Q i)) : firstI n P = firstI n Q := by
  rcases firstI_spec n P with ⟨h1, h2⟩ | ⟨i, h1, h2, h4, h3⟩
  · rcases firstI_spec n Q with ⟨g1, g2⟩ | ⟨j, g1, g2, g4, g3⟩
    · rw [h1, g1]
    · exact absurd ((h j g1).2 g2) (h2 j g1)
  · rcases firstI_spec n Q with ⟨g1, g2⟩ | ⟨j, g1, g2, g4, g3⟩
    · exact absurd ((h i h1).1 h2) (g2 i h1)
    · rw [h3, g3]
      rcases Nat.lt_trichotomy i j with w | w | w
      · exact absurd ((h i h1).1 h2) (g4 i w)
      · rw [w]
      · exact absurd ((h j g1).2 g2) (h4 j w)
theorem firstI_eq {n : Nat} {P : Nat → Prop} {i : Nat} (h : i < n) (hp : P i) (hm : ∀ j, j < i → ¬ P j) : firstI n P = (i : Int) := by
  rcases firstI_spec n P with ⟨_, h2⟩ | ⟨j, h1, h2, h4, h3⟩
  · exact absurd hp (h2 i h)
  · rw [h3]
    rcases Nat.lt_trichotomy i j with w | w | w
    · exact absurd hp (h4 i w)
    · rw [w]
    · exact absurd h2 (hm j w)
theorem firstI_no {n : Nat} {P : Nat → Prop} (h : ∀ i, i < n → ¬ P i) : firstI n P = -1 := by
  rcases firstI_spec n P with ⟨h1, _⟩ | ⟨j, h1, h2, _, _⟩
  · exact h1
  · exact absurd h2 (h j h1)
/-- .. and what it gives hangs on where it stops. -/
theorem ev_scan2 {R : Type} (n : Nat) (P : Nat → Prop) (bad : Nat → R) (G : Nat → Nat → Option R) {r : R} (hr : ∀ i, i < n → ¬ P i → (∀ j, j < i → P j) → r = bad i)
    (hstep : ∀ i, i < n → (∀ j, j < i → P j) → (P i → Ev (fun k => G k (i + 1)) r) → (¬ P i → r = bad i) → Ev (fun k => G k i) r)
    (hend : (∀ i, i < n → P i) → Ev (fun k => G k n) r) : Ev (fun k => G k 0) r := by
  have key : ∀ d i, i + d = n → (∀ j, j < i → P j) → Ev (fun k => G k i) r := by
    intro d
    induction d with
    | zero => intro i hi hp; obtain rfl : i = n := by omega
              exact hend hp
    | succ d ih =>
      intro i hi hp
      refine hstep i (by omega) hp (fun h => ih (i + 1) (by omega) fun j hj => ?_) (fun h => hr i (by omega) h hp)
      rcases Nat.lt_or_ge j i with g | g
      · exact hp j g
      · obtain rfl : j = i := by omega
        exact h
  exact key n 0 (by omega) (fun j hj => absurd hj (by omega))
theorem eq_impl_between (a b c : Int) : impl_between.f a b c = some (decide (b ≤ a ∧ a ≤ c)) := by
  unfold impl_between.f
  by_cases h : a ≥ b
  · rw [if_pos h]; simp [show b ≤ a from h]
  · rw [if_neg h]; simp [show ¬ b ≤ a from h]
theorem eq_spec_l01In (a b c : Int) : spec_l01In.f a b c = some (decide (b ≤ a ∧ a ≤ c)) := by
  unfold spec_l01In.f
  by_cases h : b ≤ a
  · rw [if_pos h]; simp [h]
  · rw [if_neg h]; simp [h]
theorem sz_CallS (x : (List S54)) (left : Int) (h0 : 0 ≤ left) (h1 : left ≤ 1048576) (ho : (x.length ≤ maxLen ∧ ∀ y ∈ x, ok54 y)) : Evx (fun k => laws_szCallS.f x left) (fun r => r < 0 ∨ (0 ≤ r ∧ r ≤ left ∧ (x.length ≤ 1048576))) := by
  have hm : maxLen = 9223372036854775807 := rfl
  unfold laws_szCallS.f
  obtain ⟨hl, hy⟩ := ho
  rw [wrap_id (by omega) (by omega)]
  refine Evx.ite (fun h => Evx.val (.inl (by decide))) (fun h => ?_)
  exact Evx.val (.inr ⟨by omega, by omega, by omega⟩)
theorem sz_Trip (x : S23) (left : Int) (h0 : 0 ≤ left) (h1 : left ≤ 1048576) (ho : ok23 x) : Evx (fun k => laws_szTrip.f x left) (fun r => r < 0 ∨ (0 ≤ r ∧ r ≤ left ∧ (x.f0.size ≤ 1048576 ∧ (x.f1.length ≤ 1048576)))) := by
  have hm : maxLen = 9223372036854775807 := rfl
  unfold laws_szTrip.f
  unfold ok23 at ho
  obtain ⟨o0, o1⟩ := ho
  rw [wrap_id (x := left - (x.f0.size : Int)) (by omega) (by omega)]
  refine Evx.ite (fun h => Evx.val (.inl (by decide))) (fun h0_ => ?_)
  refine Evx.bind (sz_CallS x.f1 (left - (x.f0.size : Int)) (by omega) (by omega) o1) (fun r1 hr1 => ?_)
  refine Evx.ite (fun h => Evx.val (.inl (by decide))) (fun h1_ => ?_)
  obtain ⟨p1, q1, b1⟩ := hr1.resolve_left h1_
  exact Evx.val (.inr ⟨by omega, by omega, (by omega), b1⟩)
theorem sz_TripS (x : (List S23)) (left : Int) (h0 : 0 ≤ left) (h1 : left ≤ 1048576) (ho : (x.length ≤ maxLen ∧ ∀ y ∈ x, ok23 y)) : Evx (fun k => laws_szTripS.f k x left) (fun r => r < 0 ∨ (0 ≤ r ∧ r ≤ left ∧ (x.length ≤ 1048576 ∧ ∀ y ∈ x, (y.f0.size ≤ 1048576 ∧ (y.f1.length ≤ 1048576))))) := by
  have hm : maxLen = 9223372036854775807 := rfl
  unfold laws_szTripS.f
  obtain ⟨hl, hy⟩ := ho
  rw [wrap_id (by omega) (by omega)]
  refine Evx.ite (fun h => Evx.val (.inl (by decide))) (fun h => ?_)
  refine evx_loop (fun k i (l : Int) => laws_szTripS.l0 k x l (i : Int)) x.length (fun i l => 0 ≤ l ∧ l ≤ left - x.length ∧ ∀ j (h : j < x.length), j < i → (fun y => (y.f0.size ≤ 1048576 ∧ (y.f1.length ≤ 1048576))) x[j]) _ ?_ ?_ _ ⟨by omega, by omega, fun j _ h => absurd h (by omega)⟩
  · intro i l hi ⟨a1, a2, a3⟩ hn
    refine Evx.step (fun k => by simp only [laws_szTripS.l0]; rfl) ?_
    refine Evx.pos (by omega) (Evx.pos (by omega) ?_)
    rw [at_nat hi]
    refine Evx.bind (sz_Trip x[i] l a1 (by omega) (hy _ (List.getElem_mem hi))) (fun r hr => ?_)
    rw [wrap_succ hi (by omega)]
    refine Evx.ite (fun h => Evx.val (.inl (by decide))) (fun h => ?_)
    obtain ⟨b1, b2, b3⟩ := hr.resolve_left h
    refine hn r ⟨b1, by omega, fun j hj hij => ?_⟩
    rcases Nat.lt_or_ge j i with g | g
    · exact a3 j hj g
    · obtain rfl : j = i := by omega
      exact b3
  · intro l ⟨a1, a2, a3⟩
    refine Evx.step (fun k => by simp only [laws_szTripS.l0]; rfl) ?_
    refine Evx.neg (by omega) (Evx.val (.inr ⟨a1, by omega, by omega, fun y hy => ?_⟩))
    obtain ⟨j, hj, rfl⟩ := List.getElem_of_mem hy
    exact a3 j hj hj
theorem to_Call (x : S54) (hb : True) : Ev (fun k => laws_toCall.f x) x := by
  unfold laws_toCall.f
  exact ev_val rfl
theorem to_CallS (x : (List S54)) (hb : (x.length ≤ 1048576)) : Ev (fun k => laws_toCallS.f k x) x := by
  unfold laws_toCallS.f
  have hl := hb
  refine Ev.pos (by omega) (Ev.pos (by omega) ?_)
  rw [Int.toNat_natCast]
  refine ev_fill x id _ (fun k s i => laws_toCallS.l0 k x s (i : Int)) ?_ ?_
  · intro i hi s hs hn
    refine Ev.step (fun k => by simp only [laws_toCallS.l0]; rfl) ?_
    refine Ev.pos (by omega) (Ev.pos (by omega) ?_)
    rw [at_nat hi]
    refine Ev.bind (to_Call x[i] trivial) ?_
    refine Ev.pos (by omega) ?_
    rw [Int.toNat_natCast, wrap_succ hi (by omega)]
    exact hn
  · refine Ev.step (fun k => by simp only [laws_toCallS.l0]; rfl) ?_
    refine Ev.neg (by omega) (ev_val (List.map_id x))
abbrev cv23_28 (x : S23) : S28 := ⟨x.f0, x.f1⟩
theorem bd_cv23_28 (x : S23) (h : (x.f0.size ≤ 1048576 ∧ (x.f1.length ≤ 1048576))) : ((cv23_28 x).f0.size ≤ 1048576 ∧ ((cv23_28 x).f1.length ≤ 1048576)) := ⟨h.1, h.2⟩
theorem to_Trip (x : S23) (hb : (x.f0.size ≤ 1048576 ∧ (x.f1.length ≤ 1048576))) : Ev (fun k => laws_toTrip.f k x) (cv23_28 x) := by
  unfold laws_toTrip.f
  refine Ev.bind (to_CallS x.f1 hb.2) ?_
  exact ev_val rfl
theorem to_TripS (x : (List S23)) (hb : (x.length ≤ 1048576 ∧ ∀ y ∈ x, (y.f0.size ≤ 1048576 ∧ (y.f1.length ≤ 1048576)))) : Ev (fun k => laws_toTripS.f k x) (x.map cv23_28) := by
  unfold laws_toTripS.f
  obtain ⟨hl, hy⟩ := hb
  refine Ev.pos (by omega) (Ev.pos (by omega) ?_)
  rw [Int.toNat_natCast]
  refine ev_fill x cv23_28 _ (fun k s i => laws_toTripS.l0 k x s (i : Int)) ?_ ?_
  · intro i hi s hs hn
    refine Ev.step (fun k => by simp only [laws_toTripS.l0]; rfl) ?_
    refine Ev.pos (by omega) (Ev.pos (by omega) ?_)
    rw [at_nat hi]
    refine Ev.bind (to_Trip x[i] (hy _ (List.getElem_mem hi))) ?_
    refine Ev.pos (by omega) ?_
    rw [Int.toNat_natCast, wrap_succ hi (by omega)]
    exact hn
  · refine Ev.step (fun k => by simp only [laws_toTripS.l0]; rfl) ?_
    refine Ev.neg (by omega) (ev_val rfl)
theorem eq_Entry (x : S58) (hb : True) : Ev (fun k => laws_eqEntry.f x x) true := by
  unfold laws_eqEntry.f
  refine Ev.pos rfl ?_
  refine Ev.pos rfl ?_
  exact ev_val rfl
theorem eq_EntryS (x : (List S58)) (hb : (x.length ≤ 1048576)) : Ev (fun k => laws_eqEntryS.f k x x) true := by
  unfold laws_eqEntryS.f
  have hl := hb
  refine Ev.pos rfl ?_
  refine ev_fold (fun k i => laws_eqEntryS.l0 k x x (i : Int)) x.length ?_ ?_
  · intro i hi hn
    refine Ev.step (fun k => by simp only [laws_eqEntryS.l0]; rfl) ?_
    refine Ev.pos (by omega) (Ev.pos (by omega) ?_)
    try refine Ev.pos (by omega) ?_
    rw [at_nat hi]
    refine Ev.bind (eq_Entry x[i] trivial) ?_
    refine Ev.pos (by first | rfl | simp) ?_
    rw [wrap_succ hi (by omega)]
    exact hn
  · refine Ev.step (fun k => by simp only [laws_eqEntryS.l0]; rfl) ?_
    exact Ev.neg (by omega) (ev_val rfl)
theorem eq_Call (x : S54) (hb : True) : Ev (fun k => laws_eqCall.f x x) true := by
  unfold laws_eqCall.f
  refine Ev.pos rfl ?_
  refine Ev.pos rfl ?_
  refine Ev.pos rfl ?_
  exact ev_val rfl
theorem eq_CallS (x : (List S54)) (hb : (x.length ≤ 1048576)) : Ev (fun k => laws_eqCallS.f k x x) true := by
  unfold laws_eqCallS.f
  have hl := hb
  refine Ev.pos rfl ?_
  refine ev_fold (fun k i => laws_eqCallS.l0 k x x (i : Int)) x.length ?_ ?_
  · intro i hi hn
    refine Ev.step (fun k => by simp only [laws_eqCallS.l0]; rfl) ?_
    refine Ev.pos (by omega) (Ev.pos (by omega) ?_)
    try refine Ev.pos (by omega) ?_
    rw [at_nat hi]
    refine Ev.bind (eq_Call x[i] trivial) ?_
    refine Ev.pos (by first | rfl | simp) ?_
    rw [wrap_succ hi (by omega)]
    exact hn
  · refine Ev.step (fun k => by simp only [laws_eqCallS.l0]; rfl) ?_
    exact Ev.neg (by omega) (ev_val rfl)
theorem eq_Trip (x : S28) (hb : (x.f0.size ≤ 1048576 ∧ (x.f1.length ≤ 1048576))) : Ev (fun k => laws_eqTrip.f k x x) true := by
  unfold laws_eqTrip.f
  refine Ev.pos (by simp [sEq]) ?_
  refine Ev.bind (eq_CallS x.f1 hb.2) ?_
  refine Ev.pos rfl ?_
  exact ev_val rfl
theorem eq_TripS (x : (List S28)) (hb : (x.length ≤ 1048576 ∧ ∀ y ∈ x, (y.f0.size ≤ 1048576 ∧ (y.f1.length ≤ 1048576)))) : Ev (fun k => laws_eqTripS.f k x x) true := by
  unfold laws_eqTripS.f
  obtain ⟨hl, hy⟩ := hb
  refine Ev.pos rfl ?_
  refine ev_fold (fun k i => laws_eqTripS.l0 k x x (i : Int)) x.length ?_ ?_
  · intro i hi hn
    refine Ev.step (fun k => by simp only [laws_eqTripS.l0]; rfl) ?_
    refine Ev.pos (by omega) (Ev.pos (by omega) ?_)
    try refine Ev.pos (by omega) ?_
    rw [at_nat hi]
    refine Ev.bind (eq_Trip x[i] (hy _ (List.getElem_mem hi))) ?_
    refine Ev.pos (by first | rfl | simp) ?_
    rw [wrap_succ hi (by omega)]
    exact hn
  · refine Ev.step (fun k => by simp only [laws_eqTripS.l0]; rfl) ?_
    exact Ev.neg (by omega) (ev_val rfl)
def mk_CallS (a : Int) (i : Nat) : S54 := (⟨a + 3 * (i : Int), a + 3 * (i : Int) + 1, a + 3 * (i : Int) + 2⟩ : S54)
def mkd_CallS (m : Nat) (a : Int) : List S54 := (List.range m).map (mk_CallS a)
theorem mkl_CallS (m : Nat) (a : Int) : (mkd_CallS m a).length = m := by simp [mkd_CallS]
theorem mks_CallS (i : Nat) (a : Int) (x : (List S54)) (hi : i < x.length) : (mkd_CallS i a ++ x.drop i).set i (mk_CallS a i) = mkd_CallS (i + 1) a ++ x.drop (i + 1) := by
  rw [List.set_append_right _ _ (by rw [mkl_CallS]; omega), mkl_CallS, Nat.sub_self, List.drop_eq_getElem_cons hi, List.set_cons_zero]
  simp [mkd_CallS, List.range_succ]
theorem mark_CallS (x : (List S54)) (hl : x.length ≤ 4194304) (a : Int) (h0 : 0 ≤ a) (h1 : a ≤ 1152921504606846976) : Ev (fun k => laws_markCallS.f k x a) (a + 3 * (x.length : Int), mkd_CallS x.length a) := by
  unfold laws_markCallS.f
  have hlen : ∀ i, i < x.length → (mkd_CallS i a ++ x.drop i).length = x.length := by
    intro i hi
    rw [List.length_append, mkl_CallS, List.length_drop]; omega
  have key := ev_fold (fun k i => laws_markCallS.l0 k (mkd_CallS i a ++ x.drop i) (a + 3 * (i : Int)) (i : Int)) x.length (r := (a + 3 * (x.length : Int), mkd_CallS x.length a)) ?_ ?_
  · have e : a + 3 * 0 = a := by omega
    simpa [mkd_CallS] using key
  · intro i hi hn
    refine Ev.step (fun k => by simp only [laws_markCallS.l0]; rfl) ?_
    refine Ev.pos (by rw [hlen i hi]; omega) (Ev.pos (by omega) ?_)
    try simp only [if_pos (show (i : Int) < ((mkd_CallS i a ++ x.drop i).length : Int) by rw [hlen i hi]; omega)]
    rw [Int.toNat_natCast]
    rw [wrap_id (x := a + 3 * (i : Int) + 1) (by omega) (by omega)]
    rw [wrap_id (x := a + 3 * (i : Int) + 1 + 1) (by omega) (by omega), show a + 3 * (i : Int) + 1 + 1 = a + 3 * (i : Int) + 2 by omega]
    rw [wrap_id (x := a + 3 * (i : Int) + 2 + 1) (by omega) (by omega)]
    have e := mks_CallS i a x hi
    unfold mk_CallS at e
    rw [e, wrap_succ hi (by omega), show a + 3 * (i : Int) + 2 + 1 = a + 3 * ((i + 1 : Nat) : Int) by omega]
    exact hn
  · refine Ev.step (fun k => by simp only [laws_markCallS.l0]; rfl) ?_
    have e : mkd_CallS x.length a ++ x.drop x.length = mkd_CallS x.length a := by simp
    rw [e]
    exact Ev.neg (by rw [mkl_CallS]; omega) (ev_val rfl)
def mk_EntryS (a : Int) (i : Nat) : S58 := (⟨a + 2 * (i : Int), a + 2 * (i : Int) + 1⟩ : S58)
def mkd_EntryS (m : Nat) (a : Int) : List S58 := (List.range m).map (mk_EntryS a)
theorem mkl_EntryS (m : Nat) (a : Int) : (mkd_EntryS m a).length = m := by simp [mkd_EntryS]
theorem mks_EntryS (i : Nat) (a : Int) (x : (List S58)) (hi : i < x.length) : (mkd_EntryS i a ++ x.drop i).set i (mk_EntryS a i) = mkd_EntryS (i + 1) a ++ x.drop (i + 1) := by
  rw [List.set_append_right _ _ (by rw [mkl_EntryS]; omega), mkl_EntryS, Nat.sub_self, List.drop_eq_getElem_cons hi, List.set_cons_zero]
  simp [mkd_EntryS, List.range_succ]
theorem mark_EntryS (x : (List S58)) (hl : x.length ≤ 4194304) (a : Int) (h0 : 0 ≤ a) (h1 : a ≤ 1152921504606846976) : Ev (fun k => laws_markEntryS.f k x a) (a + 2 * (x.length : Int), mkd_EntryS x.length a) := by
  unfold laws_markEntryS.f
  have hlen : ∀ i, i < x.length → (mkd_EntryS i a ++ x.drop i).length = x.length := by
    intro i hi
    rw [List.length_append, mkl_EntryS, List.length_drop]; omega
  have key := ev_fold (fun k i => laws_markEntryS.l0 k (mkd_EntryS i a ++ x.drop i) (a + 2 * (i : Int)) (i : Int)) x.length (r := (a + 2 * (x.length : Int), mkd_EntryS x.length a)) ?_ ?_
  · have e : a + 2 * 0 = a := by omega
    simpa [mkd_EntryS] using key
  · intro i hi hn
    refine Ev.step (fun k => by simp only [laws_markEntryS.l0]; rfl) ?_
    refine Ev.pos (by rw [hlen i hi]; omega) (Ev.pos (by omega) ?_)
    try simp only [if_pos (show (i : Int) < ((mkd_EntryS i a ++ x.drop i).length : Int) by rw [hlen i hi]; omega)]
    rw [Int.toNat_natCast]
    rw [wrap_id (x := a + 2 * (i : Int) + 1) (by omega) (by omega)]
    rw [wrap_id (x := a + 2 * (i : Int) + 1 + 1) (by omega) (by omega)]
    have e := mks_EntryS i a x hi
    unfold mk_EntryS at e
    rw [e, wrap_succ hi (by omega), show a + 2 * (i : Int) + 1 + 1 = a + 2 * ((i + 1 : Nat) : Int) by omega]
    exact hn
  · refine Ev.step (fun k => by simp only [laws_markEntryS.l0]; rfl) ?_
    have e : mkd_EntryS x.length a ++ x.drop x.length = mkd_EntryS x.length a := by simp
    rw [e]
    exact Ev.neg (by rw [mkl_EntryS]; omega) (ev_val rfl)
theorem held_EntryS (m : Nat) (hl : m ≤ 4194304) (a : Int) (h0 : 0 ≤ a) (h1 : a ≤ 1152921504606846976) : Ev (fun k => laws_heldEntryS.f k (mkd_EntryS m a) a) (a + 2 * (m : Int)) := by
  unfold laws_heldEntryS.f
  have e : ∀ i (hi : i < m), (mkd_EntryS m a)[i]'(by rw [mkl_EntryS]; exact hi) = mk_EntryS a i := by
    intro i hi
    simp [mkd_EntryS]
  have key := ev_fold (fun k i => laws_heldEntryS.l0 k (mkd_EntryS m a) (a + 2 * (i : Int)) (i : Int)) m (r := a + 2 * (m : Int)) ?_ ?_
  · simpa using key
  · intro i hi hn
    refine Ev.step (fun k => by simp only [laws_heldEntryS.l0]; rfl) ?_
    refine Ev.pos (by rw [mkl_EntryS]; omega) (Ev.pos (by omega) ?_)
    rw [at_nat (show i < (mkd_EntryS m a).length by rw [mkl_EntryS]; exact hi), e i hi]
    unfold mk_EntryS
    refine Ev.pos rfl ?_
    rw [wrap_id (x := a + 2 * (i : Int) + 1) (by omega) (by omega)]
    refine Ev.pos (by first | rfl | (dsimp only; omega) | simp) ?_
    rw [wrap_id (x := a + 2 * (i : Int) + 1 + 1) (by omega) (by omega)]
    rw [wrap_succ hi (by omega), show a + 2 * (i : Int) + 1 + 1 = a + 2 * ((i + 1 : Nat) : Int) by omega]
    exact hn
  · refine Ev.step (fun k => by simp only [laws_heldEntryS.l0]; rfl) ?_
    exact Ev.neg (by rw [mkl_EntryS]; omega) (ev_val rfl)
def ChP (b : Int) : Prop := (97 ≤ b ∧ b ≤ 122) ∨ (48 ≤ b ∧ b ≤ 57)
def NameP (s : ByteArray) : Prop := (1 ≤ s.size ∧ s.size ≤ 12) ∧ ∀ i, i < s.size → ChP (bt s (i : Int))
def CallP (cs : List S54) (i : Nat) : Prop := (0 ≤ (at_ cs (i : Int)).f0 ∧ (at_ cs (i : Int)).f0 ≤ 29) ∧ (0 ≤ (at_ cs (i : Int)).f1 ∧ (at_ cs (i : Int)).f1 ≤ (at_ cs (i : Int)).f2) ∧ (at_ cs (i : Int)).f2 ≤ 100000 ∧ (0 < i → (at_ cs ((i : Int) - 1)).f2 < (at_ cs (i : Int)).f1 ∧ (at_ cs ((i : Int) - 1)).f0 ≠ (at_ cs (i : Int)).f0)
def TripP (t : S28) : Prop := NameP t.f0 ∧ (2 ≤ t.f1.length ∧ t.f1.length ≤ 12) ∧ ∀ i, i < t.f1.length → CallP t.f1 i
def TripB (t : S28) : Prop := t.f0.size ≤ 1048576 ∧ t.f1.length ≤ 1048576
theorem eq_impl_isMinute (a : Int) : impl_isMinute.f a = some (decide (0 ≤ a ∧ a ≤ 100000)) := by
  unfold impl_isMinute.f
  rw [eq_impl_between]
  rfl
theorem ev_spec_l01Name (s : ByteArray) (hs : s.size ≤ 1048576) (b : Bool) (hb : b = true ↔ NameP s) : Ev (fun k => spec_l01Name.f k s) b := by
  unfold spec_l01Name.f
  refine ev_scan s.size (fun i => ChP (bt s (i : Int))) false (fun k i => spec_l01Name.l0 k s (i : Int)) (fun ⟨i, hi, h⟩ => bool_not hb fun g => h (g.2 i hi)) ?_ ?_
  · intro i hi _ hn hx
    refine Ev.step (fun k => by simp only [spec_l01Name.l0]; rfl) ?_
    rw [wrap_succ hi (by omega)]
    unfold ChP at hn hx
    have no : ¬ (97 ≤ bt s (i : Int) ∧ bt s (i : Int) ≤ 122 ∨ 48 ≤ bt s (i : Int) ∧ bt s (i : Int) ≤ 57) → Ev (fun _ => some false) b := fun h => ev_val (hx h).symm
    refine Ev.pos (by omega) (Ev.pos (by omega) (Ev.ite (fun h1 => Ev.ite (fun h2 => hn (.inl ⟨h1, h2⟩)) (fun h2 => Ev.ite (fun h3 => Ev.ite (fun h4 => hn (.inr ⟨h3, h4⟩)) (fun h4 => no (by omega))) (fun h3 => no (by omega)))) (fun h1 => Ev.ite (fun h3 => Ev.ite (fun h4 => hn (.inr ⟨h3, h4⟩)) (fun h4 => no (by omega))) (fun h3 => no (by omega)))))
  · intro hp
    refine Ev.step (fun k => by simp only [spec_l01Name.l0]; rfl) ?_
    refine Ev.neg (by omega) (Ev.opt (eq_spec_l01In _ _ _) (ev_val ?_))
    rw [Bool.eq_iff_iff, decide_eq_true_iff, hb]
    exact ⟨fun g => ⟨by omega, hp⟩, fun g => by have := g.1; omega⟩
theorem ev_impl_nameOk (s : ByteArray) (hs : s.size ≤ 1048576) (b : Bool) (hb : b = true ↔ NameP s) : Ev (fun k => impl_nameOk.f k s) b := by
  unfold impl_nameOk.f
  have bad : ¬ NameP s → b = false := bool_not hb
  refine Ev.ite (fun h => ev_val (bad fun g => by have := g.1; omega).symm) (fun g1 => Ev.ite (fun h => ev_val (bad fun g => by have := g.1; omega).symm) (fun g2 => ?_))
  refine ev_scan s.size (fun i => ChP (bt s (i : Int))) false (fun k i => impl_nameOk.l0 k s (i : Int)) (fun ⟨i, hi, h⟩ => bool_not hb fun g => h (g.2 i hi)) ?_ ?_
  · intro i hi _ hn hx
    refine Ev.step (fun k => by simp only [impl_nameOk.l0]; rfl) ?_
    rw [wrap_succ hi (by omega)]
    unfold ChP at hn hx
    have no : ¬ (97 ≤ bt s (i : Int) ∧ bt s (i : Int) ≤ 122 ∨ 48 ≤ bt s (i : Int) ∧ bt s (i : Int) ≤ 57) → Ev (fun _ => some false) b := fun h => ev_val (hx h).symm
    refine Ev.pos (by omega) (Ev.pos (by omega) (Ev.ite (fun h1 => ?_) (fun h1 => ?_)))
    · exact Ev.ite (fun h => no (by omega)) (fun h3 => Ev.ite (fun h => no (by omega)) (fun h4 => hn (.inr (by omega))))
    · exact Ev.ite (fun h2 => Ev.ite (fun h => no (by omega)) (fun h3 => Ev.ite (fun h => no (by omega)) (fun h4 => hn (.inr (by omega))))) (fun h2 => hn (.inl (by omega)))
  · intro hp
    refine Ev.step (fun k => by simp only [impl_nameOk.l0]; rfl) ?_
    exact Ev.neg (by omega) (ev_val (hb.2 ⟨by omega, hp⟩).symm)
theorem ev_spec_TripOk (t : S28) (hs : t.f0.size ≤ 1048576) (hl : t.f1.length ≤ 1048576) (b : Bool) (hb : b = true ↔ TripP t) : Ev (fun k => spec_TripOk.f k t) b := by
  classical
  unfold spec_TripOk.f
  have bad : ¬ TripP t → b = false := bool_not hb
  refine Ev.bind (ev_spec_l01Name t.f0 hs (decide (NameP t.f0)) decide_eq_true_iff) (Ev.ite (fun g1 => ?_) (fun h => ev_val (bad fun g => h (decide_eq_true g.1)).symm))
  refine Ev.opt (eq_spec_l01In _ _ _) (Ev.ite (fun g2 => ?_) (fun h => ev_val (bad fun g => h (decide_eq_true (by have := g.2.1; omega))).symm))
  have g2 := of_decide_eq_true g2
  refine ev_scan t.f1.length (CallP t.f1) false (fun k i => spec_TripOk.l0 k t (i : Int)) (fun ⟨i, hi, h⟩ => bad fun g => h (g.2.2 i hi)) ?_ ?_
  · intro i hi _ hn hx
    refine Ev.step (fun k => by simp only [spec_TripOk.l0]; rfl) ?_
    rw [wrap_succ hi (by omega), wrap_id (x := (i : Int) - 1) (by omega) (by omega)]
    unfold CallP at hn hx
    refine Ev.pos (by omega) (Ev.pos (by omega) (Ev.opt (eq_spec_l01In _ _ _) (Ev.ite (fun q1 => ?_) (fun h => ev_val (hx fun g => h (decide_eq_true g.1)).symm))))
    have q1 := of_decide_eq_true q1
    refine Ev.opt (eq_spec_l01In _ _ _) (Ev.ite (fun q2 => ?_) (fun h => ev_val (hx fun g => h (decide_eq_true (by omega))).symm))
    have q2 := of_decide_eq_true q2
    refine Ev.opt (eq_spec_l01In _ _ _) (Ev.ite (fun q3 => ?_) (fun h => ev_val (hx fun g => h (decide_eq_true (by omega))).symm))
    have q3 := of_decide_eq_true q3
    refine Ev.ite (fun h0 => ?_) (fun h0 => hn ⟨q1, q3, by omega, fun g => by omega⟩)
    refine Ev.pos (by omega) (Ev.pos (by omega) (Ev.ite (fun h => ev_val (hx fun g => by have := g.2.2.2 (by omega); omega).symm) (fun h1 => Ev.ite (fun h => ev_val (hx fun g => (g.2.2.2 (by omega)).2 h).symm) (fun h2 => hn ⟨q1, q3, by omega, fun _ => ⟨by omega, h2⟩⟩))))
  · intro hp
    refine Ev.step (fun k => by simp only [spec_TripOk.l0]; rfl) ?_
    exact Ev.neg (by omega) (ev_val (hb.2 ⟨of_decide_eq_true g1, by omega, hp⟩).symm)
theorem ev_impl_TripOk (t : S28) (hs : t.f0.size ≤ 1048576) (hl : t.f1.length ≤ 1048576) (b : Bool) (hb : b = true ↔ TripP t) : Ev (fun k => impl_TripOk.f k t) b := by
  classical
  unfold impl_TripOk.f
  have bad : ¬ TripP t → b = false := bool_not hb
  refine Ev.bind (ev_impl_nameOk t.f0 hs (decide (NameP t.f0)) decide_eq_true_iff) (Ev.ite (fun g1 => ?_) (fun h => ev_val (bad fun g => h (decide_eq_true g.1)).symm))
  refine Ev.opt (eq_impl_between _ _ _) (Ev.ite (fun g2 => ?_) (fun h => ev_val (bad fun g => h (decide_eq_true (by have := g.2.1; omega))).symm))
  have g2 := of_decide_eq_true g2
  refine ev_scan t.f1.length (CallP t.f1) false (fun k i => impl_TripOk.l0 k t (i : Int)) (fun ⟨i, hi, h⟩ => bad fun g => h (g.2.2 i hi)) ?_ ?_
  · intro i hi _ hn hx
    refine Ev.step (fun k => by simp only [impl_TripOk.l0]; rfl) ?_
    rw [wrap_succ hi (by omega), wrap_id (x := (i : Int) - 1) (by omega) (by omega)]
    unfold CallP at hn hx
    refine Ev.pos (by omega) (Ev.pos (by omega) (Ev.opt (eq_impl_between _ _ _) (Ev.ite (fun q1 => ?_) (fun h => ev_val (hx fun g => h (decide_eq_true g.1)).symm))))
    have q1 := of_decide_eq_true q1
    refine Ev.opt (eq_impl_isMinute _) (Ev.ite (fun q2 => ?_) (fun h => ev_val (hx fun g => h (decide_eq_true (by omega))).symm))
    have q2 := of_decide_eq_true q2
    refine Ev.opt (eq_impl_isMinute _) (Ev.ite (fun q3 => ?_) (fun h => ev_val (hx fun g => h (decide_eq_true (by omega))).symm))
    have q3 := of_decide_eq_true q3
    refine Ev.ite (fun h => ev_val (hx fun g => by omega).symm) (fun h4 => Ev.ite (fun h0 => ?_) (fun h0 => hn ⟨q1, by omega, by omega, fun g => by omega⟩))
    refine Ev.pos (by omega) (Ev.pos (by omega) (Ev.ite (fun h => ev_val (hx fun g => by have := g.2.2.2 (by omega); omega).symm) (fun h1 => Ev.ite (fun h => ev_val (hx fun g => (g.2.2.2 (by omega)).2 h.symm).symm) (fun h2 => hn ⟨q1, by omega, by omega, fun _ => ⟨by omega, fun g => h2 g.symm⟩⟩))))
  · intro hp
    refine Ev.step (fun k => by simp only [impl_TripOk.l0]; rfl) ?_
    exact Ev.neg (by omega) (ev_val (hb.2 ⟨of_decide_eq_true g1, by omega, hp⟩).symm)
theorem ev_impl_tripNamed (ts : List S28) (s : ByteArray) (hl : ts.length ≤ 1048576) : Evx (fun k => impl_tripNamed.f k ts s) (fun r => (0 ≤ r ↔ ∃ j, j < ts.length ∧ sEq (at_ ts (j : Int)).f0 s = true)) := by
  classical
  unfold impl_tripNamed.f slices_IndexFunc_1.f
  obtain ⟨r, hr⟩ := FindR.exists ts.length (fun j => sEq (at_ ts (j : Int)).f0 s = true) (fun j => ((j : Int), s)) (((-1 : Int)), s)
  refine Evx.bind (P := fun x => x = r) (Evx.of ?_ rfl) (fun x hx => ?_)
  · refine ev_find ts.length (fun j => sEq (at_ ts (j : Int)).f0 s = true) (fun j => ((j : Int), s)) ((-1 : Int), s) r (fun k i => slices_IndexFunc_1.l0 k ts s (i : Int)) hr ?_ ?_ ?_
    · intro i hi hc hn
      refine Ev.step (fun k => by simp only [slices_IndexFunc_1.l0, impl_tripNamed_1.f, Option.bind_some]; rfl) ?_
      rw [wrap_succ hi (by omega)]
      exact Ev.pos (by omega) (Ev.pos (by omega) (Ev.neg hc hn))
    · intro i hi hc _
      refine Ev.step (fun k => by simp only [slices_IndexFunc_1.l0, impl_tripNamed_1.f, Option.bind_some]; rfl) ?_
      exact Ev.pos (by omega) (Ev.pos (by omega) (Ev.pos hc (ev_val rfl)))
    · intro _
      refine Ev.step (fun k => by simp only [slices_IndexFunc_1.l0]; rfl) ?_
      exact Ev.neg (by omega) (ev_val rfl)
  · subst hx
    refine Evx.val ?_
    rcases hr with ⟨rfl, h⟩ | ⟨i, h1, h2, _, rfl⟩
    · exact ⟨fun g => absurd g (by show ¬ (0 ≤ (-1 : Int)); omega), fun ⟨j, hj, g⟩ => absurd g (h j hj)⟩
    · exact ⟨fun _ => ⟨i, h1, h2⟩, fun _ => by show 0 ≤ (i : Int); omega⟩
def NewP (ts : List S28) (i : Nat) : Prop := TripP (at_ ts (i : Int)) ∧ ∀ j, j < i → sEq (at_ ts (j : Int)).f0 (at_ ts (i : Int)).f0 ≠ true
def TableP (ts : List S28) : Prop := ts.length ≤ 24 ∧ ∀ i, i < ts.length → NewP ts i
def TableB (ts : List S28) : Prop := ts.length ≤ 1048576 ∧ ∀ y, y ∈ ts → TripB y
theorem ev_spec_TableOk (ts : List S28) (hB : TableB ts) (b : Bool) (hb : b = true ↔ TableP ts) : Ev (fun k => spec_TableOk.f k ts) b := by
  classical
  obtain ⟨B0, B1⟩ := hB
  unfold spec_TableOk.f
  have bad : ¬ TableP ts → b = false := bool_not hb
  refine Ev.ite (fun h => ev_val (bad fun g => by have := g.1; omega).symm) (fun g1 => ?_)
  refine ev_scan ts.length (NewP ts) false (fun k i => spec_TableOk.l0 k ts (i : Int)) (fun ⟨i, hi, h⟩ => bad fun g => h (g.2 i hi)) ?_ ?_
  · intro i hi _ hn hx
    have hy := B1 _ (at_mem (xs := ts) (i := (i : Int)) (by omega) (by omega))
    refine Ev.step (fun k => by simp only [spec_TableOk.l0]; rfl) ?_
    refine Ev.pos (by omega) (Ev.pos (by omega) (Ev.bind (ev_spec_TripOk _ hy.1 hy.2 (decide (TripP (at_ ts (i : Int)))) decide_eq_true_iff) (Ev.ite (fun g => ?_) (fun h => ev_val (hx fun g => h (decide_eq_true g.1)).symm))))
    refine ev_scan i (fun j => sEq (at_ ts (j : Int)).f0 (at_ ts (i : Int)).f0 ≠ true) false (fun k j => spec_TableOk.l1 k ts (i : Int) (j : Int)) (fun ⟨j, hj, h⟩ => hx fun g => h (g.2 j hj)) ?_ ?_
    · intro j hj _ hn2 hx2
      refine Ev.step (fun k => by simp only [spec_TableOk.l1]; rfl) ?_
      rw [wrap_succ hj (by omega)]
      exact Ev.pos (by omega) (Ev.pos (by omega) (Ev.pos (by omega) (Ev.pos (by omega) (Ev.pos (by omega) (Ev.ite (fun h => ev_val (hx2 fun g => g h).symm) (fun h => hn2 h))))))
    · intro hN
      refine Ev.step (fun k => by simp only [spec_TableOk.l1]; rfl) ?_
      rw [wrap_succ hi (by omega)]
      exact Ev.neg (by omega) (hn ⟨of_decide_eq_true g, hN⟩)
  · intro hp
    refine Ev.step (fun k => by simp only [spec_TableOk.l0]; rfl) ?_
    exact Ev.neg (by omega) (ev_val (hb.2 ⟨by omega, hp⟩).symm)
theorem ev_impl_TableOk (ts : List S28) (hB : TableB ts) (b : Bool) (hb : b = true ↔ TableP ts) : Ev (fun k => impl_TableOk.f k ts) b := by
  classical
  obtain ⟨B0, B1⟩ := hB
  unfold impl_TableOk.f
  have bad : ¬ TableP ts → b = false := bool_not hb
  refine Ev.ite (fun h => ev_val (bad fun g => by have := g.1; omega).symm) (fun g1 => ?_)
  refine ev_scan ts.length (NewP ts) false (fun k i => impl_TableOk.l0 k ts (i : Int)) (fun ⟨i, hi, h⟩ => bad fun g => h (g.2 i hi)) ?_ ?_
  · intro i hi _ hn hx
    have hy := B1 _ (at_mem (xs := ts) (i := (i : Int)) (by omega) (by omega))
    refine Ev.step (fun k => by simp only [impl_TableOk.l0]; rfl) ?_
    refine Ev.pos (by omega) (Ev.pos (by omega) (Ev.bind (ev_impl_TripOk _ hy.1 hy.2 (decide (TripP (at_ ts (i : Int)))) decide_eq_true_iff) (Ev.ite (fun g => ?_) (fun h => ev_val (hx fun g => h (decide_eq_true g.1)).symm))))
    refine Ev.pos (by omega) ?_
    rw [Int.toNat_natCast, show (0 : Int).toNat = 0 from rfl, List.drop_zero, Nat.sub_zero, wrap_succ hi (by omega)]
    have hlt : (ts.take i).length = i := by rw [List.length_take]; omega
    obtain ⟨r, e1, e2⟩ := ev_impl_tripNamed (ts.take i) (at_ ts (i : Int)).f0 (by omega)
    have e3 : 0 ≤ r ↔ ∃ j, j < i ∧ sEq (at_ ts (j : Int)).f0 (at_ ts (i : Int)).f0 = true := by
      rw [e2, hlt]
      exact ⟨fun ⟨j, hj, g⟩ => ⟨j, hj, by rw [at_take ts (by omega) (by omega)] at g; exact g⟩, fun ⟨j, hj, g⟩ => ⟨j, hj, by rw [at_take ts (by omega) (by omega)]; exact g⟩⟩
    refine Ev.bind e1 (Ev.ite (fun h => ev_val (hx fun q => ?_).symm) (fun h => hn ⟨of_decide_eq_true g, fun j hj q => h (e3.2 ⟨j, hj, q⟩)⟩))
    obtain ⟨j, hj, w⟩ := e3.1 h
    exact q.2 j hj w
  · intro hp
    refine Ev.step (fun k => by simp only [impl_TableOk.l0]; rfl) ?_
    exact Ev.neg (by omega) (ev_val (hb.2 ⟨by omega, hp⟩).symm)
theorem trips_bd (x : List S23) (b : x.length ≤ 1048576 ∧ ∀ y ∈ x, (y.f0.size ≤ 1048576 ∧ (y.f1.length ≤ 1048576))) (cv : S23 → S28) (h : ∀ y, (cv y).f0 = y.f0 ∧ (cv y).f1 = y.f1) : TableB (x.map cv) := by
  refine ⟨by rw [List.length_map]; exact b.1, fun y hy => ?_⟩
  obtain ⟨z, hz, rfl⟩ := List.mem_map.1 hy
  have := b.2 z hz
  unfold TripB
  rw [(h z).1, (h z).2]
  exact this
theorem call_bd {t : S28} (h : TripP t) {i : Int} (h0 : 0 ≤ i) (h1 : i < (t.f1.length : Int)) : (0 ≤ (at_ t.f1 i).f0 ∧ (at_ t.f1 i).f0 ≤ 29) ∧ (0 ≤ (at_ t.f1 i).f1 ∧ (at_ t.f1 i).f1 ≤ (at_ t.f1 i).f2) ∧ (at_ t.f1 i).f2 ≤ 100000 := by
  have h2 := h.2.2 i.toNat (by omega)
  unfold CallP at h2
  rw [show ((i.toNat : Nat) : Int) = i by omega] at h2
  exact ⟨h2.1, h2.2.1, h2.2.2.1⟩
def lastD (t : S28) : Int := (at_ t.f1 ((t.f1.length : Int) - 1)).f2
theorem dep_mono {t : S28} (h : TripP t) : ∀ m j, j ≤ m → m < t.f1.length → (at_ t.f1 (j : Int)).f2 ≤ (at_ t.f1 (m : Int)).f2
  | 0, j, hj, _ => by obtain rfl : j = 0 := by omega
                      exact Int.le_refl _
  | m + 1, j, hj, hm => by
    by_cases e : j = m + 1
    · rw [e]; exact Int.le_refl _
    · have ih := dep_mono h m j (by omega) (by omega)
      have h1 := h.2.2 (m + 1) hm
      unfold CallP at h1
      have h2 := (h1.2.2.2 (by omega)).1
      rw [show ((m + 1 : Nat) : Int) - 1 = (m : Int) by omega] at h2
      omega
theorem dep_last {t : S28} (h : TripP t) {i : Int} (h0 : 0 ≤ i) (h1 : i < (t.f1.length : Int)) : (at_ t.f1 i).f2 ≤ lastD t := by
  have hl := h.2.1
  have := dep_mono h (t.f1.length - 1) i.toNat (by omega) (by omega)
  rw [show ((i.toNat : Nat) : Int) = i by omega, show ((t.f1.length - 1 : Nat) : Int) = (t.f1.length : Int) - 1 by omega] at this
  exact this
theorem trip_bdd {t : S28} (h : TripP t) : TripB t := ⟨by have := h.1.1; omega, by have := h.2.1; omega⟩
/-- A loop that counts down. -/
theorem evx_down {R σ : Type} (G : Nat → Nat → σ → Option R) (Inv : Nat → σ → Prop) (C : R → Prop)
    (hstep : ∀ i s, Inv (i + 1) s → (∀ s', Inv i s' → Evx (fun k => G k i s') C) → Evx (fun k => G k (i + 1) s) C)
    (hend : ∀ s, Inv 0 s → Evx (fun k => G k 0 s) C) : ∀ n s, Inv n s → Evx (fun k => G k n s) C
  | 0, s, h => hend s h
  | n + 1, s, h => hstep n s h fun s' h' => evx_down G Inv C hstep hend n s' h'
theorem band_bd (a : Int) (n : Nat) (hn : n < 9223372036854775808) : 0 ≤ bAnd a (n : Int) ∧ bAnd a (n : Int) ≤ n := by
  unfold bAnd
  rw [i64w]
  have h : (BitVec.ofInt 64 a &&& BitVec.ofInt 64 (n : Int)).toNat ≤ n := by
    rw [BitVec.toNat_and]
    refine Nat.le_trans Nat.and_le_right ?_
    have : BitVec.ofInt 64 (n : Int) = BitVec.ofNat 64 n := by simp [BitVec.ofInt_natCast]
    rw [this, BitVec.toNat_ofNat]
    exact Nat.mod_le _ _
  rw [wrap_id (by omega) (by omega)]
  omega
theorem u8_bd {y : Int} (h : (Lit.int .u8 y).wf = true) : 0 ≤ y ∧ y ≤ 255 := by
  simp only [Lit.wf, Bool.and_eq_true, decide_eq_true_eq] at h
  have h1 : IntKind.u8.min = 0 := by decide
  have h2 : IntKind.u8.max = 255 := by decide
  omega
def CodeP (code : List Int) : Prop := code.length ≤ 1048576 ∧ ∀ y, y ∈ code → 0 ≤ y ∧ y ≤ 255
theorem tmod_bd {a n : Int} (h0 : 0 ≤ a) (hn : 0 < n) : 0 ≤ a.tmod n ∧ a.tmod n < n := by
  rw [tmod_of n h0]
  exact ⟨Int.emod_nonneg _ (by omega), Int.emod_lt_of_pos _ hn⟩
theorem code_ok {code : List Int} (h : code.length ≤ maxLen ∧ ∀ y ∈ code, (Lit.int .u8 y).wf = true) (hl : ¬ (code.length : Int) > 1048576) : CodeP code := ⟨by omega, fun y hy => u8_bd (h.2 y hy)⟩
-- sorting, told by places
section
variable {α : Type} [Inhabited α]
theorem at_ext {xs ys : List α} (hl : ys.length = xs.length) (h : ∀ k : Nat, k < xs.length → at_ ys (k : Int) = at_ xs (k : Int)) : ys = xs := by
  refine List.ext_getElem hl fun k h1 h2 => ?_
  have := h k h2
  rwa [at_nat h1, at_nat h2] at this
def swp (xs : List α) (i j : Nat) : List α := (xs.set i (at_ xs (j : Int))).set j (at_ xs (i : Int))
theorem swp_len (xs : List α) (i j : Nat) : (swp xs i j).length = xs.length := by simp [swp]
theorem swp_at {xs : List α} {i j : Nat} (k : Nat) (hi : i < xs.length) (hj : j < xs.length) : at_ (swp xs i j) (k : Int) = if k = j then at_ xs (i : Int) else if k = i then at_ xs (j : Int) else at_ xs (k : Int) := by
  unfold swp
  by_cases e : k = j
  · rw [if_pos e, e, at_set_eq (by rw [List.length_set]; exact hj)]
  · rw [if_neg e, at_set_ne (by omega) (by omega)]
    by_cases e2 : k = i
    · rw [if_pos e2, e2, at_set_eq hi]
    · rw [if_neg e2, at_set_ne (by omega) (by omega)]
/-- What stands at k in the second came from the place σ k of the first. -/
def Via (xs ys : List α) (σ : Nat → Nat) : Prop := ys.length = xs.length ∧ ∀ k : Nat, k < xs.length → at_ ys (k : Int) = at_ xs ((σ k : Nat) : Int)
theorem Via.trans {xs ys zs : List α} {σ τ υ : Nat → Nat} (h : Via xs ys σ) (h2 : Via ys zs τ) (hτ : ∀ k, k < xs.length → τ k < xs.length) (e : ∀ k, k < xs.length → σ (τ k) = υ k) : Via xs zs υ :=
  ⟨h2.1.trans h.1, fun k hk => by rw [h2.2 k (by rw [h.1]; exact hk), h.2 _ (hτ k hk), e k hk]⟩
theorem Via.congr {xs ys : List α} {σ τ : Nat → Nat} (h : Via xs ys σ) (e : ∀ k, k < xs.length → σ k = τ k) : Via xs ys τ := ⟨h.1, fun k hk => by rw [h.2 k hk, e k hk]⟩
theorem Via.id (xs : List α) {σ : Nat → Nat} (e : ∀ k, k < xs.length → σ k = k) : Via xs xs σ := ⟨rfl, fun k hk => by rw [e k hk]⟩
theorem Via.swp {xs : List α} {i j : Nat} (hi : i < xs.length) (hj : j < xs.length) {σ : Nat → Nat} (e : ∀ k, k < xs.length → σ k = if k = j then i else if k = i then j else k) : Via xs (swp xs i j) σ := by
  refine ⟨swp_len _ _ _, fun k hk => ?_⟩
  rw [swp_at k hi hj, e k hk]
  by_cases e1 : k = j
  · rw [if_pos e1, if_pos e1]
  · rw [if_neg e1, if_neg e1]
    by_cases e2 : k = i
    · rw [if_pos e2, if_pos e2]
    · rw [if_neg e2, if_neg e2]
def swI (a b n k : Nat) : Nat := if a ≤ k ∧ k < a + n then k + b - a else if b ≤ k ∧ k < b + n then k + a - b else k
def rotI (a m b k : Nat) : Nat := if a ≤ k ∧ k < a + (b - m) then k + m - a else if a + (b - m) ≤ k ∧ k < b then k - (b - m) else k
theorem rot_same {m i k : Nat} (hi : i ≤ m) : swI (m - i) m i k = rotI (m - i) m (m + i) k := by
  unfold swI rotI
  repeat' split
  all_goals omega
theorem rot_gt {m i j k : Nat} (hi : i ≤ m) (h : j < i) (hj : 0 < j) : swI (m - i) m j (rotI (m - (i - j)) m (m + j) k) = rotI (m - i) m (m + j) k := by
  unfold swI rotI
  repeat' split
  all_goals omega
theorem rot_lt {m i j k : Nat} (hi : i ≤ m) (h : i < j) (h0 : 0 < i) : swI (m - i) (m + j - i) i (rotI (m - i) m (m + (j - i)) k) = rotI (m - i) m (m + j) k := by
  unfold swI rotI
  repeat' split
  all_goals omega
theorem rotI_lt {a m b n k : Nat} (h1 : a ≤ m) (h2 : m ≤ b) (h3 : b ≤ n) (hk : k < n) : rotI a m b k < n := by
  unfold rotI
  repeat' split
  all_goals omega
theorem swI_lt {a b c n k : Nat} (h1 : a + c ≤ b) (h3 : b + c ≤ n) (hk : k < n) : swI a b c k < n := by
  unfold swI
  repeat' split
  all_goals omega
/-- Nothing outside a .. b is changed, and what stands there came from there. -/
def Out (xs ys : List α) (a b : Nat) : Prop := ys.length = xs.length ∧ (∀ k : Nat, (k < a ∨ b ≤ k) → at_ ys (k : Int) = at_ xs (k : Int)) ∧ ∀ k : Nat, a ≤ k → k < b → ∃ l : Nat, a ≤ l ∧ l < b ∧ at_ ys (k : Int) = at_ xs (l : Int)
theorem Out.refl (xs : List α) (a b : Nat) : Out xs xs a b := ⟨rfl, fun _ _ => rfl, fun k h1 h2 => ⟨k, h1, h2, rfl⟩⟩
theorem Out.mono {xs ys : List α} {a b a' b' : Nat} (h : Out xs ys a b) (h1 : a' ≤ a) (h2 : b ≤ b') : Out xs ys a' b' := by
  refine ⟨h.1, fun k hk => h.2.1 k (by omega), fun k k1 k2 => ?_⟩
  by_cases g : a ≤ k ∧ k < b
  · obtain ⟨l, l1, l2, e⟩ := h.2.2 k g.1 g.2
    exact ⟨l, by omega, by omega, e⟩
  · exact ⟨k, k1, k2, h.2.1 k (by omega)⟩
theorem Out.trans {xs ys zs : List α} {a b : Nat} (h : Out xs ys a b) (h2 : Out ys zs a b) : Out xs zs a b := by
  refine ⟨h2.1.trans h.1, fun k hk => (h2.2.1 k hk).trans (h.2.1 k hk), fun k k1 k2 => ?_⟩
  obtain ⟨l, l1, l2, e⟩ := h2.2.2 k k1 k2
  obtain ⟨l', m1, m2, e'⟩ := h.2.2 l l1 l2
  exact ⟨l', m1, m2, e.trans e'⟩
theorem Out.via {xs ys : List α} {a b : Nat} {σ : Nat → Nat} (h : Via xs ys σ) (hb : b ≤ xs.length) (h1 : ∀ k, k < xs.length → (k < a ∨ b ≤ k) → σ k = k) (h2 : ∀ k, a ≤ k → k < b → a ≤ σ k ∧ σ k < b) : Out xs ys a b := by
  refine ⟨h.1, fun k hk => ?_, fun k k1 k2 => ⟨σ k, (h2 k k1 k2).1, (h2 k k1 k2).2, h.2 k (by omega)⟩⟩
  by_cases g : k < xs.length
  · rw [h.2 k g, h1 k g hk]
  · rw [at_getD, at_getD, List.getD_eq_getElem?_getD, List.getD_eq_getElem?_getD, List.getElem?_eq_none (by rw [h.1]; omega), List.getElem?_eq_none (by omega)]
def SortedOn (lt : α → α → Prop) (xs : List α) (a b : Nat) : Prop := ∀ p q : Nat, a ≤ p → p < q → q < b → lt (at_ xs (p : Int)) (at_ xs (q : Int))
def BeforeP (pos : α → α → Prop) (xs : List α) (a m b : Nat) : Prop := ∀ p q : Nat, a ≤ p → p < m → m ≤ q → q < b → pos (at_ xs (p : Int)) (at_ xs (q : Int))
def OnP (P : α → Prop) (xs : List α) (a b : Nat) : Prop := ∀ p : Nat, a ≤ p → p < b → P (at_ xs (p : Int))
theorem OnP.out {P : α → Prop} {xs ys : List α} {a b : Nat} (h : OnP P xs a b) (ho : Out xs ys a b) : OnP P ys a b := fun p h1 h2 => by
  obtain ⟨l, l1, l2, e⟩ := ho.2.2 p h1 h2
  rw [e]; exact h l l1 l2
end
section
variable {α : Type}
/-- The order: by the key, then as they stood. -/
def LtK (key : α → Int) (pos : α → α → Prop) (u v : α) : Prop := key u < key v ∨ (key u = key v ∧ pos u v)
structure OrdP (key : α → Int) (pos : α → α → Prop) : Prop where
  tr : ∀ u v w, pos u v → pos v w → pos u w
theorem LtK.trans {key : α → Int} {pos : α → α → Prop} (h : OrdP key pos) {u v w : α} (h1 : LtK key pos u v) (h2 : LtK key pos v w) : LtK key pos u w := by
  unfold LtK at *
  rcases h1 with h1 | ⟨h1, g1⟩
  · rcases h2 with h2 | ⟨h2, _⟩
    · exact .inl (by omega)
    · exact .inl (by omega)
  · rcases h2 with h2 | ⟨h2, g2⟩
    · exact .inl (by omega)
    · exact .inr ⟨by omega, h.tr _ _ _ g1 g2⟩
theorem LtK.less {key : α → Int} {pos : α → α → Prop} {u v : α} (h : key u < key v) : LtK key pos u v := .inl h
theorem LtK.not {key : α → Int} {pos : α → α → Prop} {u v : α} (hp : pos v u) (h : ¬ key u < key v) : LtK key pos v u := by
  unfold LtK
  by_cases e : key v = key u
  · exact .inr ⟨e, hp⟩
  · exact .inl (by omega)
def CmpP {γ : Type} (f : α → α → γ → Option (Int × γ)) (P : α → Prop) (key : α → Int) (cap : γ) : Prop := ∀ u v, P u → P v → ∃ c, f u v cap = some (c, cap) ∧ (c < 0 ↔ key u < key v)
end
theorem half_ok (a b : Nat) (h : a + b < 4611686018427387904) : IntKind.i64.wrap ((IntKind.u64.wrap (wrap64 ((a : Int) + (b : Int)))).fdiv (2 ^ 1)) = (((a + b) / 2 : Nat) : Int) := by
  rw [wrap_id (by omega) (by omega)]
  have e : IntKind.u64.wrap ((a : Int) + (b : Int)) = (a : Int) + (b : Int) := by
    show ((a : Int) + (b : Int)) % 18446744073709551616 = _
    omega
  rw [e, show ((2 : Int) ^ 1) = 2 from rfl, Int.fdiv_eq_ediv_of_nonneg _ (by omega), i64w, wrap_id (by omega) (by omega)]
  omega
abbrev El := S58
abbrev Cap := List S28
abbrev cmpF := impl_Board_1.f
theorem evx_swapRange (xs : List El) (a b n : Nat) (cap : Cap) (h1 : a + n ≤ b) (h2 : b + n ≤ xs.length) (hl : xs.length ≤ 1048576) : Evx (fun k => slices_swapRangeCmpFunc_1.f k xs (a : Int) (b : Int) (n : Int) cap) (fun r => r.2 = cap ∧ Via xs r.1 (swI a b n)) := by
  unfold slices_swapRangeCmpFunc_1.f
  refine evx_loop (fun k i (zs : List El) => slices_swapRangeCmpFunc_1.l0 k (a : Int) (b : Int) (n : Int) cap zs (i : Int)) n (fun i zs => Via xs zs (swI a b i)) _ ?_ ?_ xs (Via.id xs fun k _ => by unfold swI; rw [if_neg (by omega), if_neg (by omega)])
  · intro i zs hi hI hn
    have hz := hI.1
    refine Evx.step (fun k => by simp only [slices_swapRangeCmpFunc_1.l0]; rfl) ?_
    rw [wrap_succ hi (by omega), show wrap64 ((b : Int) + (i : Int)) = ((b + i : Nat) : Int) by rw [wrap_id (by omega) (by omega)]; omega, show wrap64 ((a : Int) + (i : Int)) = ((a + i : Nat) : Int) by rw [wrap_id (by omega) (by omega)]; omega, Int.toNat_natCast, Int.toNat_natCast]
    refine Evx.pos (by omega) (Evx.pos (by omega) (Evx.pos (by omega) (Evx.pos (by omega) (Evx.pos (by omega) ?_))))
    refine hn (swp zs (a + i) (b + i)) (Via.trans hI (Via.swp (σ := fun k => if k = b + i then a + i else if k = a + i then b + i else k) (by omega) (by omega) (fun _ _ => rfl)) (fun k hk => ?_) (fun k hk => ?_))
    · repeat' split
      all_goals omega
    · unfold swI
      repeat' split
      all_goals omega
  · intro zs hI
    refine Evx.step (fun k => by simp only [slices_swapRangeCmpFunc_1.l0]; rfl) ?_
    exact Evx.neg (by omega) (Evx.val ⟨rfl, hI⟩)
theorem evx_rotate0 (m : Nat) (cap : Cap) : ∀ (d i j : Nat) (xs : List El), i + j ≤ d → 1 ≤ i → 1 ≤ j → i ≤ m → m + j ≤ xs.length → xs.length ≤ 1048576 → Evx (fun k => slices_rotateCmpFunc_1.l0 k (m : Int) xs cap (i : Int) (j : Int)) (fun r => r.2 = cap ∧ Via xs r.1 (rotI (m - i) m (m + j))) := by
  intro d
  induction d with
  | zero => intro i j xs h0 h1 h2; omega
  | succ d ih =>
    intro i j xs h0 h1 h2 h3 h4 h5
    refine Evx.step (fun k => by simp only [slices_rotateCmpFunc_1.l0]; rfl) ?_
    rw [show wrap64 ((m : Int) - (i : Int)) = ((m - i : Nat) : Int) by rw [wrap_id (by omega) (by omega)]; omega]
    refine Evx.ite (fun e => ?_) (fun e => Evx.ite (fun g => ?_) (fun g => ?_))
    · obtain rfl : i = j := by omega
      exact Evx.bind (evx_swapRange xs (m - i) m i cap (by omega) (by omega) h5) (fun r ⟨r1, r2⟩ => Evx.val ⟨r1, r2.congr fun k _ => rot_same h3⟩)
    · refine Evx.bind (evx_swapRange xs (m - i) m j cap (by omega) (by omega) h5) (fun r ⟨r1, r2⟩ => ?_)
      rw [r1, show wrap64 ((i : Int) - (j : Int)) = ((i - j : Nat) : Int) by rw [wrap_id (by omega) (by omega)]; omega]
      have hr := r2.1
      refine Evx.mono (ih (i - j) j r.1 (by omega) (by omega) h2 (by omega) (by omega) (by omega)) (fun q ⟨q1, q2⟩ => ⟨q1, Via.trans r2 q2 (fun k hk => rotI_lt (by omega) (by omega) h4 hk) (fun k hk => rot_gt h3 (by omega) (by omega))⟩)
    · rw [show wrap64 (wrap64 ((m : Int) + (j : Int)) - (i : Int)) = ((m + j - i : Nat) : Int) by rw [wrap_id (x := (m : Int) + (j : Int)) (by omega) (by omega), wrap_id (by omega) (by omega)]; omega]
      refine Evx.bind (evx_swapRange xs (m - i) (m + j - i) i cap (by omega) (by omega) h5) (fun r ⟨r1, r2⟩ => ?_)
      rw [r1, show wrap64 ((j : Int) - (i : Int)) = ((j - i : Nat) : Int) by rw [wrap_id (by omega) (by omega)]; omega]
      have hr := r2.1
      refine Evx.mono (ih i (j - i) r.1 (by omega) h1 (by omega) h3 (by omega) (by omega)) (fun q ⟨q1, q2⟩ => ⟨q1, Via.trans r2 q2 (fun k hk => rotI_lt (by omega) (by omega) (by omega) hk) (fun k hk => rot_lt h3 (by omega) (by omega))⟩)
theorem evx_rotate (xs : List El) (a m b : Nat) (cap : Cap) (h1 : a < m) (h2 : m < b) (h3 : b ≤ xs.length) (hl : xs.length ≤ 1048576) : Evx (fun k => slices_rotateCmpFunc_1.f k xs (a : Int) (m : Int) (b : Int) cap) (fun r => r.2 = cap ∧ Via xs r.1 (rotI a m b)) := by
  unfold slices_rotateCmpFunc_1.f
  rw [show wrap64 ((m : Int) - (a : Int)) = ((m - a : Nat) : Int) by rw [wrap_id (by omega) (by omega)]; omega, show wrap64 ((b : Int) - (m : Int)) = ((b - m : Nat) : Int) by rw [wrap_id (by omega) (by omega)]; omega]
  have := evx_rotate0 m cap (m - a + (b - m)) (m - a) (b - m) xs (Nat.le_refl _) (by omega) (by omega) (by omega) (by omega) hl
  rw [show m - (m - a) = a by omega, show m + (b - m) = b by omega] at this
  exact this
/-- Insertion, from places that stand as they stood at first. -/
theorem evx_insertion {P : El → Prop} {key : El → Int} {pos : El → El → Prop} {cap : Cap} (hO : OrdP key pos) (hC : CmpP cmpF P key cap) (xs : List El) (a b : Nat) (h1 : a < b) (h2 : b ≤ xs.length) (hl : xs.length ≤ 1048576) (hP : OnP P xs a b) (hS : SortedOn pos xs a b) : Evx (fun k => slices_insertionSortCmpFunc_1.f k xs (a : Int) (b : Int) cap) (fun r => r.2 = cap ∧ Out xs r.1 a b ∧ SortedOn (LtK key pos) r.1 a b) := by
  unfold slices_insertionSortCmpFunc_1.f
  rw [wrap_id (x := (a : Int) + 1) (by omega) (by omega)]
  have key1 := evx_loop (fun k i (zs : List El) => slices_insertionSortCmpFunc_1.l0 k (a : Int) (b : Int) zs cap ((a + 1 + i : Nat) : Int)) (b - (a + 1)) (fun i zs => Out xs zs a (a + 1 + i) ∧ SortedOn (LtK key pos) zs a (a + 1 + i)) (fun r => r.2 = cap ∧ Out xs r.1 a b ∧ SortedOn (LtK key pos) r.1 a b) ?_ ?_ xs ⟨Out.refl xs _ _, fun p q p1 p2 p3 => by omega⟩
  · simpa using key1
  · intro i ys hi ⟨hI, hT⟩ hn
    have hy := hI.1
    refine Evx.step (fun k => by simp only [slices_insertionSortCmpFunc_1.l0]; rfl) ?_
    refine Evx.pos (by omega) ?_
    -- the one that goes down
    have hx : at_ ys ((a + 1 + i : Nat) : Int) = at_ xs ((a + 1 + i : Nat) : Int) := hI.2.1 _ (by omega)
    have hpos : ∀ p : Nat, a ≤ p → p < a + 1 + i → pos (at_ ys (p : Int)) (at_ xs ((a + 1 + i : Nat) : Int)) := fun p p1 p2 => by
      obtain ⟨l, l1, l2, e⟩ := hI.2.2 p p1 p2
      rw [e]; exact hS l _ l1 l2 (by omega)
    have fin : ∀ zs : List El, Out ys zs a (a + 1 + (i + 1)) → SortedOn (LtK key pos) zs a (a + 1 + (i + 1)) → Evx (fun k => slices_insertionSortCmpFunc_1.l0 k (a : Int) (b : Int) zs cap (wrap64 (((a + 1 + i : Nat) : Int) + 1))) (fun r => r.2 = cap ∧ Out xs r.1 a b ∧ SortedOn (LtK key pos) r.1 a b) := fun zs z1 z2 => by
      rw [wrap_id (x := ((a + 1 + i : Nat) : Int) + 1) (by omega) (by omega), show ((a + 1 + i : Nat) : Int) + 1 = ((a + 1 + (i + 1) : Nat) : Int) by omega]
      exact hn zs ⟨Out.trans (hI.mono (by omega) (by omega)) z1, z2⟩
    have key2 := evx_down (fun k d (zs : List El) => slices_insertionSortCmpFunc_1.l1 k (a : Int) (b : Int) ((a + 1 + i : Nat) : Int) zs cap ((a + d : Nat) : Int))
      (fun d zs => d ≤ 1 + i ∧ Out ys zs a (a + 1 + (i + 1)) ∧ at_ zs ((a + d : Nat) : Int) = at_ xs ((a + 1 + i : Nat) : Int) ∧ (∀ p : Nat, a ≤ p → p < a + 1 + (i + 1) → p ≠ a + d → pos (at_ zs (p : Int)) (at_ xs ((a + 1 + i : Nat) : Int))) ∧ (∀ p q : Nat, a ≤ p → p < q → q < a + 1 + (i + 1) → p ≠ a + d → q ≠ a + d → LtK key pos (at_ zs (p : Int)) (at_ zs (q : Int))) ∧ (∀ q : Nat, a + d < q → q < a + 1 + (i + 1) → LtK key pos (at_ xs ((a + 1 + i : Nat) : Int)) (at_ zs (q : Int))))
      (fun r => r.2 = cap ∧ Out xs r.1 a b ∧ SortedOn (LtK key pos) r.1 a b) ?_ ?_ (1 + i) ys ⟨by omega, Out.refl ys _ _, by rw [show a + (1 + i) = a + 1 + i by omega]; exact hx, fun p p1 p2 p3 => hpos p p1 (by omega), fun p q p1 p2 p3 p4 p5 => hT p q p1 p2 (by omega), fun q q1 q2 => by omega⟩
    · rw [show a + (1 + i) = a + 1 + i by omega] at key2; exact key2
    · rintro d zs ⟨d1, d2, d3, d4, d5, d6⟩ hnx
      have hz := d2.1
      refine Evx.step (fun k => by simp only [slices_insertionSortCmpFunc_1.l1]; rfl) ?_
      rw [show wrap64 (((a + (d + 1) : Nat) : Int) - 1) = ((a + d : Nat) : Int) by rw [wrap_id (by omega) (by omega)]; omega, Int.toNat_natCast, Int.toNat_natCast]
      have P1 : P (at_ zs ((a + (d + 1) : Nat) : Int)) := by rw [d3]; exact hP _ (by omega) (by omega)
      have P2 : P (at_ zs ((a + d : Nat) : Int)) := by
        obtain ⟨l, l1, l2, e⟩ := (Out.trans (hI.mono (Nat.le_refl a) (show a + 1 + i ≤ a + 1 + (i + 1) by omega)) d2).2.2 (a + d) (by omega) (by omega)
        rw [e]; exact hP _ l1 (by omega)
      obtain ⟨c, c1, c2⟩ := hC _ _ P1 P2
      refine Evx.pos (by omega) (Evx.pos (by omega) (Evx.pos (by omega) (Evx.pos (by omega) (Evx.pos (by omega) (Evx.opt c1 (Evx.ite (fun g => ?_) (fun g => ?_)))))))
      · have hlt := LtK.less (pos := pos) (c2.1 g)
        rw [d3] at hlt
        have hsw := fun k => swp_at (xs := zs) (i := a + (d + 1)) (j := a + d) k (by omega) (by omega)
        refine hnx (swp zs (a + (d + 1)) (a + d)) ⟨by omega, Out.trans d2 (Out.via (Via.swp (σ := fun k => if k = a + d then a + (d + 1) else if k = a + (d + 1) then a + d else k) (by omega) (by omega) (fun _ _ => rfl)) (by omega) (fun k _ hk => by (repeat' split) <;> omega) (fun k k1 k2 => by (repeat' split) <;> omega)), ?_, ?_, ?_, ?_⟩
        · rw [hsw, if_pos rfl]; exact d3
        · intro p p1 p2 p3
          rw [hsw, if_neg p3]
          split
          · exact d4 _ (by omega) (by omega) (by omega)
          · exact d4 _ p1 p2 (by omega)
        · intro p q p1 p2 p3 p4 p5
          rw [hsw, hsw, if_neg p4, if_neg p5]
          by_cases e1 : p = a + (d + 1)
          · rw [if_pos e1, if_neg (by omega)]
            exact d5 _ _ (by omega) (by omega) p3 (by omega) (by omega)
          · rw [if_neg e1]
            by_cases e2 : q = a + (d + 1)
            · rw [if_pos e2]
              exact d5 _ _ p1 (by omega) (by omega) e1 (by omega)
            · rw [if_neg e2]
              exact d5 _ _ p1 p2 p3 e1 e2
        · intro q q1 q2
          rw [hsw, if_neg (by omega)]
          by_cases e2 : q = a + (d + 1)
          · rw [if_pos e2]; exact hlt
          · rw [if_neg e2]; exact d6 q (by omega) q2
      · have hge : LtK key pos (at_ zs ((a + d : Nat) : Int)) (at_ xs ((a + 1 + i : Nat) : Int)) := by
          refine LtK.not (d4 _ (by omega) (by omega) (by omega)) ?_
          rw [← d3]
          exact fun w => g (c2.2 w)
        refine fin zs d2 (fun p q p1 p2 p3 => ?_)
        by_cases e1 : p = a + (d + 1)
        · rw [e1, d3]; exact d6 q (by omega) p3
        · by_cases e2 : q = a + (d + 1)
          · rw [e2, d3]
            by_cases e3 : p = a + d
            · rw [e3]; exact hge
            · exact LtK.trans hO (d5 p (a + d) p1 (by omega) (by omega) e1 (by omega)) hge
          · exact d5 p q p1 p2 p3 e1 e2
    · rintro zs ⟨d1, d2, d3, d4, d5, d6⟩
      refine Evx.step (fun k => by simp only [slices_insertionSortCmpFunc_1.l1]; rfl) ?_
      refine Evx.neg (by omega) (fin zs d2 (fun p q p1 p2 p3 => ?_))
      by_cases e1 : p = a + 0
      · rw [e1, d3]; exact d6 q (by omega) p3
      · exact d5 p q p1 p2 p3 e1 (by omega)
  · intro ys ⟨hI, hT⟩
    rw [show a + 1 + (b - (a + 1)) = b by omega] at hI hT
    refine Evx.step (fun k => by simp only [slices_insertionSortCmpFunc_1.l0]; rfl) ?_
    exact Evx.neg (by omega) (Evx.val ⟨rfl, hI, hT⟩)
section
variable {P : El → Prop} {key : El → Int} {pos : El → El → Prop} {cap : Cap}
theorem sort_le (hO : OrdP key pos) {xs : List El} {a b p q : Nat} (h : SortedOn (LtK key pos) xs a b) (h1 : a ≤ p) (h2 : p ≤ q) (h3 : q < b) {v : El} (hv : LtK key pos (at_ xs (q : Int)) v) : LtK key pos (at_ xs (p : Int)) v := by
  by_cases e : p = q
  · rw [e]; exact hv
  · exact LtK.trans hO (h p q h1 (by omega) h3) hv
theorem sort_ge (hO : OrdP key pos) {xs : List El} {a b p q : Nat} (h : SortedOn (LtK key pos) xs a b) (h1 : a ≤ p) (h2 : p ≤ q) (h3 : q < b) {v : El} (hv : LtK key pos v (at_ xs (p : Int))) : LtK key pos v (at_ xs (q : Int)) := by
  by_cases e : p = q
  · rw [← e]; exact hv
  · exact LtK.trans hO hv (h p q h1 (by omega) h3)
/-- One at the left end is put in its place. -/
theorem evx_merge_l (hO : OrdP key pos) (hC : CmpP cmpF P key cap) (xs : List El) (a b : Nat) (h1 : a + 1 < b) (h2 : b ≤ xs.length) (hl : xs.length ≤ 1048576) (hP : OnP P xs a b) (hB : BeforeP pos xs a (a + 1) b) (hS : SortedOn (LtK key pos) xs (a + 1) b) : ∀ (d i j : Nat), j - i ≤ d → a + 1 ≤ i → i ≤ j → j ≤ b → (∀ k : Nat, a + 1 ≤ k → k < i → LtK key pos (at_ xs (k : Int)) (at_ xs (a : Int))) → (∀ k : Nat, j ≤ k → k < b → LtK key pos (at_ xs (a : Int)) (at_ xs (k : Int))) → Evx (fun k => slices_symMergeCmpFunc_1.l0 k xs (a : Int) cap (i : Int) (j : Int)) (fun r => r.2 = cap ∧ Out xs r.1 a b ∧ SortedOn (LtK key pos) r.1 a b) := by
  have fin : ∀ i : Nat, a + 1 ≤ i → i ≤ b → (∀ k : Nat, a + 1 ≤ k → k < i → LtK key pos (at_ xs (k : Int)) (at_ xs (a : Int))) → (∀ k : Nat, i ≤ k → k < b → LtK key pos (at_ xs (a : Int)) (at_ xs (k : Int))) → Evx (fun k => slices_symMergeCmpFunc_1.l1 k cap (i : Int) xs (a : Int)) (fun r => r.2 = cap ∧ Out xs r.1 a b ∧ SortedOn (LtK key pos) r.1 a b) := by
    intro i i1 i2 hA hZ
    refine evx_loop (fun k c (zs : List El) => slices_symMergeCmpFunc_1.l1 k cap (i : Int) zs ((a + c : Nat) : Int)) (i - 1 - a) (fun c zs => Via xs zs (fun p => if p < a then p else if p < a + c then p + 1 else if p = a + c then a else p)) _ ?_ ?_ xs (Via.id xs fun k _ => by (repeat' split) <;> omega)
    · intro c zs hc hI hn
      have hz := hI.1
      refine Evx.step (fun k => by simp only [slices_symMergeCmpFunc_1.l1]; rfl) ?_
      rw [show wrap64 (((a + c : Nat) : Int) + 1) = ((a + (c + 1) : Nat) : Int) by rw [wrap_id (by omega) (by omega)]; omega, wrap_id (x := (i : Int) - 1) (by omega) (by omega), Int.toNat_natCast, Int.toNat_natCast]
      refine Evx.pos (by omega) (Evx.pos (by omega) (Evx.pos (by omega) (Evx.pos (by omega) (Evx.pos (by omega) ?_))))
      refine hn (swp zs (a + c) (a + (c + 1))) (Via.trans hI (Via.swp (σ := fun k => if k = a + (c + 1) then a + c else if k = a + c then a + (c + 1) else k) (by omega) (by omega) (fun _ _ => rfl)) (fun k hk => by (repeat' split) <;> omega) (fun k hk => by (repeat' split) <;> omega))
    · intro zs hI
      refine Evx.step (fun k => by simp only [slices_symMergeCmpFunc_1.l1]; rfl) ?_
      rw [wrap_id (x := (i : Int) - 1) (by omega) (by omega)]
      refine Evx.neg (by omega) (Evx.val ⟨rfl, Out.via hI h2 (fun k hk g => by (repeat' split) <;> omega) (fun k k1 k2 => by (repeat' split) <;> omega), fun p q p1 p2 p3 => ?_⟩)
      rw [hI.2 p (by omega), hI.2 q (by omega)]
      dsimp only
      rw [if_neg (show ¬ p < a by omega), if_neg (show ¬ q < a by omega)]
      by_cases e1 : p < a + (i - 1 - a)
      · rw [if_pos e1]
        by_cases e2 : q < a + (i - 1 - a)
        · rw [if_pos e2]; exact hS _ _ (by omega) (by omega) (by omega)
        · rw [if_neg e2]
          by_cases e3 : q = a + (i - 1 - a)
          · rw [if_pos e3]; exact hA _ (by omega) (by omega)
          · rw [if_neg e3]; exact hS _ _ (by omega) (by omega) (by omega)
      · rw [if_neg e1, if_neg (show ¬ q < a + (i - 1 - a) by omega), if_neg (show ¬ q = a + (i - 1 - a) by omega)]
        by_cases e2 : p = a + (i - 1 - a)
        · rw [if_pos e2]; exact hZ _ (by omega) (by omega)
        · rw [if_neg e2]; exact hS _ _ (by omega) (by omega) (by omega)
  intro d
  induction d with
  | zero =>
    intro i j h0 i1 i2 i3 hA hZ
    obtain rfl : i = j := by omega
    refine Evx.step (fun k => by simp only [slices_symMergeCmpFunc_1.l0]; rfl) ?_
    exact Evx.neg (by omega) (fin i i1 i3 hA hZ)
  | succ d ih =>
    intro i j h0 i1 i2 i3 hA hZ
    refine Evx.step (fun k => by simp only [slices_symMergeCmpFunc_1.l0]; rfl) ?_
    refine Evx.ite (fun g => ?_) (fun g => by
      obtain rfl : i = j := by omega
      exact fin i i1 i3 hA hZ)
    rw [half_ok i j (by omega)]
    generalize hh : (i + j) / 2 = h
    have hb : i ≤ h ∧ h < j := by omega
    obtain ⟨c, c1, c2⟩ := hC _ _ (hP h (by omega) (by omega)) (hP a (by omega) (by omega))
    refine Evx.pos (by omega) (Evx.pos (by omega) (Evx.pos (by omega) (Evx.pos (by omega) (Evx.opt c1 (Evx.ite (fun q => ?_) (fun q => ?_))))))
    · rw [wrap_succ (n := 1048576) (by omega) (by omega)]
      exact ih (h + 1) j (by omega) (by omega) (by omega) i3 (fun k k1 k2 => sort_le hO hS k1 (by omega) (by omega) (LtK.less (c2.1 q))) hZ
    · exact ih i h (by omega) i1 (by omega) (by omega) hA (fun k k1 k2 => sort_ge hO hS (by omega) k1 k2 (LtK.not (hB a h (by omega) (by omega) (by omega) (by omega)) (fun w => q (c2.2 w))))
/-- One at the right end is put in its place. -/
theorem evx_merge_r (hO : OrdP key pos) (hC : CmpP cmpF P key cap) (xs : List El) (a m : Nat) (h1 : a < m) (h2 : m + 1 ≤ xs.length) (hl : xs.length ≤ 1048576) (hP : OnP P xs a (m + 1)) (hB : BeforeP pos xs a m (m + 1)) (hS : SortedOn (LtK key pos) xs a m) : ∀ (d i j : Nat), j - i ≤ d → a ≤ i → i ≤ j → j ≤ m → (∀ k : Nat, a ≤ k → k < i → LtK key pos (at_ xs (k : Int)) (at_ xs (m : Int))) → (∀ k : Nat, j ≤ k → k < m → LtK key pos (at_ xs (m : Int)) (at_ xs (k : Int))) → Evx (fun k => slices_symMergeCmpFunc_1.l2 k xs (m : Int) cap (i : Int) (j : Int)) (fun r => r.2 = cap ∧ Out xs r.1 a (m + 1) ∧ SortedOn (LtK key pos) r.1 a (m + 1)) := by
  have fin : ∀ i : Nat, a ≤ i → i ≤ m → (∀ k : Nat, a ≤ k → k < i → LtK key pos (at_ xs (k : Int)) (at_ xs (m : Int))) → (∀ k : Nat, i ≤ k → k < m → LtK key pos (at_ xs (m : Int)) (at_ xs (k : Int))) → Evx (fun k => slices_symMergeCmpFunc_1.l3 k cap (i : Int) xs (m : Int)) (fun r => r.2 = cap ∧ Out xs r.1 a (m + 1) ∧ SortedOn (LtK key pos) r.1 a (m + 1)) := by
    intro i i1 i2 hA hZ
    have key1 := evx_down (fun k c (zs : List El) => slices_symMergeCmpFunc_1.l3 k cap (i : Int) zs ((i + c : Nat) : Int)) (fun c zs => i + c ≤ m ∧ Via xs zs (fun p => if p < i + c then p else if p = i + c then m else if p ≤ m then p - 1 else p)) (fun r => r.2 = cap ∧ Out xs r.1 a (m + 1) ∧ SortedOn (LtK key pos) r.1 a (m + 1)) ?_ ?_ (m - i) xs ⟨by omega, Via.id xs fun k _ => by (repeat' split) <;> omega⟩
    · rw [show i + (m - i) = m by omega] at key1; exact key1
    · rintro c zs ⟨hc, hI⟩ hn
      have hz := hI.1
      refine Evx.step (fun k => by simp only [slices_symMergeCmpFunc_1.l3]; rfl) ?_
      rw [show wrap64 (((i + (c + 1) : Nat) : Int) - 1) = ((i + c : Nat) : Int) by rw [wrap_id (by omega) (by omega)]; omega, Int.toNat_natCast, Int.toNat_natCast]
      refine Evx.pos (by omega) (Evx.pos (by omega) (Evx.pos (by omega) (Evx.pos (by omega) (Evx.pos (by omega) ?_))))
      refine hn (swp zs (i + (c + 1)) (i + c)) ⟨by omega, Via.trans hI (Via.swp (σ := fun k => if k = i + c then i + (c + 1) else if k = i + (c + 1) then i + c else k) (by omega) (by omega) (fun _ _ => rfl)) (fun k hk => by (repeat' split) <;> omega) (fun k hk => by (repeat' split) <;> omega)⟩
    · rintro zs ⟨_, hI⟩
      refine Evx.step (fun k => by simp only [slices_symMergeCmpFunc_1.l3]; rfl) ?_
      refine Evx.neg (by omega) (Evx.val ⟨rfl, Out.via hI h2 (fun k hk g => by (repeat' split) <;> omega) (fun k k1 k2 => by (repeat' split) <;> omega), fun p q p1 p2 p3 => ?_⟩)
      rw [hI.2 p (by omega), hI.2 q (by omega)]
      dsimp only
      by_cases e1 : p < i + 0
      · rw [if_pos e1]
        by_cases e2 : q < i + 0
        · rw [if_pos e2]; exact hS _ _ p1 p2 (by omega)
        · rw [if_neg e2]
          by_cases e3 : q = i + 0
          · rw [if_pos e3]; exact hA _ p1 (by omega)
          · rw [if_neg e3, if_pos (by omega)]; exact hS _ _ p1 (by omega) (by omega)
      · rw [if_neg e1, if_neg (by omega : ¬ q < i + 0), if_neg (by omega : ¬ q = i + 0), if_pos (by omega : q ≤ m)]
        by_cases e2 : p = i + 0
        · rw [if_pos e2]; exact hZ _ (by omega) (by omega)
        · rw [if_neg e2, if_pos (by omega)]; exact hS _ _ (by omega) (by omega) (by omega)
  intro d
  induction d with
  | zero =>
    intro i j h0 i1 i2 i3 hA hZ
    obtain rfl : i = j := by omega
    refine Evx.step (fun k => by simp only [slices_symMergeCmpFunc_1.l2]; rfl) ?_
    exact Evx.neg (by omega) (fin i i1 i3 hA hZ)
  | succ d ih =>
    intro i j h0 i1 i2 i3 hA hZ
    refine Evx.step (fun k => by simp only [slices_symMergeCmpFunc_1.l2]; rfl) ?_
    refine Evx.ite (fun g => ?_) (fun g => by
      obtain rfl : i = j := by omega
      exact fin i i1 i3 hA hZ)
    rw [half_ok i j (by omega)]
    generalize hh : (i + j) / 2 = h
    have hb : i ≤ h ∧ h < j := by omega
    obtain ⟨c, c1, c2⟩ := hC _ _ (hP m (by omega) (by omega)) (hP h (by omega) (by omega))
    refine Evx.pos (by omega) (Evx.pos (by omega) (Evx.pos (by omega) (Evx.pos (by omega) (Evx.opt c1 (Evx.ite (fun q => ?_) (fun q => ?_))))))
    · exact ih i h (by omega) i1 (by omega) (by omega) hA (fun k k1 k2 => sort_ge hO hS (by omega) k1 k2 (LtK.less (c2.1 q)))
    · rw [wrap_succ (n := 1048576) (by omega) (by omega)]
      exact ih (h + 1) j (by omega) (by omega) (by omega) i3 (fun k k1 k2 => sort_le hO hS k1 (by omega) (by omega) (LtK.not (hB h m (by omega) (by omega) (by omega) (by omega)) (fun w => q (c2.2 w)))) hZ
/-- What merging is asked for. -/
def MergeP (P : El → Prop) (key : El → Int) (pos : El → El → Prop) (xs : List El) (a m b : Nat) : Prop := OnP P xs a b ∧ BeforeP pos xs a m b ∧ SortedOn (LtK key pos) xs a m ∧ SortedOn (LtK key pos) xs m b
theorem evx_symMerge (hO : OrdP key pos) (hC : CmpP cmpF P key cap) : ∀ (d a m b : Nat) (xs : List El), b - a ≤ d → a < m → m < b → b ≤ xs.length → xs.length ≤ 1048576 → MergeP P key pos xs a m b → Evx (fun k => slices_symMergeCmpFunc_1.f k xs (a : Int) (m : Int) (b : Int) cap) (fun r => r.2 = cap ∧ Out xs r.1 a b ∧ SortedOn (LtK key pos) r.1 a b) := by
  intro d
  induction d with
  | zero => intro a m b xs h0 h1 h2; omega
  | succ d ih =>
    intro a m b xs h0 h1 h2 h3 h4 ⟨hP, hB, hL, hR⟩
    refine Evx.step (fun k => by simp only [slices_symMergeCmpFunc_1.f]; rfl) ?_
    rw [wrap_id (x := (m : Int) - (a : Int)) (by omega) (by omega), wrap_id (x := (b : Int) - (m : Int)) (by omega) (by omega)]
    refine Evx.ite (fun g => ?_) (fun g1 => Evx.ite (fun g => ?_) (fun g2 => ?_))
    · obtain rfl : m = a + 1 := by omega
      exact evx_merge_l hO hC xs a b (by omega) h3 h4 hP hB hR (b - (a + 1)) (a + 1) b (by omega) (by omega) (by omega) (by omega) (fun k k1 k2 => by omega) (fun k k1 k2 => by omega)
    · obtain rfl : b = m + 1 := by omega
      exact evx_merge_r hO hC xs a m h1 h3 h4 hP hB hL (m - a) a m (by omega) (by omega) (by omega) (by omega) (fun k k1 k2 => by omega) (fun k k1 k2 => by omega)
    rw [half_ok a b (by omega)]
    have hc0 : 2 * ((a + b) / 2) ≤ a + b ∧ a + b < 2 * ((a + b) / 2) + 2 := by omega
    have hhalf := half_ok a b (by omega)
    generalize (a + b) / 2 = c at hc0 hhalf ⊢
    -- the two halves
    have tail : ∀ (s e : Nat) (ys zs : List El), c + m = e + s → a ≤ s → s ≤ m → m ≤ e → e ≤ b → Via xs ys (rotI s m e) → (∀ u v : Nat, a ≤ u → u < c → c ≤ v → v < b → LtK key pos (at_ ys (u : Int)) (at_ ys (v : Int))) → MergeP P key pos ys c e b → Out ys zs a c → SortedOn (LtK key pos) zs a c → Evx (fun k => (if (c : Int) < (e : Int) then (if (e : Int) < (b : Int) then ((slices_symMergeCmpFunc_1.f k zs (c : Int) (e : Int) (b : Int) cap).bind fun x21 => (some (x21.1, x21.2))) else (some (zs, cap))) else (some (zs, cap)))) (fun r => r.2 = cap ∧ Out xs r.1 a b ∧ SortedOn (LtK key pos) r.1 a b) := by
      intro s e ys zs hse s1 s2 e1 e2 hV hSep hM hZ hZs
      have hOx : Out xs ys a b := Out.via hV h3 (fun k hk g => by unfold rotI; (repeat' split) <;> omega) (fun k k1 k2 => by unfold rotI; (repeat' split) <;> omega)
      have done : ∀ ws : List El, Out zs ws c b → SortedOn (LtK key pos) ws c b → Out xs ws a b ∧ SortedOn (LtK key pos) ws a b := by
        intro ws w1 w2
        refine ⟨Out.trans hOx (Out.trans (hZ.mono (Nat.le_refl _) (by omega)) (w1.mono (by omega) (Nat.le_refl _))), fun p q p1 p2 p3 => ?_⟩
        by_cases gp : c ≤ p
        · exact w2 p q gp p2 p3
        · rw [w1.2.1 p (by omega)]
          by_cases gq : c ≤ q
          · obtain ⟨l, l1, l2, el⟩ := hZ.2.2 p p1 (by omega)
            obtain ⟨l', m1, m2, el'⟩ := w1.2.2 q gq p3
            rw [el, el', hZ.2.1 l' (by omega)]
            exact hSep l l' l1 l2 m1 m2
          · rw [w1.2.1 q (by omega)]
            exact hZs p q p1 p2 (by omega)
      have hzM : MergeP P key pos zs c e b := by
        obtain ⟨m1, m2, m3, m4⟩ := hM
        refine ⟨fun p p1 p2 => ?_, fun p q p1 p2 p3 p4 => ?_, fun p q p1 p2 p3 => ?_, fun p q p1 p2 p3 => ?_⟩
        · rw [hZ.2.1 p (by omega)]; exact m1 p p1 p2
        · rw [hZ.2.1 p (by omega), hZ.2.1 q (by omega)]; exact m2 p q p1 p2 p3 p4
        · rw [hZ.2.1 p (by omega), hZ.2.1 q (by omega)]; exact m3 p q p1 p2 p3
        · rw [hZ.2.1 p (by omega), hZ.2.1 q (by omega)]; exact m4 p q p1 p2 p3
      have hzl : zs.length = xs.length := hZ.1.trans hV.1
      refine Evx.ite (fun g => Evx.ite (fun g' => ?_) (fun g' => ?_)) (fun g => ?_)
      · exact Evx.bind (ih c e b zs (by omega) (by omega) (by omega) (by omega) (by omega) hzM) (fun r ⟨r1, r2, r3⟩ => Evx.val ⟨r1, done r.1 r2 r3⟩)
      · exact Evx.val ⟨rfl, done zs (Out.refl _ _ _) (by obtain rfl : e = b := (by omega); exact hzM.2.2.1)⟩
      · exact Evx.val ⟨rfl, done zs (Out.refl _ _ _) (by obtain rfl : e = c := (by omega); exact hzM.2.2.2)⟩
    -- behind the turn
    have turned : ∀ (s e : Nat) (ys : List El), c + m = e + s → a ≤ s → s ≤ m → m ≤ e → e ≤ b → Via xs ys (rotI s m e) → (∀ u v : Nat, ((a ≤ u ∧ u < s) ∨ (m ≤ u ∧ u < e)) → ((s ≤ v ∧ v < m) ∨ (e ≤ v ∧ v < b)) → LtK key pos (at_ xs (u : Int)) (at_ xs (v : Int))) → Evx (fun k => slices_symMergeCmpFunc_1.j5 k (a : Int) (m : Int) (b : Int) (s : Int) ys cap) (fun r => r.2 = cap ∧ Out xs r.1 a b ∧ SortedOn (LtK key pos) r.1 a b) := by
      intro s e ys hse s1 s2 e1 e2 hV hF
      have hyl := hV.1
      refine Evx.step (fun k => by simp only [slices_symMergeCmpFunc_1.j5]; rfl) ?_
      rw [hhalf, show wrap64 (wrap64 ((c : Int) + (m : Int)) - (s : Int)) = (e : Int) by rw [wrap_id (x := (c : Int) + (m : Int)) (by omega) (by omega), wrap_id (by omega) (by omega)]; omega]
      have A1 : ∀ k : Nat, k < s → at_ ys (k : Int) = at_ xs (k : Int) := fun k hk => by rw [hV.2 k (by omega)]; unfold rotI; rw [if_neg (by omega), if_neg (by omega)]
      have A2 : ∀ k : Nat, s ≤ k → k < c → at_ ys (k : Int) = at_ xs ((k + m - s : Nat) : Int) := fun k h hk => by rw [hV.2 k (by omega)]; unfold rotI; rw [if_pos (by omega)]
      have A3 : ∀ k : Nat, c ≤ k → k < e → at_ ys (k : Int) = at_ xs ((k - (e - m) : Nat) : Int) := fun k h hk => by rw [hV.2 k (by omega)]; unfold rotI; rw [if_neg (by omega), if_pos (by omega)]
      have A4 : ∀ k : Nat, e ≤ k → k < b → at_ ys (k : Int) = at_ xs (k : Int) := fun k h hk => by rw [hV.2 k (by omega)]; unfold rotI; rw [if_neg (by omega), if_neg (by omega)]
      have hSep : ∀ u v : Nat, a ≤ u → u < c → c ≤ v → v < b → LtK key pos (at_ ys (u : Int)) (at_ ys (v : Int)) := by
        intro u v u1 u2 v1 v2
        by_cases gu : u < s
        · rw [A1 u gu]
          by_cases gv : v < e
          · rw [A3 v v1 gv]; exact hF _ _ (by omega) (by omega)
          · rw [A4 v (by omega) v2]; exact hF _ _ (by omega) (by omega)
        · rw [A2 u (by omega) u2]
          by_cases gv : v < e
          · rw [A3 v v1 gv]; exact hF _ _ (by omega) (by omega)
          · rw [A4 v (by omega) v2]; exact hF _ _ (by omega) (by omega)
      have M1 : MergeP P key pos ys a s c := by
        refine ⟨fun p p1 p2 => ?_, fun p q p1 p2 p3 p4 => ?_, fun p q p1 p2 p3 => ?_, fun p q p1 p2 p3 => ?_⟩
        · by_cases g : p < s
          · rw [A1 p g]; exact hP p p1 (by omega)
          · rw [A2 p (by omega) p2]; exact hP _ (by omega) (by omega)
        · rw [A1 p p2, A2 q p3 p4]; exact hB _ _ p1 (by omega) (by omega) (by omega)
        · rw [A1 p (by omega), A1 q p3]; exact hL p q p1 p2 (by omega)
        · rw [A2 p p1 (by omega), A2 q (by omega) p3]; exact hR _ _ (by omega) (by omega) (by omega)
      have M2 : MergeP P key pos ys c e b := by
        refine ⟨fun p p1 p2 => ?_, fun p q p1 p2 p3 p4 => ?_, fun p q p1 p2 p3 => ?_, fun p q p1 p2 p3 => ?_⟩
        · by_cases g : p < e
          · rw [A3 p p1 g]; exact hP _ (by omega) (by omega)
          · rw [A4 p (by omega) p2]; exact hP p (by omega) p2
        · rw [A3 p p1 p2, A4 q p3 p4]; exact hB _ _ (by omega) (by omega) (by omega) (by omega)
        · rw [A3 p p1 (by omega), A3 q (by omega) p3]; exact hL _ _ (by omega) (by omega) (by omega)
        · rw [A4 p p1 (by omega), A4 q (by omega) p3]; exact hR _ _ (by omega) (by omega) (by omega)
      refine Evx.ite (fun g => Evx.ite (fun g' => ?_) (fun g' => ?_)) (fun g => ?_)
      · refine Evx.bind (ih a s c ys (by omega) (by omega) (by omega) (by omega) (by omega) M1) (fun r ⟨r1, r2, r3⟩ => ?_)
        rw [r1]
        exact tail s e ys r.1 hse s1 s2 e1 e2 hV hSep M2 r2 r3
      · exact tail s e ys ys hse s1 s2 e1 e2 hV hSep M2 (Out.refl _ _ _) (by obtain rfl : s = c := (by omega); exact M1.2.2.1)
      · exact tail s e ys ys hse s1 s2 e1 e2 hV hSep M2 (Out.refl _ _ _) (by obtain rfl : s = a := (by omega); exact M1.2.2.2)
    -- the search
    have search : ∀ (s0 r0 : Nat), a ≤ s0 → s0 ≤ r0 → r0 ≤ m → r0 ≤ c → c + m ≤ b + s0 → (s0 = a ∨ s0 + b = c + m) → (r0 = m ∨ r0 = c) → ∀ (w s r : Nat), r - s ≤ w → s0 ≤ s → s ≤ r → r ≤ r0 → (∀ k : Nat, s0 ≤ k → k < s → LtK key pos (at_ xs (k : Int)) (at_ xs ((c + m - 1 - k : Nat) : Int))) → (∀ k : Nat, r ≤ k → k < r0 → LtK key pos (at_ xs ((c + m - 1 - k : Nat) : Int)) (at_ xs (k : Int))) → Evx (fun k => slices_symMergeCmpFunc_1.l4 k xs (a : Int) (m : Int) (b : Int) cap (s : Int) (r : Int)) (fun r => r.2 = cap ∧ Out xs r.1 a b ∧ SortedOn (LtK key pos) r.1 a b) := by
      intro s0 r0 k1 k2 k3 k4 k5 k6 k7 w
      have fin : ∀ s : Nat, s0 ≤ s → s ≤ r0 → (∀ k : Nat, s0 ≤ k → k < s → LtK key pos (at_ xs (k : Int)) (at_ xs ((c + m - 1 - k : Nat) : Int))) → (∀ k : Nat, s ≤ k → k < r0 → LtK key pos (at_ xs ((c + m - 1 - k : Nat) : Int)) (at_ xs (k : Int))) → Evx (fun k => (if (s : Int) < (m : Int) then (if (m : Int) < ((c + m - s : Nat) : Int) then ((slices_rotateCmpFunc_1.f k xs (s : Int) (m : Int) ((c + m - s : Nat) : Int) cap).bind fun x17 => (slices_symMergeCmpFunc_1.j5 k (a : Int) (m : Int) (b : Int) (s : Int) x17.1 x17.2)) else (slices_symMergeCmpFunc_1.j5 k (a : Int) (m : Int) (b : Int) (s : Int) xs cap)) else (slices_symMergeCmpFunc_1.j5 k (a : Int) (m : Int) (b : Int) (s : Int) xs cap))) (fun r => r.2 = cap ∧ Out xs r.1 a b ∧ SortedOn (LtK key pos) r.1 a b) := by
        intro s f1 f2 fA fZ
        have hF : ∀ u v : Nat, ((a ≤ u ∧ u < s) ∨ (m ≤ u ∧ u < c + m - s)) → ((s ≤ v ∧ v < m) ∨ (c + m - s ≤ v ∧ v < b)) → LtK key pos (at_ xs (u : Int)) (at_ xs (v : Int)) := by
          intro u v hu hv
          rcases hu with hu | hu <;> rcases hv with hv | hv
          · exact hL u v hu.1 (by omega) hv.2
          · have := fA (s - 1) (by omega) (by omega)
            rw [show c + m - 1 - (s - 1) = c + m - s by omega] at this
            exact sort_le hO hL hu.1 (by omega) (by omega) (sort_ge hO hR (by omega) hv.1 hv.2 this)
          · have := fZ s (by omega) (by omega)
            exact sort_le hO hR hu.1 (by omega) (by omega) (sort_ge hO hL (by omega) hv.1 hv.2 this)
          · exact hR u v hu.1 (by omega) hv.2
        refine Evx.ite (fun g => Evx.ite (fun g' => ?_) (fun g' => ?_)) (fun g => ?_)
        · refine Evx.bind (evx_rotate xs s m (c + m - s) cap (by omega) (by omega) (by omega) h4) (fun r ⟨r1, r2⟩ => ?_)
          rw [r1]
          exact turned s (c + m - s) r.1 (by omega) (by omega) (by omega) (by omega) (by omega) r2 hF
        · exact turned s (c + m - s) xs (by omega) (by omega) (by omega) (by omega) (by omega) (Via.id xs fun k hk => by unfold rotI; (repeat' split) <;> omega) hF
        · exact turned s (c + m - s) xs (by omega) (by omega) (by omega) (by omega) (by omega) (Via.id xs fun k hk => by unfold rotI; (repeat' split) <;> omega) hF
      induction w with
      | zero =>
        intro s r q0 q1 q2 q3 fA fZ
        obtain rfl : s = r := by omega
        refine Evx.step (fun k => by simp only [slices_symMergeCmpFunc_1.l4]; rfl) ?_
        rw [hhalf, show wrap64 (wrap64 ((c : Int) + (m : Int)) - (s : Int)) = ((c + m - s : Nat) : Int) by rw [wrap_id (x := (c : Int) + (m : Int)) (by omega) (by omega), wrap_id (by omega) (by omega)]; omega]
        exact Evx.neg (by omega) (fin s q1 q3 fA fZ)
      | succ w ihw =>
        intro s r q0 q1 q2 q3 fA fZ
        refine Evx.step (fun k => by simp only [slices_symMergeCmpFunc_1.l4]; rfl) ?_
        rw [hhalf, show wrap64 (wrap64 ((c : Int) + (m : Int)) - (s : Int)) = ((c + m - s : Nat) : Int) by rw [wrap_id (x := (c : Int) + (m : Int)) (by omega) (by omega), wrap_id (by omega) (by omega)]; omega]
        refine Evx.ite (fun g => ?_) (fun g => by
          obtain rfl : s = r := by omega
          exact fin s q1 q3 fA fZ)
        rw [half_ok s r (by omega)]
        generalize hh : (s + r) / 2 = h
        have hb : s ≤ h ∧ h < r := by omega
        rw [show wrap64 (wrap64 (wrap64 ((c : Int) + (m : Int)) - 1) - (h : Int)) = ((c + m - 1 - h : Nat) : Int) by rw [wrap_id (x := (c : Int) + (m : Int)) (by omega) (by omega), wrap_id (x := (c : Int) + (m : Int) - 1) (by omega) (by omega), wrap_id (by omega) (by omega)]; omega]
        obtain ⟨z, z1, z2⟩ := hC _ _ (hP (c + m - 1 - h) (by omega) (by omega)) (hP h (by omega) (by omega))
        refine Evx.pos (by omega) (Evx.pos (by omega) (Evx.pos (by omega) (Evx.pos (by omega) (Evx.opt z1 (Evx.ite (fun q => ?_) (fun q => ?_))))))
        · exact ihw s h (by omega) q1 (by omega) (by omega) fA (fun k w1 w2 => sort_le hO hR (by omega) (show c + m - 1 - k ≤ c + m - 1 - h by omega) (by omega) (sort_ge hO hL (by omega) w1 (by omega) (LtK.less (z2.1 q))))
        · rw [wrap_succ (n := 1048576) (by omega) (by omega)]
          exact ihw (h + 1) r (by omega) (by omega) (by omega) q3 (fun k w1 w2 => sort_le hO hL (by omega) (show k ≤ h by omega) (by omega) (sort_ge hO hR (by omega) (show c + m - 1 - h ≤ c + m - 1 - k by omega) (by omega) (LtK.not (hB h _ (by omega) (by omega) (by omega) (by omega)) (fun w => q (z2.2 w))))) fZ
    refine Evx.ite (fun g => ?_) (fun g => ?_)
    · rw [show wrap64 (wrap64 ((c : Int) + (m : Int)) - (b : Int)) = ((c + m - b : Nat) : Int) by rw [wrap_id (x := (c : Int) + (m : Int)) (by omega) (by omega), wrap_id (by omega) (by omega)]; omega]
      exact search (c + m - b) c (by omega) (by omega) (by omega) (by omega) (by omega) (by omega) (by omega) _ (c + m - b) c (Nat.le_refl _) (by omega) (by omega) (by omega) (fun k k1 k2 => by omega) (fun k k1 k2 => by omega)
    · exact search a m (by omega) (by omega) (by omega) (by omega) (by omega) (by omega) (by omega) _ a m (Nat.le_refl _) (by omega) (by omega) (by omega) (fun k k1 k2 => by omega) (fun k k1 k2 => by omega)
end
theorem div_blk {w q k : Nat} (hw : 0 < w) (h1 : q * w ≤ k) (h2 : k < (q + 1) * w) : k / w = q := by
  have a1 : q ≤ k / w := (Nat.le_div_iff_mul_le hw).2 h1
  have a2 : k / w < q + 1 := (Nat.div_lt_iff_lt_mul hw).2 h2
  omega
theorem blk_div {w q k : Nat} (hw : 0 < w) (h : k / w = q) : q * w ≤ k ∧ k < (q + 1) * w := by
  have a1 := (Nat.le_div_iff_mul_le hw).1 (show q ≤ k / w by omega)
  have a2 := (Nat.div_lt_iff_lt_mul hw).1 (show k / w < q + 1 by omega)
  exact ⟨a1, a2⟩
/-- Sorted within each block of w, as far as n. -/
def Runs {α : Type} [Inhabited α] (lt : α → α → Prop) (xs : List α) (w n : Nat) : Prop := ∀ p q : Nat, p < q → q < n → p / w = q / w → lt (at_ xs (p : Int)) (at_ xs (q : Int))
/-- What stands somewhere came from the same block. -/
def Within {α : Type} [Inhabited α] (xs ys : List α) (w n : Nat) : Prop := ys.length = xs.length ∧ ∀ k : Nat, k < n → ∃ l : Nat, l < n ∧ l / w = k / w ∧ at_ ys (k : Int) = at_ xs (l : Int)
theorem Within.trans {α : Type} [Inhabited α] {xs ys zs : List α} {w n : Nat} (h : Within xs ys w n) (h2 : Within ys zs w n) : Within xs zs w n := by
  refine ⟨h2.1.trans h.1, fun k hk => ?_⟩
  obtain ⟨l, l1, l2, e⟩ := h2.2 k hk
  obtain ⟨l', m1, m2, e'⟩ := h.2 l l1
  exact ⟨l', m1, m2.trans l2, e.trans e'⟩
theorem Within.two {α : Type} [Inhabited α] {xs ys : List α} {w n : Nat} (h : Within xs ys w n) : Within xs ys (w * 2) n := by
  refine ⟨h.1, fun k hk => ?_⟩
  obtain ⟨l, l1, l2, e⟩ := h.2 k hk
  exact ⟨l, l1, by rw [← Nat.div_div_eq_div_mul, ← Nat.div_div_eq_div_mul, l2], e⟩
theorem Within.out {α : Type} [Inhabited α] {xs ys : List α} {w n a b q : Nat} (hw : 0 < w) (h : Out xs ys a b) (h1 : q * w ≤ a) (h2 : b ≤ (q + 1) * w) (hb : b ≤ n) : Within xs ys w n := by
  refine ⟨h.1, fun k hk => ?_⟩
  by_cases g : a ≤ k ∧ k < b
  · obtain ⟨l, l1, l2, e⟩ := h.2.2 k g.1 g.2
    exact ⟨l, by omega, by rw [div_blk hw (show q * w ≤ l by omega) (by omega), div_blk hw (show q * w ≤ k by omega) (by omega)], e⟩
  · exact ⟨k, hk, rfl, h.2.1 k (by omega)⟩
section
variable {P : El → Prop} {key : El → Int} {pos : El → El → Prop} {cap : Cap}
/-- One round of merging. -/
theorem evx_round (hO : OrdP key pos) (hC : CmpP cmpF P key cap) (xs : List El) (hl : xs.length ≤ 1048576) (hP : OnP P xs 0 xs.length) (hS : SortedOn pos xs 0 xs.length) (w : Nat) (hw : 0 < w) (hwn : w < xs.length) (ys : List El) (hW : Within xs ys w xs.length) (hR : Runs (LtK key pos) ys w xs.length) {C : List El × Cap → Prop}
    (hn : ∀ zs : List El, Within xs zs (w * 2) xs.length → Runs (LtK key pos) zs (w * 2) xs.length → Evx (fun k => slices_stableCmpFunc_1.l1 k (xs.length : Int) zs cap ((w * 2 : Nat) : Int)) C) : ∀ (d q : Nat) (zs : List El), xs.length - q * (w * 2) ≤ d → q * (w * 2) ≤ xs.length → Within ys zs (w * 2) xs.length → (∀ k : Nat, q * (w * 2) ≤ k → at_ zs (k : Int) = at_ ys (k : Int)) → Runs (LtK key pos) zs (w * 2) (q * (w * 2)) → Evx (fun k => slices_stableCmpFunc_1.l2 k (xs.length : Int) (w : Int) zs cap ((q * (w * 2) : Nat) : Int) (((q + 1) * (w * 2) : Nat) : Int)) C := by
  -- what stands from a on
  have run1 : ∀ (zs : List El) (q a b : Nat), (∀ k : Nat, q * (w * 2) ≤ k → at_ zs (k : Int) = at_ ys (k : Int)) → q * (w * 2) ≤ a → b ≤ xs.length → (∃ u, u * w ≤ a ∧ b ≤ (u + 1) * w) → SortedOn (LtK key pos) zs a b := by
    intro zs q a b h h1 h2 ⟨u, u1, u2⟩ p p' p1 p2 p3
    rw [h p (by omega), h p' (by omega)]
    exact hR p p' p2 (by omega) (by rw [div_blk hw (show u * w ≤ p by omega) (by omega), div_blk hw (show u * w ≤ p' by omega) (by omega)])
  have mp : ∀ (zs : List El) (q b : Nat), (∀ k : Nat, q * (w * 2) ≤ k → at_ zs (k : Int) = at_ ys (k : Int)) → q * (w * 2) + w < b → b ≤ xs.length → b ≤ (q + 1) * (w * 2) → MergeP P key pos zs (q * (w * 2)) (q * (w * 2) + w) b := by
    intro zs q b h h1 h2 h3
    have e1 : q * (w * 2) = (q * 2) * w := by rw [Nat.mul_assoc, Nat.mul_comm 2 w]
    have e2 : (q + 1) * (w * 2) = q * (w * 2) + 2 * w := by rw [Nat.add_mul, Nat.one_mul, Nat.mul_comm w 2]
    have e3 : (q * 2 + 1) * w = (q * 2) * w + w := by rw [Nat.add_mul, Nat.one_mul]
    have e4 : (q * 2 + 1 + 1) * w = (q * 2) * w + 2 * w := by rw [Nat.add_mul, Nat.add_mul]; omega
    refine ⟨fun p p1 p2 => ?_, fun p p' p1 p2 p3 p4 => ?_, run1 zs q _ _ h (Nat.le_refl _) (by omega) ⟨q * 2, by omega, by omega⟩, run1 zs q _ _ h (by omega) h2 ⟨q * 2 + 1, by omega, by omega⟩⟩
    · rw [h p p1]
      obtain ⟨l, l1, _, e⟩ := hW.2 p (by omega)
      rw [e]; exact hP l (by omega) l1
    · rw [h p p1, h p' (by omega)]
      obtain ⟨l, l1, l2, e⟩ := hW.2 p (by omega)
      obtain ⟨l', m1, m2, e'⟩ := hW.2 p' (by omega)
      rw [div_blk hw (show (q * 2) * w ≤ p by omega) (by omega)] at l2
      rw [div_blk hw (show (q * 2 + 1) * w ≤ p' by omega) (by omega)] at m2
      have b1 := blk_div hw l2
      have b2 := blk_div hw m2
      rw [e, e']
      exact hS l l' (by omega) (by omega) m1
  have glue : ∀ (zs ws : List El) (q b : Nat), Runs (LtK key pos) zs (w * 2) (q * (w * 2)) → Out zs ws (q * (w * 2)) b → SortedOn (LtK key pos) ws (q * (w * 2)) b → Runs (LtK key pos) ws (w * 2) b := by
    intro zs ws q b h1 h2 h3 p p' p1 p2 p3
    by_cases g : q * (w * 2) ≤ p
    · exact h3 p p' g p1 p2
    · have g' : p' < q * (w * 2) := by
        have a1 := (Nat.div_lt_iff_lt_mul (show 0 < w * 2 by omega)).2 (show p < q * (w * 2) by omega)
        rw [p3] at a1
        exact (Nat.div_lt_iff_lt_mul (show 0 < w * 2 by omega)).1 a1
      rw [h2.2.1 p (by omega), h2.2.1 p' (by omega)]
      exact h1 p p' p1 g' p3
  intro d
  induction d with
  | zero =>
    intro q zs d0 q0 z1 z2 z3
    have hzl := z1.1
    have hyl := hW.1
    have e2 : (q + 1) * (w * 2) = q * (w * 2) + 2 * w := by rw [Nat.add_mul, Nat.one_mul, Nat.mul_comm w 2]
    refine Evx.step (fun k => by simp only [slices_stableCmpFunc_1.l2]; rfl) ?_
    rw [wrap_id (x := ((q * (w * 2) : Nat) : Int) + (w : Int)) (by omega) (by omega), show wrap64 ((w : Int) * 2) = ((w * 2 : Nat) : Int) by rw [wrap_id (by omega) (by omega)]; omega]
    refine Evx.neg (by omega) (Evx.neg (by omega) (hn zs (Within.trans hW.two z1) ?_))
    rw [show xs.length = q * (w * 2) by omega]; exact z3
  | succ d ih =>
    intro q zs d0 q0 z1 z2 z3
    have hzl := z1.1
    have hyl := hW.1
    have e2 : (q + 1) * (w * 2) = q * (w * 2) + 2 * w := by rw [Nat.add_mul, Nat.one_mul, Nat.mul_comm w 2]
    have e5 : (q + 1 + 1) * (w * 2) = (q + 1) * (w * 2) + 2 * w := by rw [Nat.add_mul (q + 1), Nat.one_mul, Nat.mul_comm w 2]
    refine Evx.step (fun k => by simp only [slices_stableCmpFunc_1.l2]; rfl) ?_
    rw [show wrap64 (((q * (w * 2) : Nat) : Int) + (w : Int)) = ((q * (w * 2) + w : Nat) : Int) by rw [wrap_id (by omega) (by omega)]; omega, show wrap64 ((w : Int) * 2) = ((w * 2 : Nat) : Int) by rw [wrap_id (by omega) (by omega)]; omega, show wrap64 (2 * (w : Int)) = ((w * 2 : Nat) : Int) by rw [wrap_id (by omega) (by omega)]; omega]
    refine Evx.ite (fun g => ?_) (fun g => Evx.ite (fun g' => ?_) (fun g' => ?_))
    · refine Evx.bind (evx_symMerge hO hC _ (q * (w * 2)) (q * (w * 2) + w) ((q + 1) * (w * 2)) zs (Nat.le_refl _) (by omega) (by omega) (by omega) (by omega) (mp zs q _ z2 (by omega) (by omega) (Nat.le_refl _))) (fun r ⟨r1, r2, r3⟩ => ?_)
      rw [r1, show wrap64 ((((q + 1) * (w * 2) : Nat) : Int) + ((w * 2 : Nat) : Int)) = (((q + 1 + 1) * (w * 2) : Nat) : Int) by rw [wrap_id (by omega) (by omega)]; omega]
      exact ih (q + 1) r.1 (by omega) (by omega) (Within.trans z1 (Within.out (q := q) (by omega) r2 (Nat.le_refl _) (Nat.le_refl _) (by omega))) (fun k hk => by rw [r2.2.1 k (by omega)]; exact z2 k (by omega)) (glue zs r.1 q _ z3 r2 r3)
    · refine Evx.bind (evx_symMerge hO hC _ (q * (w * 2)) (q * (w * 2) + w) xs.length zs (Nat.le_refl _) (by omega) (by omega) (by omega) (by omega) (mp zs q _ z2 (by omega) (by omega) (by omega))) (fun r ⟨r1, r2, r3⟩ => ?_)
      rw [r1]
      exact hn r.1 (Within.trans hW.two (Within.trans z1 (Within.out (q := q) (by omega) r2 (Nat.le_refl _) (by omega) (Nat.le_refl _)))) (glue zs r.1 q _ z3 r2 r3)
    · have e1 : q * (w * 2) = (q * 2) * w := by rw [Nat.mul_assoc, Nat.mul_comm 2 w]
      have e3 : (q * 2 + 1) * w = (q * 2) * w + w := by rw [Nat.add_mul, Nat.one_mul]
      exact hn zs (Within.trans hW.two z1) (glue zs zs q _ z3 (Out.refl _ _ _) (run1 zs q _ _ z2 (Nat.le_refl _) (Nat.le_refl _) ⟨q * 2, by omega, by omega⟩))
theorem evx_stable (hO : OrdP key pos) (hC : CmpP cmpF P key cap) (xs : List El) (hl : xs.length ≤ 1048576) (hP : OnP P xs 0 xs.length) (hS : SortedOn pos xs 0 xs.length) : Evx (fun k => slices_stableCmpFunc_1.f k xs (xs.length : Int) cap) (fun r => r.2 = cap ∧ Out xs r.1 0 xs.length ∧ SortedOn (LtK key pos) r.1 0 xs.length) := by
  unfold slices_stableCmpFunc_1.f
  -- the rounds
  have rounds : ∀ (d w : Nat) (ys : List El), xs.length - w ≤ d → 0 < w → w ≤ 4194304 → Within xs ys w xs.length → Runs (LtK key pos) ys w xs.length → Evx (fun k => slices_stableCmpFunc_1.l1 k (xs.length : Int) ys cap (w : Int)) (fun r => r.2 = cap ∧ Out xs r.1 0 xs.length ∧ SortedOn (LtK key pos) r.1 0 xs.length) := by
    intro d
    have fin : ∀ (w : Nat) (ys : List El), xs.length ≤ w → Within xs ys w xs.length → Runs (LtK key pos) ys w xs.length → Out xs ys 0 xs.length ∧ SortedOn (LtK key pos) ys 0 xs.length := by
      intro w ys h1 h2 h3
      refine ⟨⟨h2.1, fun k hk => ?_, fun k _ hk => ?_⟩, fun p q _ p2 p3 => h3 p q p2 p3 (by rw [Nat.div_eq_of_lt (by omega), Nat.div_eq_of_lt (by omega)])⟩
      · rw [at_getD, at_getD, List.getD_eq_getElem?_getD, List.getD_eq_getElem?_getD, List.getElem?_eq_none (by have := h2.1; omega), List.getElem?_eq_none (by omega)]
      · obtain ⟨l, l1, _, e⟩ := h2.2 k hk
        exact ⟨l, by omega, l1, e⟩
    induction d with
    | zero =>
      intro w ys d0 w0 w1 hW hR
      refine Evx.step (fun k => by simp only [slices_stableCmpFunc_1.l1]; rfl) ?_
      exact Evx.neg (by omega) (Evx.val ⟨rfl, fin w ys (by omega) hW hR⟩)
    | succ d ih =>
      intro w ys d0 w0 w1 hW hR
      refine Evx.step (fun k => by simp only [slices_stableCmpFunc_1.l1]; rfl) ?_
      refine Evx.ite (fun g => ?_) (fun g => Evx.val ⟨rfl, fin w ys (by omega) hW hR⟩)
      have key1 := evx_round hO hC xs hl hP hS w w0 (by omega) ys hW hR (C := fun r => r.2 = cap ∧ Out xs r.1 0 xs.length ∧ SortedOn (LtK key pos) r.1 0 xs.length) (fun zs z1 z2 => ih (w * 2) zs (by omega) (by omega) (by omega) z1 z2) xs.length 0 ys (by omega) (by omega) ⟨rfl, fun k hk => ⟨k, hk, rfl, rfl⟩⟩ (fun k _ => rfl) (fun p q _ h => by omega)
      rw [show wrap64 (2 * (w : Int)) = (((0 + 1) * (w * 2) : Nat) : Int) by rw [wrap_id (by omega) (by omega)]; omega]
      rw [show 0 * (w * 2) = 0 by omega] at key1
      exact key1
  -- the blocks
  have blocks : ∀ (d q : Nat) (ys : List El), xs.length - q * 20 ≤ d → q * 20 ≤ xs.length → Within xs ys 20 xs.length → (∀ k : Nat, q * 20 ≤ k → at_ ys (k : Int) = at_ xs (k : Int)) → Runs (LtK key pos) ys 20 (q * 20) → Evx (fun k => slices_stableCmpFunc_1.l0 k (xs.length : Int) ys cap ((q * 20 : Nat) : Int) (((q + 1) * 20 : Nat) : Int)) (fun r => r.2 = cap ∧ Out xs r.1 0 xs.length ∧ SortedOn (LtK key pos) r.1 0 xs.length) := by
    have glue : ∀ (zs ws : List El) (q b : Nat), Runs (LtK key pos) zs 20 (q * 20) → Out zs ws (q * 20) b → SortedOn (LtK key pos) ws (q * 20) b → Runs (LtK key pos) ws 20 b := by
      intro zs ws q b h1 h2 h3 p p' p1 p2 p3
      by_cases g : q * 20 ≤ p
      · exact h3 p p' g p1 p2
      · rw [h2.2.1 p (by omega), h2.2.1 p' (by omega)]
        exact h1 p p' p1 (by omega) p3
    have pre : ∀ (ys : List El) (q b : Nat), (∀ k : Nat, q * 20 ≤ k → at_ ys (k : Int) = at_ xs (k : Int)) → b ≤ xs.length → OnP P ys (q * 20) b ∧ SortedOn pos ys (q * 20) b := by
      intro ys q b h hb
      refine ⟨fun p p1 p2 => ?_, fun p p' p1 p2 p3 => ?_⟩
      · rw [h p p1]; exact hP p (by omega) (by omega)
      · rw [h p p1, h p' (by omega)]; exact hS p p' (by omega) p2 (by omega)
    have last : ∀ (q : Nat) (ys : List El), q * 20 ≤ xs.length → xs.length < (q + 1) * 20 → Within xs ys 20 xs.length → (∀ k : Nat, q * 20 ≤ k → at_ ys (k : Int) = at_ xs (k : Int)) → Runs (LtK key pos) ys 20 (q * 20) → Evx (fun k => ((slices_insertionSortCmpFunc_1.f k ys ((q * 20 : Nat) : Int) (xs.length : Int) cap).bind fun x6 => (slices_stableCmpFunc_1.l1 k (xs.length : Int) x6.1 x6.2 20))) (fun r => r.2 = cap ∧ Out xs r.1 0 xs.length ∧ SortedOn (LtK key pos) r.1 0 xs.length) := by
      intro q ys q0 q1 z1 z2 z3
      have hyl := z1.1
      by_cases e : q * 20 = xs.length
      · refine Evx.bind (P := fun r => r.2 = cap ∧ r.1 = ys) ?_ (fun r ⟨r1, r2⟩ => ?_)
        · unfold slices_insertionSortCmpFunc_1.f
          refine Evx.step (fun k => by simp only [slices_insertionSortCmpFunc_1.l0]; rfl) ?_
          rw [wrap_id (x := ((q * 20 : Nat) : Int) + 1) (by omega) (by omega)]
          exact Evx.neg (by omega) (Evx.val ⟨rfl, rfl⟩)
        · rw [r1, r2]
          exact rounds _ 20 ys (Nat.le_refl _) (by omega) (by omega) z1 (by rw [← e]; exact z3)
      · obtain ⟨p1, p2⟩ := pre ys q xs.length z2 (Nat.le_refl _)
        refine Evx.bind (evx_insertion hO hC ys (q * 20) xs.length (by omega) (by omega) (by omega) p1 p2) (fun r ⟨r1, r2, r3⟩ => ?_)
        rw [r1]
        exact rounds _ 20 r.1 (Nat.le_refl _) (by omega) (by omega) (Within.trans z1 (Within.out (q := q) (by omega) r2 (Nat.le_refl _) (by omega) (Nat.le_refl _))) (glue ys r.1 q _ z3 r2 r3)
    intro d
    induction d with
    | zero =>
      intro q ys d0 q0 z1 z2 z3
      refine Evx.step (fun k => by simp only [slices_stableCmpFunc_1.l0]; rfl) ?_
      exact Evx.neg (by omega) (last q ys q0 (by omega) z1 z2 z3)
    | succ d ih =>
      intro q ys d0 q0 z1 z2 z3
      have hyl := z1.1
      refine Evx.step (fun k => by simp only [slices_stableCmpFunc_1.l0]; rfl) ?_
      refine Evx.ite (fun g => ?_) (fun g => last q ys q0 (by omega) z1 z2 z3)
      obtain ⟨p1, p2⟩ := pre ys q ((q + 1) * 20) z2 (by omega)
      refine Evx.bind (evx_insertion hO hC ys (q * 20) ((q + 1) * 20) (by omega) (by omega) (by omega) p1 p2) (fun r ⟨r1, r2, r3⟩ => ?_)
      rw [r1, show wrap64 ((((q + 1) * 20 : Nat) : Int) + 20) = (((q + 1 + 1) * 20 : Nat) : Int) by rw [wrap_id (by omega) (by omega)]; omega]
      exact ih (q + 1) r.1 (by omega) (by omega) (Within.trans z1 (Within.out (q := q) (by omega) r2 (Nat.le_refl _) (Nat.le_refl _) (by omega))) (fun k hk => by rw [r2.2.1 k (by omega)]; exact z2 k (by omega)) (glue ys r.1 q _ z3 r2 r3)
  have := blocks xs.length 0 xs (by omega) (by omega) ⟨rfl, fun k hk => ⟨k, hk, rfl, rfl⟩⟩ (fun k _ => rfl) (fun p q _ h => by omega)
  simpa using this
theorem evx_SortStable (hO : OrdP key pos) (hC : CmpP cmpF P key cap) (xs : List El) (hl : xs.length ≤ 1048576) (hP : OnP P xs 0 xs.length) (hS : SortedOn pos xs 0 xs.length) : Evx (fun k => slices_SortStableFunc_1.f k xs cap) (fun r => r.2 = cap ∧ Out xs r.1 0 xs.length ∧ SortedOn (LtK key pos) r.1 0 xs.length) := by
  unfold slices_SortStableFunc_1.f
  exact Evx.bind (evx_stable hO hC xs hl hP hS) (fun r hr => Evx.val hr)
end
def posE (a b : S58) : Prop := a.f0 < b.f0 ∨ (a.f0 = b.f0 ∧ a.f1 < b.f1)
def depE (ts : List S28) (e : S58) : Int := (at_ (at_ ts e.f0).f1 e.f1).f2
/-- An entry of the board: a call, not the last one of its trip, at the node, not ahead of the minute. -/
def DueP (ts : List S28) (node minute : Int) (e : S58) : Prop := (0 ≤ e.f0 ∧ e.f0 < (ts.length : Int)) ∧ (0 ≤ e.f1 ∧ e.f1 + 1 < ((at_ ts e.f0).f1.length : Int)) ∧ (at_ (at_ ts e.f0).f1 e.f1).f0 = node ∧ minute ≤ depE ts e
def rawK (t : S28) (node minute i : Int) : Nat → List S58
  | 0 => []
  | k + 1 => if (at_ t.f1 (k : Int)).f0 = node ∧ minute ≤ (at_ t.f1 (k : Int)).f2 then rawK t node minute i k ++ [⟨i, (k : Int)⟩] else rawK t node minute i k
def rawI (ts : List S28) (node minute : Int) : Nat → List S58
  | 0 => []
  | i + 1 => rawI ts node minute i ++ rawK (at_ ts (i : Int)) node minute (i : Int) ((at_ ts (i : Int)).f1.length - 1)
theorem rawI_succ (ts : List S28) (node minute : Int) (i : Nat) : rawI ts node minute (i + 1) = rawI ts node minute i ++ rawK (at_ ts (i : Int)) node minute (i : Int) ((at_ ts (i : Int)).f1.length - 1) := rfl
theorem rawK_succ (t : S28) (node minute i : Int) (k : Nat) : rawK t node minute i (k + 1) = if (at_ t.f1 (k : Int)).f0 = node ∧ minute ≤ (at_ t.f1 (k : Int)).f2 then rawK t node minute i k ++ [⟨i, (k : Int)⟩] else rawK t node minute i k := rfl
theorem rawK_mem (t : S28) (node minute i : Int) : ∀ (k : Nat) (e : S58), e ∈ rawK t node minute i k → e.f0 = i ∧ (0 ≤ e.f1 ∧ e.f1 < (k : Int)) ∧ (at_ t.f1 e.f1).f0 = node ∧ minute ≤ (at_ t.f1 e.f1).f2
  | 0, e, h => by simp [rawK] at h
  | k + 1, e, h => by
    rw [rawK_succ] at h
    split at h
    · rename_i hc
      rcases List.mem_append.1 h with w | w
      · have := rawK_mem t node minute i k e w
        exact ⟨this.1, by omega, this.2.2⟩
      · rw [List.mem_singleton.1 w]
        exact ⟨rfl, by dsimp only; omega, hc⟩
    · have := rawK_mem t node minute i k e h
      exact ⟨this.1, by omega, this.2.2⟩
theorem rawK_pw (t : S28) (node minute i : Int) : ∀ (k : Nat), (rawK t node minute i k).Pairwise posE
  | 0 => List.Pairwise.nil
  | k + 1 => by
    have ih := rawK_pw t node minute i k
    rw [rawK_succ]
    split
    · refine List.pairwise_append.2 ⟨ih, List.pairwise_singleton _ _, fun a ha b hb => ?_⟩
      rw [List.mem_singleton.1 hb]
      have := rawK_mem t node minute i k a ha
      exact .inr ⟨this.1, this.2.1.2⟩
    · exact ih
theorem rawK_len (t : S28) (node minute i : Int) : ∀ (k : Nat), (rawK t node minute i k).length ≤ k
  | 0 => Nat.le_refl _
  | k + 1 => by
    have ih := rawK_len t node minute i k
    rw [rawK_succ]
    split
    · rw [List.length_append, List.length_singleton]; omega
    · omega
theorem rawI_mem (ts : List S28) (node minute : Int) : ∀ (n : Nat), n ≤ ts.length → ∀ e : S58, e ∈ rawI ts node minute n → DueP ts node minute e ∧ e.f0 < (n : Int)
  | 0, _, e, h => by simp [rawI] at h
  | n + 1, hn, e, h => by
    rw [rawI_succ] at h
    rcases List.mem_append.1 h with w | w
    · have := rawI_mem ts node minute n (by omega) e w
      exact ⟨this.1, by omega⟩
    · have := rawK_mem _ _ _ _ _ e w
      obtain ⟨a1, a2, a3, a4⟩ := this
      unfold DueP depE
      rw [a1]
      exact ⟨⟨by omega, by omega, a3, a4⟩, by omega⟩
theorem rawI_pw (ts : List S28) (node minute : Int) : ∀ (n : Nat), n ≤ ts.length → (rawI ts node minute n).Pairwise posE
  | 0, _ => List.Pairwise.nil
  | n + 1, hn => by
    rw [rawI_succ]
    refine List.pairwise_append.2 ⟨rawI_pw ts node minute n (by omega), rawK_pw _ _ _ _ _, fun a ha b hb => ?_⟩
    have h1 := (rawI_mem ts node minute n (by omega) a ha).2
    have h2 := (rawK_mem _ _ _ _ _ b hb).1
    exact .inl (by omega)
theorem rawI_len {ts : List S28} (h : TableP ts) (node minute : Int) : ∀ (n : Nat), n ≤ ts.length → (rawI ts node minute n).length ≤ 11 * n
  | 0, _ => Nat.le_refl _
  | n + 1, hn => by
    have ih := rawI_len h node minute n (by omega)
    have h1 := rawK_len (at_ ts (n : Int)) node minute (n : Int) ((at_ ts (n : Int)).f1.length - 1)
    have ht := (h.2 n (by omega)).1.2.1
    rw [rawI_succ, List.length_append]
    omega
theorem ordE (ts : List S28) : OrdP (depE ts) posE := ⟨fun u v w h1 h2 => by unfold posE at *; omega⟩
theorem eq_cmp (a b : Int) : cmp_Compare.f a b = some (if a < b then -1 else if a > b then 1 else 0) := by
  unfold cmp_Compare.f cmp_isNaN.f
  simp only [Option.bind_some]
  rw [if_neg (by simp), if_neg (by simp)]
  by_cases h1 : a < b
  · rw [if_pos h1, if_pos h1]
  · rw [if_neg h1, if_neg h1]
    by_cases h2 : a > b
    · rw [if_pos h2, if_pos h2]
    · rw [if_neg h2, if_neg h2]
theorem cmpE (ts : List S28) (node minute : Int) : CmpP cmpF (DueP ts node minute) (depE ts) ts := by
  intro u v hu hv
  obtain ⟨u1, u2, _⟩ := hu
  obtain ⟨v1, v2, _⟩ := hv
  show ∃ c, impl_Board_1.f u v ts = some (c, ts) ∧ _
  unfold impl_Board_1.f
  rw [if_pos u1.1, if_pos u1.2, if_pos u2.1, if_pos (by omega), if_pos v1.1, if_pos v1.2, if_pos v2.1, if_pos (by omega), eq_cmp, Option.bind_some]
  refine ⟨_, rfl, ?_⟩
  unfold depE
  split
  · simp [*]
  · split <;> simp [*]
/-- The board before it is cut. -/
def BoardP (ts : List S28) (node minute : Int) (s : List S58) : Prop := s.length = (rawI ts node minute ts.length).length ∧ (∀ k : Nat, k < s.length → DueP ts node minute (at_ s (k : Int))) ∧ SortedOn (LtK (depE ts) posE) s 0 s.length ∧ Ev (fun k => slices_SortStableFunc_1.f k (rawI ts node minute ts.length) ts) (s, ts)
theorem board_ex {ts : List S28} (h : TableP ts) (node minute : Int) : ∃ s, BoardP ts node minute s := by
  have h24 := h.1
  have hl := rawI_len h node minute ts.length (Nat.le_refl _)
  have hpw := rawI_pw ts node minute ts.length (Nat.le_refl _)
  have hD : OnP (DueP ts node minute) (rawI ts node minute ts.length) 0 (rawI ts node minute ts.length).length := fun p _ hp => (rawI_mem ts node minute ts.length (Nat.le_refl _) _ (at_mem (by omega) (by omega))).1
  obtain ⟨⟨s, c⟩, e, rfl, h1, h2⟩ := evx_SortStable (ordE ts) (cmpE ts node minute) (rawI ts node minute ts.length) (by omega) hD (fun p q _ h1 h2 => by
    have := List.pairwise_iff_getElem.1 hpw p q (by omega) h2 h1
    rwa [at_nat (by omega), at_nat h2])
  dsimp only at h1 h2
  refine ⟨s, h1.1, fun k hk => ?_, by rw [h1.1]; exact h2, e⟩
  obtain ⟨l, _, l2, el⟩ := h1.2.2 k (by omega) (by rw [← h1.1]; exact hk)
  rw [el]
  exact hD l (by omega) l2
theorem ev_impl_Board {ts : List S28} (h : TableP ts) {node minute : Int} {s : List S58} (hs : BoardP ts node minute s) {c : Int} (c0 : 0 ≤ c) (c1 : c ≤ 50) : Ev (fun k => impl_Board.f k ts node minute c) (s.take c.toNat) := by
  have h24 := h.1
  have hl := rawI_len h node minute ts.length (Nat.le_refl _)
  have hB : TableB ts := ⟨by omega, fun y hy => by
    obtain ⟨i, hi, rfl⟩ := mem_at.1 hy
    exact trip_bdd (h.2 i hi).1⟩
  have hcd : (0 ≤ c ∧ c ≤ 50) := ⟨c0, c1⟩
  unfold impl_Board.f
  refine Ev.bind (ev_impl_TableOk ts hB true (by simp [h])) (Ev.pos rfl (Ev.opt (eq_impl_between _ _ _) (Ev.pos (decide_eq_true hcd) ?_)))
  refine ev_fold (fun k i => impl_Board.l0 k ts node minute c (rawI ts node minute i) (i : Int)) ts.length ?_ ?_
  · intro i hi hn
    have ht := (h.2 i hi).1.2.1
    have hri := rawI_len h node minute i (by omega)
    refine Ev.step (fun k => by simp only [impl_Board.l0]; rfl) ?_
    rw [wrap_id (x := ((at_ ts (i : Int)).f1.length : Int) - 1) (by omega) (by omega)]
    refine Ev.pos (by omega) (Ev.pos (by omega) (Ev.pos (by omega) (Ev.pos (by omega) ?_)))
    rw [rawI_succ] at hn
    have key := ev_fold (fun k j => impl_Board.l1 k ts node minute c (i : Int) (rawI ts node minute i ++ rawK (at_ ts (i : Int)) node minute (i : Int) j) (j : Int)) ((at_ ts (i : Int)).f1.length - 1) (r := s.take c.toNat) ?_ ?_
    · simpa [rawK] using key
    · intro j hj hn2
      have hrk := rawK_len (at_ ts (i : Int)) node minute (i : Int) j
      rw [rawK_succ] at hn2
      refine Ev.step (fun k => by simp only [impl_Board.l1]; rfl) ?_
      rw [wrap_id (x := ((at_ ts (i : Int)).f1.length : Int) - 1) (by omega) (by omega), show (0 : Int).toNat = 0 from rfl, List.drop_zero, Nat.sub_zero, at_take _ (by omega) (by omega), List.length_take, wrap_succ hj (by omega)]
      refine Ev.pos (by omega) (Ev.pos (by omega) (Ev.ite (fun w1 => Ev.ite (fun w2 => ?_) (fun w2 => ?_)) (fun w1 => ?_)))
      · rw [if_pos ⟨w1, w2⟩, ← List.append_assoc] at hn2
        exact Ev.pos (by simp only [List.length_append, List.length_cons, List.length_nil]; omega) hn2
      · rw [if_neg (fun z => w2 z.2)] at hn2; exact hn2
      · rw [if_neg (fun z => w1 z.1)] at hn2; exact hn2
    · refine Ev.step (fun k => by simp only [impl_Board.l1]; rfl) ?_
      rw [wrap_id (x := ((at_ ts (i : Int)).f1.length : Int) - 1) (by omega) (by omega), show (0 : Int).toNat = 0 from rfl, List.drop_zero, Nat.sub_zero, List.length_take, wrap_succ hi (by omega)]
      exact Ev.neg (by omega) hn
  · have hsl := hs.1
    refine Ev.step (fun k => by simp only [impl_Board.l0]; rfl) ?_
    refine Ev.neg (by omega) (Ev.bind hs.2.2.2 ?_)
    dsimp only
    have hmn : mn (s.length : Int) c = ((min s.length c.toNat : Nat) : Int) := by
      unfold mn
      split <;> omega
    rw [hmn, Int.toNat_natCast, show (0 : Int).toNat = 0 from rfl, List.drop_zero, Nat.sub_zero, List.nil_append]
    have e : s.take (min s.length c.toNat) = s.take c.toNat := by
      rcases Nat.le_total s.length c.toNat with w | w
      · rw [Nat.min_eq_left w, List.take_length, List.take_of_length_le w]
      · rw [Nat.min_eq_right w]
    rw [e]
    refine Ev.pos (by omega) (Ev.pos (by omega) (Ev.pos ?_ (ev_val rfl)))
    rw [List.length_take]; simp only [List.length_nil]; omega
-- the board as the reference tells it
theorem ltE_asym {ts : List S28} {u v : S58} (h : LtK (depE ts) posE u v) (h' : LtK (depE ts) posE v u) : False := by
  unfold LtK posE at h h'
  omega
theorem ltE_ne {ts : List S28} {u v : S58} (h : LtK (depE ts) posE u v) : u ≠ v := fun e => by subst e; exact ltE_asym h h
theorem ltE_tri {ts : List S28} (u v : S58) : u = v ∨ LtK (depE ts) posE u v ∨ LtK (depE ts) posE v u := by
  unfold LtK posE
  by_cases h : u.f0 = v.f0 ∧ u.f1 = v.f1
  · left
    cases u; cases v
    simp only at h
    rw [h.1, h.2]
  · right; omega
theorem len_sub {α : Type} : ∀ (s r : List α), s.Nodup → (∀ x, x ∈ s → x ∈ r) → s.length ≤ r.length
  | [], r, _, _ => by simp
  | x :: s, r, hn, hs => by
    obtain ⟨a, b, e⟩ := List.append_of_mem (hs x (by simp))
    have hn2 := List.nodup_cons.1 hn
    have := len_sub s (a ++ b) hn2.2 (fun y hy => by
      have h1 := hs y (by simp [hy])
      rw [e] at h1
      rcases List.mem_append.1 h1 with h | h
      · exact List.mem_append_left _ h
      · rcases List.mem_cons.1 h with h | h
        · subst h; exact absurd hy hn2.1
        · exact List.mem_append_right _ h)
    rw [e, List.length_cons]
    simp only [List.length_append, List.length_cons] at this ⊢
    omega
theorem mem_full {α : Type} {s r : List α} (hn : s.Nodup) (hs : ∀ x, x ∈ s → x ∈ r) (hl : s.length = r.length) {e : α} (he : e ∈ r) : e ∈ s := by
  classical
  refine Classical.byContradiction fun hne => ?_
  obtain ⟨a, b, eq⟩ := List.append_of_mem he
  have := len_sub s (a ++ b) hn (fun y hy => by
    have h1 := hs y hy
    rw [eq] at h1
    rcases List.mem_append.1 h1 with h | h
    · exact List.mem_append_left _ h
    · rcases List.mem_cons.1 h with h | h
      · subst h; exact absurd hy hne
      · exact List.mem_append_right _ h)
  rw [eq] at hl
  simp only [List.length_append, List.length_cons] at this hl
  omega
theorem rawK_all {t : S28} {node minute i : Int} : ∀ {k : Nat} {c : Int}, 0 ≤ c → c < (k : Int) → (at_ t.f1 c).f0 = node → minute ≤ (at_ t.f1 c).f2 → (⟨i, c⟩ : S58) ∈ rawK t node minute i k
  | 0, c, h0, h1, _, _ => by omega
  | k + 1, c, h0, h1, h2, h3 => by
    rw [rawK_succ]
    by_cases e : c = (k : Int)
    · subst e
      rw [if_pos ⟨h2, h3⟩]
      simp
    · have ih := rawK_all (t := t) (i := i) (k := k) h0 (by omega) h2 h3
      split
      · exact List.mem_append_left _ ih
      · exact ih
theorem rawI_all {ts : List S28} {node minute : Int} {e : S58} (h : DueP ts node minute e) : ∀ {n : Nat}, n ≤ ts.length → e.f0 < (n : Int) → e ∈ rawI ts node minute n
  | 0, _, h1 => by have := h.1.1; omega
  | n + 1, hn, h1 => by
    obtain ⟨d1, d2, d3, d4⟩ := h
    rw [rawI_succ]
    by_cases g : e.f0 = (n : Int)
    · refine List.mem_append_right _ ?_
      rw [g] at d2 d3
      unfold depE at d4
      rw [g] at d4
      have := rawK_all (t := at_ ts (n : Int)) (i := (n : Int)) (k := (at_ ts (n : Int)).f1.length - 1) (c := e.f1) d2.1 (by omega) d3 d4
      have e2 : e = (⟨(n : Int), e.f1⟩ : S58) := by cases e; simp only at g; rw [g]
      rw [e2]; exact this
    · exact List.mem_append_left _ (rawI_all ⟨d1, d2, d3, d4⟩ (by omega) (by omega))
theorem board_nodup {ts : List S28} {node minute : Int} {s : List S58} (h : BoardP ts node minute s) : s.Nodup := by
  refine List.pairwise_iff_getElem.2 fun i j hi hj hij => ?_
  have := h.2.2.1 i j (by omega) hij hj
  rw [at_nat hi, at_nat hj] at this
  exact ltE_ne this
theorem board_all {ts : List S28} {node minute : Int} {s : List S58} (h : BoardP ts node minute s) {e : S58} (he : DueP ts node minute e) : ∃ j : Nat, j < s.length ∧ at_ s (j : Int) = e := by
  have hm := mem_full (board_nodup h) (fun x hx => by
    obtain ⟨i, hi, rfl⟩ := mem_at.1 hx
    have hd := h.2.1 i hi
    exact rawI_all hd (Nat.le_refl _) hd.1.2) h.1 (rawI_all he (Nat.le_refl _) he.1.2)
  exact mem_at.1 hm
theorem ev_Told (s : List S58) (hs : s.length ≤ 100000) (a b : Int) (r : Bool) (hr : r = true ↔ ∃ j, j < s.length ∧ at_ s (j : Int) = ⟨a, b⟩) : Ev (fun k => spec_l08Told.f k s a b) r := by
  unfold spec_l08Told.f
  have key : ∀ i : Nat, at_ s (i : Int) = ⟨a, b⟩ ↔ (at_ s (i : Int)).f0 = a ∧ (at_ s (i : Int)).f1 = b := by
    intro i
    generalize at_ s (i : Int) = x
    cases x
    simp
  refine ev_scan s.length (fun i => ¬ at_ s (i : Int) = ⟨a, b⟩) true (fun k i => spec_l08Told.l0 k s a b (i : Int)) (fun ⟨i, hi, h⟩ => hr.2 ⟨i, hi, Classical.not_not.1 h⟩) ?_ ?_
  · intro i hi _ hn hx
    rw [key] at hn hx
    refine Ev.step (fun k => by simp only [spec_l08Told.l0]; rfl) ?_
    rw [wrap_succ hi (by omega)]
    refine Ev.pos (by omega) (Ev.pos (by omega) (Ev.ite (fun g => Ev.ite (fun g2 => ev_val (hx (fun q => q ⟨g, g2⟩)).symm) (fun g2 => hn (fun q => g2 q.2))) (fun g => hn (fun q => g q.1))))
  · intro hp
    refine Ev.step (fun k => by simp only [spec_l08Told.l0]; rfl) ?_
    refine Ev.neg (by omega) (ev_val ?_)
    cases r with
    | false => rfl
    | true =>
      obtain ⟨j, hj, e⟩ := hr.1 rfl
      exact absurd e (hp j hj)
/-- What is told next, of the places that were looked at. -/
def NextE (ts : List S28) (node minute : Int) (s : List S58) (m : Nat) (seen : S58 → Prop) (x : S58) : Prop :=
  (x.f0 < 0 ∧ ∀ e, DueP ts node minute e → seen e → (∀ j : Nat, j < m → at_ s (j : Int) ≠ e) → False) ∨
    (DueP ts node minute x ∧ seen x ∧ (∀ j : Nat, j < m → at_ s (j : Int) ≠ x) ∧ ∀ e, DueP ts node minute e → seen e → (∀ j : Nat, j < m → at_ s (j : Int) ≠ e) → x = e ∨ LtK (depE ts) posE x e)
theorem NextE.congr {ts : List S28} {node minute : Int} {s : List S58} {m : Nat} {seen seen' : S58 → Prop} {x : S58} (h : NextE ts node minute s m seen x) (hh : ∀ e, DueP ts node minute e → (seen e ↔ seen' e)) : NextE ts node minute s m seen' x := by
  rcases h with ⟨h1, h2⟩ | ⟨h1, h2, h3, h4⟩
  · exact .inl ⟨h1, fun e he hs => h2 e he ((hh e he).2 hs)⟩
  · exact .inr ⟨h1, (hh x h1).1 h2, h3, fun e he hs => h4 e he ((hh e he).2 hs)⟩
theorem ev_spec_Board {ts : List S28} (h : TableP ts) {node minute : Int} {s : List S58} (hs : BoardP ts node minute s) {c : Int} (c0 : 0 ≤ c) (c1 : c ≤ 50) : Ev (fun k => spec_Board.f k ts node minute c) (s.take c.toNat) := by
  classical
  have h24 := h.1
  have hl := rawI_len h node minute ts.length (Nat.le_refl _)
  have hsl := hs.1
  have hB : TableB ts := ⟨by omega, fun y hy => by
    obtain ⟨i, hi, rfl⟩ := mem_at.1 hy
    exact trip_bdd (h.2 i hi).1⟩
  have hcd : (0 ≤ c ∧ c ≤ 50) := ⟨c0, c1⟩
  unfold spec_Board.f
  refine Ev.bind (ev_spec_TableOk ts hB true (by simp [h])) (Ev.pos rfl (Ev.opt (eq_spec_l01In _ _ _) (Ev.pos (decide_eq_true hcd) ?_)))
  -- one round: what is told next
  have round : ∀ m : Nat, m ≤ s.length → m ≤ 50 → ∀ R, (∀ x, NextE ts node minute s m (fun _ => True) x → Ev (fun k => if x.f0 < 0 then some (s.take m) else (if ((s.take m).length + ([x] : List S58).length) * 16 ≤ 70368744177664 then (spec_Board.l0 k ts node minute c (s.take m ++ ([x] : List S58)) (wrap64 ((m : Int) + 1))) else none)) R) → Ev (fun k => spec_Board.l1 k ts node minute c (s.take m) (m : Int) ⟨-1, 0⟩ 0) R := by
    intro m hm hm5 R hR
    have htl : (s.take m).length = m := by rw [List.length_take]; omega
    refine Evx.ev (evx_loop (fun k i (x : S58) => spec_Board.l1 k ts node minute c (s.take m) (m : Int) x (i : Int)) ts.length (fun i x => NextE ts node minute s m (fun e => e.f0 < (i : Int)) x) _ ?_ ?_ ⟨-1, 0⟩ (.inl ⟨by decide, fun e he hs => by have := he.1.1; have : e.f0 < ((0 : Nat) : Int) := hs; omega⟩))
    · intro i x hi hx hn
      have hlen := (h.2 i hi).1.2.1
      refine Evx.step (fun k => by simp only [spec_Board.l1]; rfl) (Evx.pos (by omega) ?_)
      refine evx_loop (fun k q (x : S58) => spec_Board.l2 k ts node minute c (s.take m) (m : Int) (i : Int) x (q : Int)) ((at_ ts (i : Int)).f1.length - 1) (fun q x => NextE ts node minute s m (fun e => e.f0 < (i : Int) ∨ (e.f0 = (i : Int) ∧ e.f1 < (q : Int))) x) _ ?_ ?_ x (hx.congr fun e he => ⟨fun g => .inl g, fun g => g.elim id fun g => by have := he.2.1.1; omega⟩)
      · intro q x hq hx hn2
        refine Evx.step (fun k => by simp only [spec_Board.l2]; rfl) ?_
        rw [wrap_id (x := (q : Int) + 1) (by omega) (by omega), show (q : Int) + 1 = ((q + 1 : Nat) : Int) by omega]
        refine Evx.pos (by omega) (Evx.pos (by omega) (Evx.pos (by omega) (Evx.pos (by omega) (Evx.pos (by omega) ?_))))
        -- the entry that is looked at adds nothing
        have skip : (DueP ts node minute ⟨(i : Int), (q : Int)⟩ → (∀ j : Nat, j < m → at_ s (j : Int) ≠ ⟨(i : Int), (q : Int)⟩) → ¬ x.f0 < 0 ∧ (x = ⟨(i : Int), (q : Int)⟩ ∨ LtK (depE ts) posE x ⟨(i : Int), (q : Int)⟩)) → Evx (fun k => spec_Board.l2 k ts node minute c (s.take m) (m : Int) (i : Int) x ((q + 1 : Nat) : Int)) (fun r => r = R) := by
          intro hsk
          have split : ∀ e : S58, (e.f0 < (i : Int) ∨ (e.f0 = (i : Int) ∧ e.f1 < ((q + 1 : Nat) : Int))) → DueP ts node minute e → (e.f0 < (i : Int) ∨ (e.f0 = (i : Int) ∧ e.f1 < (q : Int))) ∨ e = ⟨(i : Int), (q : Int)⟩ := by
            intro e g he
            rcases g with g | ⟨g1, g2⟩
            · exact .inl (.inl g)
            · by_cases w : e.f1 = (q : Int)
              · refine .inr ?_
                cases e
                simp only at g1 w
                rw [g1, w]
              · exact .inl (.inr ⟨g1, by omega⟩)
          refine hn2 x ?_
          rcases hx with ⟨x1, x2⟩ | ⟨x1, x2, x3, x4⟩
          · refine .inl ⟨x1, fun e he hse hne => ?_⟩
            rcases split e hse he with g | g
            · exact x2 e he g hne
            · subst g; exact (hsk he hne).1 x1
          · refine .inr ⟨x1, ?_, x3, fun e he hse hne => ?_⟩
            · rcases x2 with g | ⟨g1, g2⟩
              · exact .inl g
              · exact .inr ⟨g1, by omega⟩
            · rcases split e hse he with g | g
              · exact x4 e he g hne
              · subst g; exact (hsk he hne).2
        -- the entry that is looked at is told next, so far
        have take_ : DueP ts node minute ⟨(i : Int), (q : Int)⟩ → (∀ j : Nat, j < m → at_ s (j : Int) ≠ ⟨(i : Int), (q : Int)⟩) → (x.f0 < 0 ∨ depE ts ⟨(i : Int), (q : Int)⟩ < depE ts x) → Evx (fun k => spec_Board.l2 k ts node minute c (s.take m) (m : Int) (i : Int) ⟨(i : Int), (q : Int)⟩ ((q + 1 : Nat) : Int)) (fun r => r = R) := by
          intro hd hne hlt
          refine hn2 _ (.inr ⟨hd, .inr ⟨rfl, by dsimp only; omega⟩, hne, fun e he hse hne2 => ?_⟩)
          have hse2 : (e.f0 < (i : Int) ∨ (e.f0 = (i : Int) ∧ e.f1 < (q : Int))) ∨ e = ⟨(i : Int), (q : Int)⟩ := by
            rcases hse with g | ⟨g1, g2⟩
            · exact .inl (.inl g)
            · by_cases w : e.f1 = (q : Int)
              · refine .inr ?_
                cases e
                simp only at g1 w
                rw [g1, w]
              · exact .inl (.inr ⟨g1, by omega⟩)
          rcases hse2 with g | g
          · right
            rcases hx with ⟨_, x2⟩ | ⟨x1, _, _, x4⟩
            · exact (x2 e he g hne2).elim
            · have hlt : depE ts ⟨(i : Int), (q : Int)⟩ < depE ts x := hlt.resolve_left (by have := x1.1.1; omega)
              rcases x4 e he g hne2 with w | w
              · subst w; exact .inl hlt
              · rcases w with w | w
                · exact .inl (by omega)
                · exact .inl (by omega)
          · exact .inl g.symm
        have hdep : depE ts ⟨(i : Int), (q : Int)⟩ = (at_ (at_ ts (i : Int)).f1 (q : Int)).f2 := rfl
        refine Evx.ite (fun g1 => ?_) (fun g1 => skip (fun hd => absurd hd.2.2.1 g1))
        refine Evx.ite (fun g2 => skip (fun hd => by have := hd.2.2.2; rw [hdep] at this; omega)) (fun g2 => ?_)
        have hd : DueP ts node minute ⟨(i : Int), (q : Int)⟩ := ⟨⟨by dsimp only; omega, by dsimp only; omega⟩, ⟨by dsimp only; omega, by dsimp only; omega⟩, g1, by rw [hdep]; omega⟩
        refine Evx.bindv (ev_Told (s.take m) (by omega) (i : Int) (q : Int) (decide (∃ j, j < (s.take m).length ∧ at_ (s.take m) (j : Int) = ⟨(i : Int), (q : Int)⟩)) decide_eq_true_iff) (Evx.ite (fun g3 => ?_) (fun g3 => ?_))
        · obtain ⟨j, hj, ej⟩ := of_decide_eq_true g3
          rw [htl] at hj
          rw [at_take s (by omega) (by omega)] at ej
          exact skip (fun _ hne => absurd ej (hne j hj))
        · have hne : ∀ j : Nat, j < m → at_ s (j : Int) ≠ ⟨(i : Int), (q : Int)⟩ := fun j hj e => g3 (decide_eq_true ⟨j, by omega, by rw [at_take s (by omega) (by omega)]; exact e⟩)
          refine Evx.ite (fun g4 => take_ hd hne (.inl g4)) (fun g4 => ?_)
          have hxd : DueP ts node minute x ∧ (x.f0 < (i : Int) ∨ (x.f0 = (i : Int) ∧ x.f1 < (q : Int))) := by
            rcases hx with ⟨x1, _⟩ | ⟨x1, x2, _⟩
            · exact absurd x1 g4
            · exact ⟨x1, x2⟩
          have q1 := hxd.1.1
          have q2 := hxd.1.2.1
          refine Evx.pos (by omega) (Evx.pos (by omega) (Evx.pos (by omega) (Evx.pos (by omega) (Evx.ite (fun g5 => take_ hd hne (.inr g5)) (fun g5 => skip (fun _ _ => ⟨g4, .inr ?_⟩))))))
          have g5 : ¬ depE ts ⟨(i : Int), (q : Int)⟩ < depE ts x := g5
          unfold LtK posE
          dsimp only
          omega
      · intro x hx
        refine Evx.step (fun k => by simp only [spec_Board.l2]; rfl) ?_
        rw [wrap_id (x := (((at_ ts (i : Int)).f1.length - 1 : Nat) : Int) + 1) (by omega) (by omega), wrap_succ hi (by omega)]
        refine Evx.pos (by omega) (Evx.pos (by omega) (Evx.neg (by omega) (hn x (hx.congr fun e he => ⟨fun g => ?_, fun g => ?_⟩))))
        · rcases g with g | ⟨g1, _⟩ <;> omega
        · by_cases w : e.f0 = (i : Int)
          · have := he.2.1.2
            rw [w] at this
            exact .inr ⟨w, by omega⟩
          · exact .inl (by omega)
    · intro x hx
      refine Evx.step (fun k => by simp only [spec_Board.l1]; rfl) (Evx.neg (by omega) (Evx.of (hR x (hx.congr fun e he => ⟨fun _ => trivial, fun _ => he.1.2⟩)) rfl))
  -- all rounds
  have main : ∀ d m : Nat, m + d = min s.length c.toNat → Ev (fun k => spec_Board.l0 k ts node minute c (s.take m) (m : Int)) (s.take c.toNat) := by
    intro d
    induction d with
    | zero =>
      intro m hm
      have htl : (s.take m).length = m := by rw [List.length_take]; omega
      refine Ev.step (fun k => by simp only [spec_Board.l0]; rfl) (Ev.pos (by omega) ?_)
      by_cases hmc : m = c.toNat
      · refine Ev.neg (by omega) (ev_val (by rw [hmc]))
      · have hms : m = s.length := by omega
        refine Ev.pos (by omega) (round m (by omega) (by omega) _ fun x hx => ?_)
        have hx0 : x.f0 < 0 := by
          rcases hx with ⟨x1, _⟩ | ⟨x1, _, x3, _⟩
          · exact x1
          · obtain ⟨j, hj, ej⟩ := board_all hs x1
            exact absurd ej (x3 j (by omega))
        refine Ev.pos hx0 (ev_val ?_)
        rw [List.take_of_length_le (by omega), List.take_of_length_le (by omega)]
    | succ d ih =>
      intro m hm
      have htl : (s.take m).length = m := by rw [List.length_take]; omega
      refine Ev.step (fun k => by simp only [spec_Board.l0]; rfl) (Ev.pos (by omega) (Ev.pos (by omega) (round m (by omega) (by omega) _ fun x hx => ?_)))
      have hms : m < s.length := by omega
      have hdm := hs.2.1 m hms
      have hnem : ∀ j : Nat, j < m → at_ s (j : Int) ≠ at_ s (m : Int) := fun j hj => ltE_ne (hs.2.2.1 j m (by omega) hj hms)
      have hxe : x = at_ s (m : Int) := by
        rcases hx with ⟨_, x2⟩ | ⟨x1, _, x3, x4⟩
        · exact (x2 _ hdm trivial hnem).elim
        · rcases x4 _ hdm trivial hnem with w | w
          · exact w
          · obtain ⟨j, hj, ej⟩ := board_all hs x1
            have hjm : m ≤ j := by
              rcases Nat.lt_or_ge j m with g | g
              · exact absurd ej (x3 j g)
              · exact g
            rcases Nat.lt_or_ge m j with g | g
            · have := hs.2.2.1 m j (by omega) g hj
              rw [ej] at this
              exact (ltE_asym this w).elim
            · have : j = m := by omega
              rw [← ej, this]
      have hx0 := hdm.1.1
      rw [hxe]
      refine Ev.neg (by omega) (Ev.pos (by simp only [List.length_cons, List.length_nil]; omega) ?_)
      rw [wrap_id (x := (m : Int) + 1) (by omega) (by omega), show (m : Int) + 1 = ((m + 1 : Nat) : Int) by omega, at_nat hms, ← take_succ' hms]
      exact ih (m + 1) (by omega)
  have := main (min s.length c.toNat) 0 (by omega)
  simpa using this
-- strings as lists of bytes
def byt (s : ByteArray) : List UInt8 := s.data.toList
theorem byt_len (s : ByteArray) : (byt s).length = s.size := by unfold byt ByteArray.size; exact Array.length_toList
theorem byt_mk (l : List UInt8) : byt ⟨l.toArray⟩ = l := by simp [byt]
theorem byt_app (a b : ByteArray) : byt (a ++ b) = byt a ++ byt b := by simp [byt, ByteArray.data_append]
theorem byt_ext {a b : ByteArray} (h : byt a = byt b) : a = b := by
  cases a with | mk x => cases b with | mk y => 
  congr 1
  exact Array.toList_inj.1 h
theorem mk_byt (s : ByteArray) : (⟨(byt s).toArray⟩ : ByteArray) = s := byt_ext (byt_mk _)
theorem bt_eq (s : ByteArray) {i : Nat} (h : i < (byt s).length) : bt s (i : Int) = ((byt s)[i].toNat : Int) := by
  have h2 : i < s.size := by rw [← byt_len]; exact h
  unfold bt
  rw [dif_pos (by rw [Int.toNat_natCast]; exact h2)]
  rfl
def ChU (b : UInt8) : Prop := (97 ≤ b.toNat ∧ b.toNat ≤ 122) ∨ (48 ≤ b.toNat ∧ b.toNat ≤ 57)
theorem name_iff (s : ByteArray) : NameP s ↔ (1 ≤ (byt s).length ∧ (byt s).length ≤ 12) ∧ ∀ b, b ∈ byt s → ChU b := by
  unfold NameP
  rw [byt_len]
  refine and_congr Iff.rfl ⟨fun h b hb => ?_, fun h i hi => ?_⟩
  · obtain ⟨i, hi, rfl⟩ := List.getElem_of_mem hb
    have := h i (by rw [← byt_len]; exact hi)
    rw [bt_eq s hi] at this
    unfold ChP at this
    unfold ChU
    omega
  · have hi2 : i < (byt s).length := by rw [byt_len]; exact hi
    have := h _ (List.getElem_mem hi2)
    rw [bt_eq s hi2]
    unfold ChU at this
    unfold ChP
    omega
/-- The decimal digits. -/
def dec (n : Nat) : List UInt8 := if h : n < 10 then [UInt8.ofNat (48 + n)] else dec (n / 10) ++ [UInt8.ofNat (48 + n % 10)]
termination_by n
theorem dec_lt {n : Nat} (h : n < 10) : dec n = [UInt8.ofNat (48 + n)] := by rw [dec, dif_pos h]
theorem dec_ge {n : Nat} (h : ¬ n < 10) : dec n = dec (n / 10) ++ [UInt8.ofNat (48 + n % 10)] := by rw [dec, dif_neg h]
def decZ (n : Nat) : List UInt8 := if n = 0 then [] else dec n
theorem decZ_step {n : Nat} (h : n ≠ 0) : decZ n = decZ (n / 10) ++ [UInt8.ofNat (48 + n % 10)] := by
  unfold decZ
  rw [if_neg h]
  by_cases g : n < 10
  · rw [dec_lt g, if_pos (by omega), Nat.mod_eq_of_lt g]; rfl
  · rw [dec_ge g, if_neg (by omega)]
theorem dig_nat {d : Nat} (h : d < 10) : (UInt8.ofNat (48 + d)).toNat = 48 + d := by
  rw [UInt8.toNat_ofNat']
  omega
theorem dec_dig (n : Nat) : ∀ b, b ∈ dec n → 48 ≤ b.toNat ∧ b.toNat ≤ 57 := by
  induction n using Nat.strongRecOn with
  | ind n ih =>
    intro b hb
    by_cases g : n < 10
    · rw [dec_lt g, List.mem_singleton] at hb
      rw [hb, dig_nat g]; omega
    · rw [dec_ge g, List.mem_append, List.mem_singleton] at hb
      rcases hb with hb | hb
      · exact ih (n / 10) (by omega) b hb
      · rw [hb, dig_nat (by omega)]; omega
theorem dec_len_le : ∀ (k n : Nat), n < 10 ^ (k + 1) → (dec n).length ≤ k + 1 := by
  intro k
  induction k with
  | zero => intro n h; rw [dec_lt (by simpa using h)]; simp
  | succ k ih =>
    intro n h
    by_cases g : n < 10
    · rw [dec_lt g]; simp
    · rw [dec_ge g, List.length_append, List.length_singleton]
      have := ih (n / 10) (by rw [Nat.pow_succ] at h; omega)
      omega
theorem dec_len_pos (n : Nat) : 1 ≤ (dec n).length := by
  by_cases g : n < 10
  · rw [dec_lt g]; simp
  · rw [dec_ge g]; simp
theorem ofs_u8 {d : Int} (h0 : 0 ≤ d) (h1 : d < 10) : UInt8.ofNat (IntKind.u8.wrap (wrap64 (48 + d))).toNat = UInt8.ofNat (48 + d.toNat) := by
  rw [wrap_id (by omega) (by omega)]
  have e : IntKind.u8.wrap (48 + d) = 48 + d := by
    have h2 : d = 0 ∨ d = 1 ∨ d = 2 ∨ d = 3 ∨ d = 4 ∨ d = 5 ∨ d = 6 ∨ d = 7 ∨ d = 8 ∨ d = 9 := by omega
    rcases h2 with rfl | rfl | rfl | rfl | rfl | rfl | rfl | rfl | rfl | rfl <;> decide
  rw [e]
  congr 1
  omega
-- marks of trips
theorem ev_markText (n : Nat) (h0 : 0 < n) (hn : n < 10 ^ 17) : Ev (fun k => laws_markText.f k (n : Int)) ⟨(109 :: dec n).toArray⟩ := by
  unfold laws_markText.f
  refine Ev.neg (by omega) ?_
  have fin : ∀ s : ByteArray, s.size ≤ 1000 → Ev (fun _ => if (⟨#[109]⟩ : ByteArray).size + s.size ≤ 9223372036854775807 then some ((⟨#[109]⟩ : ByteArray) ++ s) else none) ⟨(109 :: byt s).toArray⟩ := by
    intro s hs
    refine Ev.pos (by show 1 + s.size ≤ _; omega) (ev_val (byt_ext ?_))
    rw [byt_app]; exact (byt_mk (109 :: byt s)).symm
  have key : ∀ j m : Nat, m < 10 ^ j → m < 10 ^ 17 → ∀ s : ByteArray, s.size + j ≤ 1000 → Ev (fun k => laws_markText.l0 k (m : Int) s) ⟨(109 :: (decZ m ++ byt s)).toArray⟩ := by
    intro j
    induction j with
    | zero =>
      intro m hm _ s hs
      obtain rfl : m = 0 := by simpa using hm
      refine Ev.step (fun k => by simp only [laws_markText.l0]; rfl) ?_
      exact Ev.neg (by omega) (fin s (by omega))
    | succ j ih =>
      intro m hm hm2 s hs
      refine Ev.step (fun k => by simp only [laws_markText.l0]; rfl) ?_
      refine Ev.ite (fun g => ?_) (fun g => ?_)
      · have hmod : ((m : Int).tmod 10) = ((m % 10 : Nat) : Int) := by rw [tmod_of 10 (by omega)]; omega
        have hdiv : wrap64 ((m : Int).tdiv 10) = ((m / 10 : Nat) : Int) := by rw [tdiv_of 10 (by omega), wrap_id (by omega) (by omega)]; omega
        rw [hmod, hdiv, ofs_u8 (by omega) (by omega), Int.toNat_natCast]
        refine Ev.pos (by show 1 + s.size ≤ _; omega) ?_
        have e : (decZ m ++ byt s) = decZ (m / 10) ++ byt ((⟨#[UInt8.ofNat (48 + m % 10)]⟩ : ByteArray) ++ s) := by
          rw [byt_app, decZ_step (by omega), List.append_assoc]; rfl
        rw [e]
        refine ih (m / 10) (by rw [Nat.pow_succ] at hm; omega) (by omega) _ ?_
        rw [ByteArray.size_append]
        show 1 + s.size + j ≤ _
        omega
      · obtain rfl : m = 0 := by omega
        exact fin s (by omega)
  have := key 17 n hn hn ⟨#[]⟩ (by decide)
  have e : decZ n ++ byt ⟨#[]⟩ = dec n := by unfold decZ; rw [if_neg (by omega)]; simp [byt]
  rw [e] at this
  exact this
def mkN (x : List S28) (a : Int) : Nat → Int
  | 0 => a
  | i + 1 => mkN x a i + 1 + 3 * ((at_ x (i : Int)).f1.length : Int)
def mkT (a : Int) : ByteArray := ⟨(109 :: dec a.toNat).toArray⟩
def mkE (x : List S28) (a : Int) (i : Nat) : S28 := ⟨mkT (mkN x a i), mkd_CallS (at_ x (i : Int)).f1.length (mkN x a i + 1)⟩
def mkL (x : List S28) (a : Int) : List S28 := (List.range x.length).map (mkE x a)
theorem mkL_len (x : List S28) (a : Int) : (mkL x a).length = x.length := by simp [mkL]
theorem mkL_at (x : List S28) (a : Int) {i : Nat} (h : i < x.length) : at_ (mkL x a) (i : Int) = mkE x a i := by
  rw [at_nat (by rw [mkL_len]; exact h)]
  simp [mkL]
theorem mkN_bd {x : List S28} (hb : ∀ y ∈ x, (y.f0.size ≤ 1048576 ∧ (y.f1.length ≤ 1048576))) (a : Int) : ∀ i : Nat, i ≤ x.length → a ≤ mkN x a i ∧ mkN x a i ≤ a + 3145729 * (i : Int)
  | 0, _ => ⟨Int.le_refl _, by show a ≤ _; omega⟩
  | i + 1, hi => by
    have ih := mkN_bd hb a i (by omega)
    have h1 := (hb _ (at_mem (xs := x) (i := (i : Int)) (by omega) (by omega))).2
    show a ≤ mkN x a i + 1 + 3 * ((at_ x (i : Int)).f1.length : Int) ∧ _ ≤ _
    constructor
    · omega
    · show mkN x a i + 1 + 3 * ((at_ x (i : Int)).f1.length : Int) ≤ _
      omega
theorem mk_ext {α : Type} [Inhabited α] {xs ys : List α} (hl : ys.length = xs.length) (h : ∀ k : Nat, k < xs.length → at_ ys (k : Int) = at_ xs (k : Int)) : ys = xs := by
  refine List.ext_getElem hl fun k h1 h2 => ?_
  have := h k h2
  rwa [at_nat h1, at_nat h2] at this
theorem mark_TripS (x : List S28) (hb : x.length ≤ 1048576 ∧ ∀ y ∈ x, (y.f0.size ≤ 1048576 ∧ (y.f1.length ≤ 1048576))) (a : Int) (h0 : 1 ≤ a) (h1 : a ≤ 1099511627776) : Ev (fun k => laws_markTripS.f k x a) (mkN x a x.length, mkL x a) := by
  unfold laws_markTripS.f
  refine Evx.ev (evx_loop (fun k i (xs : List S28) => laws_markTripS.l0 k xs (mkN x a i) (i : Int)) x.length (fun i xs => xs.length = x.length ∧ (∀ k : Nat, k < i → at_ xs (k : Int) = mkE x a k) ∧ ∀ k : Nat, i ≤ k → at_ xs (k : Int) = at_ x (k : Int)) _ ?_ ?_ x ⟨rfl, fun k hk => by omega, fun k _ => rfl⟩)
  · intro i xs hi ⟨i1, i2, i3⟩ hn
    have hbd := mkN_bd hb.2 a i (by omega)
    have hl := (hb.2 _ (at_mem (xs := x) (i := (i : Int)) (by omega) (by omega))).2
    have e := i3 i (Nat.le_refl _)
    have ht := ev_markText (mkN x a i).toNat (by omega) (by omega)
    rw [show (((mkN x a i).toNat : Nat) : Int) = mkN x a i by omega] at ht
    refine Evx.step (fun k => by simp only [laws_markTripS.l0]; rfl) ?_
    rw [wrap_succ hi (by omega), wrap_id (x := mkN x a i + 1) (by omega) (by omega), Int.toNat_natCast]
    refine Evx.pos (by omega) (Evx.bindv ht (Evx.pos (by omega) ?_))
    rw [at_set_eq (by omega), e]
    dsimp only
    refine Evx.bindv (mark_CallS (at_ x (i : Int)).f1 (by omega) _ (by omega) (by omega)) ?_
    have e2 : mkN x a (i + 1) = mkN x a i + 1 + 3 * ((at_ x (i : Int)).f1.length : Int) := rfl
    dsimp only
    rw [← e2, List.set_set]
    refine hn _ ⟨by rw [List.length_set]; exact i1, fun k hk => ?_, fun k hk => ?_⟩
    · by_cases ek : k = i
      · rw [ek, at_set_eq (by omega)]; rfl
      · rw [at_set_ne (by omega) (by omega)]; exact i2 k (by omega)
    · rw [at_set_ne (by omega) (by omega)]; exact i3 k (by omega)
  · intro xs ⟨i1, i2, _⟩
    have e : xs = mkL x a := mk_ext (by rw [i1, mkL_len]) (fun k hk => by rw [mkL_len] at hk; rw [i2 k hk, mkL_at x a hk])
    subst e
    refine Evx.step (fun k => by simp only [laws_markTripS.l0]; rfl) ?_
    rw [mkL_len]
    exact Evx.neg (by omega) (Evx.val rfl)
theorem mkN_nn {x : List S28} (hb : ∀ y ∈ x, (y.f0.size ≤ 1048576 ∧ (y.f1.length ≤ 1048576))) {a : Int} {i : Nat} (h : i ≤ x.length) (g : mkN x a i < 0) (h1 : 1 ≤ a) : False := by
  have := (mkN_bd hb a i h).1
  omega
theorem main_FnExactBoard (x0 : (List S23)) (x1 : Int) (x2 : Int) (x3 : Int) (h0 : (x0.length ≤ maxLen ∧ ∀ y ∈ x0, ok23 y)) (h1 : (Lit.int .i64 x1).wf = true) (h2 : (Lit.int .i64 x2).wf = true) (h3 : (Lit.int .i64 x3).wf = true) (b0 : (x0.length ≤ 1048576 ∧ ∀ y ∈ x0, (y.f0.size ≤ 1048576 ∧ (y.f1.length ≤ 1048576)))) : ∃ w, Ev (fun k => spec_Board.f k (x0.map cv23_28) x1 x2 x3) w ∧ Ev (fun k => impl_Board.f k (x0.map cv23_28) x1 x2 x3) w ∧ (w.length ≤ 1048576) := by
  classical
  have hB := trips_bd x0 b0 cv23_28 (fun _ => ⟨rfl, rfl⟩)
  generalize x0.map cv23_28 = ts at hB
  by_cases h : TableP ts
  · by_cases hc : 0 ≤ x3 ∧ x3 ≤ 50
    · obtain ⟨s, hs⟩ := board_ex h x1 x2
      refine ⟨s.take x3.toNat, ev_spec_Board h hs hc.1 hc.2, ev_impl_Board h hs hc.1 hc.2, ?_⟩
      rw [List.length_take]; omega
    · unfold spec_Board.f impl_Board.f
      exact ⟨[], Ev.bind (ev_spec_TableOk ts hB true (by simp [h])) (Ev.pos rfl (Ev.opt (eq_spec_l01In _ _ _) (Ev.neg (fun g => hc (of_decide_eq_true g)) (ev_val rfl)))), Ev.bind (ev_impl_TableOk ts hB true (by simp [h])) (Ev.pos rfl (Ev.opt (eq_impl_between _ _ _) (Ev.neg (fun g => hc (of_decide_eq_true g)) (ev_val rfl)))), by decide⟩
  · unfold spec_Board.f impl_Board.f
    exact ⟨[], Ev.bind (ev_spec_TableOk ts hB false (by simp [h])) (Ev.neg (by decide) (ev_val rfl)), Ev.bind (ev_impl_TableOk ts hB false (by simp [h])) (Ev.neg (by decide) (ev_val rfl)), by decide⟩
theorem pure_FnExactBoard : Pure := by
  intro x0 x1 x2 x3 h0 h1 h2 h3
  refine Ev.rounds ?_
  unfold laws_FnExactBoard.f
  obtain ⟨r0, e0, hr0⟩ := sz_TripS x0 1048576 (by omega) (by omega) h0
  refine Ev.bind e0 ?_
  refine Ev.ite (fun _ => ev_val rfl) (fun g0 => ?_)
  obtain ⟨p0, q0, b0⟩ := hr0.resolve_left g0
  have c0 : x0.length ≤ 1048576 := b0.1
  obtain ⟨w, es, ei, hb⟩ := main_FnExactBoard x0 x1 x2 x3 h0 h1 h2 h3 b0
  refine Ev.bind (to_TripS x0 b0) ?_
  refine Ev.bind es ?_
  refine Ev.bind (to_TripS x0 b0) ?_
  refine Ev.bind ei ?_
  refine Ev.bind (eq_EntryS _ (by first | exact hb | exact hb.1 | exact hb.2 | trivial)) ?_
  refine Ev.pos (by first | rfl | simp [sEq] | omega) ?_
  refine Ev.bind (to_TripS x0 b0) ?_
  refine Ev.bind (eq_TripS _ ⟨by rw [List.length_map]; exact b0.1, fun y hy => by obtain ⟨x, hx, rfl⟩ := List.mem_map.1 hy; exact bd_cv23_28 x (b0.2 x hx)⟩) ?_
  refine Ev.pos (by first | rfl | simp [sEq] | omega) ?_
  have hbT_ := (⟨by rw [List.length_map]; exact b0.1, fun y hy => by obtain ⟨x, hx, rfl⟩ := List.mem_map.1 hy; exact bd_cv23_28 x (b0.2 x hx)⟩ : (x0.map cv23_28).length ≤ 1048576 ∧ ∀ y ∈ x0.map cv23_28, (y.f0.size ≤ 1048576 ∧ (y.f1.length ≤ 1048576)))
  refine Ev.bind (mark_TripS _ hbT_ _ (by first | omega | (dsimp only; omega)) (by first | omega | (dsimp only; omega))) ?_
  refine Ev.neg (fun g_ => mkN_nn hbT_.2 (Nat.le_refl _) g_ (by first | omega | (dsimp only; omega))) ?_
  refine Ev.bind (eq_EntryS _ (by first | exact hb | exact hb.1 | exact hb.2 | trivial)) ?_
  refine Ev.pos (by first | rfl | simp [sEq] | omega) ?_
  refine Ev.bind (mark_EntryS _ (by first | omega | (have := hb; omega) | (have := hb.1; omega) | (have := hb.2; omega) | (rw [List.length_map]; omega)) _ (by first | omega | (dsimp only; omega)) (by first | omega | (dsimp only; omega))) ?_
  refine Ev.bind (held_EntryS _ (by first | omega | (have := hb; omega) | (have := hb.1; omega) | (have := hb.2; omega)) _ (by first | omega | (dsimp only; omega)) (by first | omega | (dsimp only; omega))) ?_
  refine Ev.neg (by first | omega | simp [sEq]) ?_
  refine Ev.pos (by first | rfl | simp [sEq] | omega) ?_
  refine Ev.bind (to_TripS x0 b0) ?_
  refine Ev.bind ei ?_
  refine Ev.bind (eq_EntryS _ (by first | exact hb | exact hb.1 | exact hb.2 | trivial)) ?_
  refine Ev.pos (by first | rfl | simp [sEq] | omega) ?_
  refine Ev.bind (held_EntryS _ (by first | omega | (have := hb; omega) | (have := hb.1; omega) | (have := hb.2; omega)) _ (by first | omega | (dsimp only; omega)) (by first | omega | (dsimp only; omega))) ?_
  refine Ev.neg (by first | omega | simp [sEq]) ?_
  refine Ev.pos (by first | rfl | simp [sEq] | omega) ?_
  exact ev_val rfl

end Go.Proofs.Ytoeedickghjdbaa.Fns
