/- The pure statement of the law FnExactClockface: its function, told by the engine, gives true for every input. -/
import Derived.Test.YtjlickinmkafbaaDoorSFnExactClockface
namespace Go.Proofs.YtjlickinmkafbaaDoor.Fns
open Go.RowKit Go.WideShapes Go.Proofs.YtjlickinmkafbaaDoor.Eng
set_option linter.unusedVariables false
set_option linter.unusedSimpArgs false
/-- From some number of rounds on there is one answer, and C holds of it. -/
def Evx {α : Type} (g : Nat → Option α) (C : α → Prop) : Prop := ∃ r, Ev g r ∧ C r
section
variable {α β : Type}
theorem Evx.val {a : α} {C : α → Prop} (h : C a) : Evx (fun _ => some a) C := ⟨a, Ev.now a, h⟩
theorem Evx.of {g : Nat → Option α} {r : α} {C : α → Prop} (h : Ev g r) (hc : C r) : Evx g C := ⟨r, h, hc⟩
theorem Evx.bind {g : Nat → Option α} {f : Nat → α → Option β} {P : α → Prop} {C : β → Prop} (h : Evx g P) (k : ∀ a, P a → Evx (fun n => f n a) C) : Evx (fun n => (g n).bind (f n)) C := by
  obtain ⟨a, h1, h2⟩ := h
  obtain ⟨r, h3, h4⟩ := k a h2
  exact ⟨r, Ev.bind h1 h3, h4⟩
theorem Evx.bindv {g : Nat → Option α} {f : Nat → α → Option β} {a : α} {C : β → Prop} (h : Ev g a) (k : Evx (fun n => f n a) C) : Evx (fun n => (g n).bind (f n)) C := by
  obtain ⟨r, h3, h4⟩ := k
  exact ⟨r, Ev.bind h h3, h4⟩
theorem Evx.opt {g : Option α} {f : Nat → α → Option β} {a : α} {C : β → Prop} (h : g = some a) (k : Evx (fun n => f n a) C) : Evx (fun n => g.bind (f n)) C := by subst h; exact k
theorem Evx.step {g f : Nat → Option α} {C : α → Prop} (h : ∀ k, g (k + 1) = f k) (k : Evx f C) : Evx g C := by
  obtain ⟨r, h3, h4⟩ := k
  exact ⟨r, Ev.step h h3, h4⟩
theorem Evx.congr {g f : Nat → Option α} {C : α → Prop} (h : ∀ k, g k = f k) (k : Evx f C) : Evx g C := by
  obtain ⟨r, h3, h4⟩ := k
  exact ⟨r, Ev.congr h h3, h4⟩
theorem Evx.ite {c : Prop} [Decidable c] {g f : Nat → Option α} {C : α → Prop} (h : c → Evx g C) (h' : ¬ c → Evx f C) : Evx (fun k => if c then g k else f k) C := by
  by_cases hc : c
  · simp only [if_pos hc]; exact h hc
  · simp only [if_neg hc]; exact h' hc
theorem Evx.pos {c : Prop} [Decidable c] {g f : Nat → Option α} {C : α → Prop} (hc : c) (h : Evx g C) : Evx (fun k => if c then g k else f k) C := by simp only [if_pos hc]; exact h
theorem Evx.neg {c : Prop} [Decidable c] {g f : Nat → Option α} {C : α → Prop} (hc : ¬ c) (h : Evx f C) : Evx (fun k => if c then g k else f k) C := by simp only [if_neg hc]; exact h
theorem Evx.mono {g : Nat → Option α} {C D : α → Prop} (h : Evx g C) (hd : ∀ r, C r → D r) : Evx g D := by
  obtain ⟨r, h1, h2⟩ := h
  exact ⟨r, h1, hd r h2⟩
theorem Evx.ev {g : Nat → Option α} {r : α} (h : Evx g (fun x => x = r)) : Ev g r := by
  obtain ⟨a, h1, rfl⟩ := h
  exact h1
theorem Ev.uniq {g : Nat → Option α} {a b : α} (h : Ev g a) (h' : Ev g b) : a = b := by
  obtain ⟨K, hK⟩ := h
  obtain ⟨K', hK'⟩ := h'
  have e1 := hK (max K K') (by omega)
  have e2 := hK' (max K K') (by omega)
  rw [e1] at e2
  exact Option.some.inj e2
end
/-- A loop that counts up, with what holds of its state at each place. -/
theorem evx_loop {R σ : Type} (G : Nat → Nat → σ → Option R) (n : Nat) (Inv : Nat → σ → Prop) (C : R → Prop)
    (hstep : ∀ i s, i < n → Inv i s → (∀ s', Inv (i + 1) s' → Evx (fun k => G k (i + 1) s') C) → Evx (fun k => G k i s) C)
    (hend : ∀ s, Inv n s → Evx (fun k => G k n s) C) : ∀ s, Inv 0 s → Evx (fun k => G k 0 s) C := by
  have key : ∀ d i, i + d = n → ∀ s, Inv i s → Evx (fun k => G k i s) C := by
    intro d
    induction d with
    | zero => intro i hi s hs; obtain rfl : i = n := by omega
              exact hend s hs
    | succ d ih => intro i hi s hs; exact hstep i s (by omega) hs (fun s' hs' => ih (i + 1) (by omega) s' hs')
  exact fun s hs => key n 0 (by omega) s hs
-- counting, taking, placing
theorem at_getD {α : Type} [Inhabited α] (xs : List α) (i : Int) : at_ xs i = xs.getD i.toNat default := rfl
theorem at_int {α : Type} [Inhabited α] {xs : List α} {i : Int} (h0 : 0 ≤ i) (h1 : i < (xs.length : Int)) : at_ xs i = xs[i.toNat]'(by omega) := by
  have h : i.toNat < xs.length := by omega
  rw [at_getD, List.getD_eq_getElem?_getD, List.getElem?_eq_getElem h]
  rfl
theorem at_mem {α : Type} [Inhabited α] {xs : List α} {i : Int} (h0 : 0 ≤ i) (h1 : i < (xs.length : Int)) : at_ xs i ∈ xs := by
  rw [at_int h0 h1]; exact List.getElem_mem _
theorem all_at {α : Type} [Inhabited α] {xs : List α} {p : α → Prop} (h : ∀ y, y ∈ xs → p y) {i : Int} (h0 : 0 ≤ i) (h1 : i < (xs.length : Int)) : p (at_ xs i) := h _ (at_mem h0 h1)
theorem all_idx {α : Type} [Inhabited α] {xs : List α} {p : α → Prop} (h : ∀ i, i < xs.length → p (at_ xs (i : Int))) {i : Int} (h0 : 0 ≤ i) (h1 : i < (xs.length : Int)) : p (at_ xs i) := by
  have := h i.toNat (by omega)
  rwa [show ((i.toNat : Nat) : Int) = i by omega] at this
theorem all_iff {α : Type} [Inhabited α] {xs : List α} {p : α → Prop} : (∀ i, i < xs.length → p (at_ xs (i : Int))) ↔ ∀ y, y ∈ xs → p y := by
  refine ⟨fun h y hy => ?_, fun h i hi => h _ (at_mem (by omega) (by omega))⟩
  obtain ⟨i, hi, rfl⟩ := List.getElem_of_mem hy
  have := h i hi
  rwa [at_nat hi] at this
theorem take_succ' {α : Type} {xs : List α} {i : Nat} (h : i < xs.length) : xs.take (i + 1) = xs.take i ++ [xs[i]] := List.take_succ_eq_append_getElem h
theorem count_take {α : Type} (p : α → Bool) {xs : List α} {i : Nat} (h : i < xs.length) : (xs.take (i + 1)).countP p = (xs.take i).countP p + (if p xs[i] then 1 else 0) := by
  rw [take_succ' h, List.countP_append, List.countP_singleton]
theorem count_le {α : Type} (p : α → Bool) (xs : List α) : xs.countP p ≤ xs.length := List.countP_le_length
theorem set_take {α : Type} {xs : List α} {i j : Nat} (v : α) (h : j < xs.length) : (xs.set i v)[j]'(by rw [List.length_set]; exact h) = if i = j then v else xs[j] := by rw [List.getElem_set]
theorem at_set_ne {α : Type} [Inhabited α] {xs : List α} {i : Nat} {j : Int} {v : α} (h0 : 0 ≤ j) (h : (i : Int) ≠ j) : at_ (xs.set i v) j = at_ xs j := by
  rw [at_getD, at_getD, List.getD_eq_getElem?_getD, List.getD_eq_getElem?_getD, List.getElem?_set_ne (by omega)]
theorem at_set_eq {α : Type} [Inhabited α] {xs : List α} {i : Nat} {v : α} (h : i < xs.length) : at_ (xs.set i v) (i : Int) = v := by
  rw [at_getD, List.getD_eq_getElem?_getD, Int.toNat_natCast, List.getElem?_set_self h]; rfl
theorem at_app_left {α : Type} [Inhabited α] (a b : List α) {i : Int} (h0 : 0 ≤ i) (h : i < (a.length : Int)) : at_ (a ++ b) i = at_ a i := by
  rw [at_getD, at_getD, List.getD_eq_getElem?_getD, List.getD_eq_getElem?_getD, List.getElem?_append_left (by omega)]
theorem at_app_right {α : Type} [Inhabited α] (a b : List α) {i : Int} (h : (a.length : Int) ≤ i) : at_ (a ++ b) i = at_ b (i - a.length) := by
  rw [at_getD, at_getD, List.getD_eq_getElem?_getD, List.getD_eq_getElem?_getD, List.getElem?_append_right (by omega)]
  congr 2; omega
theorem at_app_last {α : Type} [Inhabited α] (a : List α) (v : α) : at_ (a ++ [v]) (a.length : Int) = v := by
  rw [at_app_right a [v] (by omega), Int.sub_self]; rfl
theorem at_take {α : Type} [Inhabited α] (xs : List α) {n : Nat} {i : Int} (h0 : 0 ≤ i) (h : i < n) : at_ (xs.take n) i = at_ xs i := by
  rw [at_getD, at_getD, List.getD_eq_getElem?_getD, List.getD_eq_getElem?_getD, List.getElem?_take_of_lt (by omega)]
theorem at_rep {α : Type} [Inhabited α] (n : Nat) (v : α) {i : Int} (h0 : 0 ≤ i) (h : i < n) : at_ (List.replicate n v) i = v := by
  rw [at_int h0 (by simpa using h)]; simp
theorem tmod_of {a : Int} (b : Int) (h : 0 ≤ a) : a.tmod b = a % b := Int.tmod_eq_emod_of_nonneg h
theorem tdiv_of {a : Int} (b : Int) (h : 0 ≤ a) : a.tdiv b = a / b := Int.tdiv_eq_ediv_of_nonneg h
theorem range_at {n : Nat} {f : Nat → Int} {i : Int} (h0 : 0 ≤ i) (h : i < n) : at_ ((List.range n).map f) i = f i.toNat := by
  rw [at_int h0 (by simpa using h)]; simp
theorem range_set {α : Type} (n : Nat) (f : Nat → α) (i : Nat) (v : α) : ((List.range n).map f).set i v = (List.range n).map (fun j => if j = i then v else f j) := by
  refine List.ext_getElem (by simp) fun j h1 h2 => ?_
  simp only [List.getElem_set, List.getElem_map, List.getElem_range]
  by_cases e : i = j
  · rw [if_pos e, if_pos e.symm]
  · rw [if_neg e, if_neg (fun g => e g.symm)]
theorem range_congr {α : Type} {n : Nat} {f g : Nat → α} (h : ∀ j, j < n → f j = g j) : (List.range n).map f = (List.range n).map g :=
  List.map_congr_left fun j hj => h j (List.mem_range.1 hj)
/-- A loop that counts up and stops where P does not hold. -/
theorem ev_scan {R : Type} (n : Nat) (P : Nat → Prop) (bad : R) (G : Nat → Nat → Option R) {r : R} (hr : (∃ i, i < n ∧ ¬ P i) → r = bad)
    (hstep : ∀ i, i < n → (∀ j, j < i → P j) → (P i → Ev (fun k => G k (i + 1)) r) → (¬ P i → r = bad) → Ev (fun k => G k i) r)
    (hend : (∀ i, i < n → P i) → Ev (fun k => G k n) r) : Ev (fun k => G k 0) r := by
  have key : ∀ d i, i + d = n → (∀ j, j < i → P j) → Ev (fun k => G k i) r := by
    intro d
    induction d with
    | zero => intro i hi hp; obtain rfl : i = n := by omega
              exact hend hp
    | succ d ih =>
      intro i hi hp
      refine hstep i (by omega) hp (fun h => ih (i + 1) (by omega) fun j hj => ?_) (fun h => hr ⟨i, by omega, h⟩)
      rcases Nat.lt_or_ge j i with g | g
      · exact hp j g
      · obtain rfl : j = i := by omega
        exact h
  exact key n 0 (by omega) (fun j hj => absurd hj (by omega))
theorem bool_eq {b : Bool} {P : Prop} (hb : b = true ↔ P) (h : P) : b = true := hb.2 h
theorem not_all {n : Nat} {P : Nat → Prop} (h : ¬ ∀ i, i < n → P i) : ∃ i, i < n ∧ ¬ P i := by
  classical
  exact Classical.byContradiction fun g => h fun i hi => Classical.byContradiction fun q => g ⟨i, hi, q⟩
theorem mem_take_iff {α : Type} [Inhabited α] {xs : List α} {n : Nat} {v : α} (h : n ≤ xs.length) : v ∈ xs.take n ↔ ∃ i, i < n ∧ at_ xs (i : Int) = v := by
  constructor
  · intro hv
    obtain ⟨i, hi, e⟩ := List.getElem_of_mem hv
    rw [List.length_take] at hi
    rw [List.getElem_take] at e
    exact ⟨i, by omega, by rw [at_nat (by omega)]; exact e⟩
  · rintro ⟨i, hi, e⟩
    rw [at_nat (by omega)] at e
    rw [← e]
    exact List.mem_take_iff_getElem.2 ⟨i, by omega, rfl⟩
theorem mem_at {α : Type} [Inhabited α] {xs : List α} {v : α} : v ∈ xs ↔ ∃ i, i < xs.length ∧ at_ xs (i : Int) = v := by
  have := mem_take_iff (xs := xs) (v := v) (Nat.le_refl _)
  rwa [List.take_length] at this
open Classical in
/-- The first place where P holds, or -1. -/
noncomputable def firstI (n : Nat) (P : Nat → Prop) : Int := if h : ∃ i, i < n ∧ P i then ((Classical.choose (least_of h) : Nat) : Int) else -1
theorem firstI_spec (n : Nat) (P : Nat → Prop) : (firstI n P = -1 ∧ ∀ i, i < n → ¬ P i) ∨ ∃ i, i < n ∧ P i ∧ (∀ j, j < i → ¬ P j) ∧ firstI n P = (i : Int) := by
  classical
  unfold firstI
  by_cases h : ∃ i, i < n ∧ P i
  · rw [dif_pos h]
    have hs := Classical.choose_spec (least_of h)
    exact .inr ⟨_, hs.1.1, hs.1.2, fun j hj hp => hs.2 j hj ⟨by have := hs.1.1; omega, hp⟩, rfl⟩
  · rw [dif_neg h]
    exact .inl ⟨rfl, fun i hi hp => h ⟨i, hi, hp⟩⟩
theorem firstI_lo (n : Nat) (P : Nat → Prop) : -1 ≤ firstI n P ∧ firstI n P < (n : Int) ∧ (0 ≤ firstI n P ↔ ∃ i, i < n ∧ P i) := by
  rcases firstI_spec n P with ⟨h, h2⟩ | ⟨i, h1, h2, _, h3⟩
  · rw [h]; exact ⟨by omega, by omega, fun g => by omega, fun ⟨i, hi, hp⟩ => absurd hp (h2 i hi)⟩
  · rw [h3]; exact ⟨by omega, by omega, fun _ => ⟨i, h1, h2⟩, fun _ => by omega⟩
theorem firstI_at {n : Nat} {P : Nat → Prop} (h : 0 ≤ firstI n P) : P (firstI n P).toNat := by
  rcases firstI_spec n P with ⟨h1, _⟩ | ⟨i, h1, h2, _, h3⟩
  · omega
  · rw [h3]; exact h2
theorem firstI_find {R : Type} (n : Nat) (P : Nat → Prop) (out : Int → R) : FindR n P (fun i => out (i : Int)) (out (-1)) (out (firstI n P)) := by
  rcases firstI_spec n P with ⟨h, h2⟩ | ⟨i, h1, h2, h4, h3⟩
  · exact .inl ⟨by rw [h], h2⟩
  · exact .inr ⟨i, h1, h2, h4, by rw [h3]⟩
theorem firstI_congr {n : Nat} {P Q : Nat → Prop} (h : ∀ i, i < n → (P i ↔ Q i)) : firstI n P = firstI n Q := by
  rcases firstI_spec n P with ⟨h1, h2⟩ | ⟨i, h1, h2, h4, h3⟩
  · rcases firstI_spec n Q with ⟨g1, g2⟩ | ⟨j, g1, g2, g4, g3⟩
    · rw [h1, g1]
    · exact absurd ((h j g1).2 g2) (h2 j g1)
  · rcases firstI_spec n Q with ⟨g1, g2⟩ | ⟨j, g1, g2, g4, g3⟩
    · exact absurd ((h i h1).1 h2) (g2 i h1)
    · rw [h3, g3]
      rcases Nat.lt_trichotomy i j with w | w | w
      · exact absurd ((h i h1).1 h2) (g4 i w)
      · rw [w]
      · exact absurd ((h j g1).2 g2) (h4 j w)
theorem firstI_eq {n : Nat} {P : Nat → Prop} {i : Nat} (h : i < n) (hp : P i) (hm : ∀ j, j < i → ¬ P j) : firstI n P = (i : Int) := by
  rcases firstI_spec n P with ⟨_, h2⟩ | ⟨j, h1, h2, h4, h3⟩
  · exact absurd hp (h2 i h)
  · rw [h3]
    rcases Nat.lt_trichotomy i j with w | w | w
    · exact absurd hp (h4 i w)
    · rw [w]
    · exact absurd h2 (hm j w)
theorem firstI_no {n : Nat} {P : Nat → Prop} (h : ∀ i, i < n → ¬ P i) : firstI n P = -1 := by
  rcases firstI_spec n P with ⟨h1, _⟩ | ⟨j, h1, h2, _, _⟩
  · exact h1
  · exact absurd h2 (h j h1)
/-- .. and what it gives hangs on where it stops. -/
theorem ev_scan2 {R : Type} (n : Nat) (P : Nat → Prop) (bad : Nat → R) (G : Nat → Nat → Option R) {r : R} (hr : ∀ i, i < n → ¬ P i → (∀ j, j < i → P j) → r = bad i)
    (hstep : ∀ i, i < n → (∀ j, j < i → P j) → (P i → Ev (fun k => G k (i + 1)) r) → (¬ P i → r = bad i) → Ev (fun k => G k i) r)
    (hend : (∀ i, i < n → P i) → Ev (fun k => G k n) r) : Ev (fun k => G k 0) r := by
  have key : ∀ d i, i + d = n → (∀ j, j < i → P j) → Ev (fun k => G k i) r := by
    intro d
    induction d with
    | zero => intro i hi hp; obtain rfl : i = n := by omega
              exact hend hp
    | succ d ih =>
      intro i hi hp
      refine hstep i (by omega) hp (fun h => ih (i + 1) (by omega) fun j hj => ?_) (fun h => hr i (by omega) h hp)
      rcases Nat.lt_or_ge j i with g | g
      · exact hp j g
      · obtain rfl : j = i := by omega
        exact h
  exact key n 0 (by omega) (fun j hj => absurd hj (by omega))
theorem eq_impl_between (a b c : Int) : impl_between.f a b c = some (decide (b ≤ a ∧ a ≤ c)) := by
  unfold impl_between.f
  by_cases h : a ≥ b
  · rw [if_pos h]; simp [show b ≤ a from h]
  · rw [if_neg h]; simp [show ¬ b ≤ a from h]
theorem eq_spec_l01In (a b c : Int) : spec_l01In.f a b c = some (decide (b ≤ a ∧ a ≤ c)) := by
  unfold spec_l01In.f
  by_cases h : b ≤ a
  · rw [if_pos h]; simp [h]
  · rw [if_neg h]; simp [h]
theorem sz_CallS (x : (List S48)) (left : Int) (h0 : 0 ≤ left) (h1 : left ≤ 1048576) (ho : (x.length ≤ maxLen ∧ ∀ y ∈ x, ok48 y)) : Evx (fun k => laws_szCallS.f x left) (fun r => r < 0 ∨ (0 ≤ r ∧ r ≤ left ∧ (x.length ≤ 1048576))) := by
  have hm : maxLen = 9223372036854775807 := rfl
  unfold laws_szCallS.f
  obtain ⟨hl, hy⟩ := ho
  rw [wrap_id (by omega) (by omega)]
  refine Evx.ite (fun h => Evx.val (.inl (by decide))) (fun h => ?_)
  exact Evx.val (.inr ⟨by omega, by omega, by omega⟩)
theorem sz_Trip (x : S23) (left : Int) (h0 : 0 ≤ left) (h1 : left ≤ 1048576) (ho : ok23 x) : Evx (fun k => laws_szTrip.f x left) (fun r => r < 0 ∨ (0 ≤ r ∧ r ≤ left ∧ (x.f0.size ≤ 1048576 ∧ (x.f1.length ≤ 1048576)))) := by
  have hm : maxLen = 9223372036854775807 := rfl
  unfold laws_szTrip.f
  unfold ok23 at ho
  obtain ⟨o0, o1⟩ := ho
  rw [wrap_id (x := left - (x.f0.size : Int)) (by omega) (by omega)]
  refine Evx.ite (fun h => Evx.val (.inl (by decide))) (fun h0_ => ?_)
  refine Evx.bind (sz_CallS x.f1 (left - (x.f0.size : Int)) (by omega) (by omega) o1) (fun r1 hr1 => ?_)
  refine Evx.ite (fun h => Evx.val (.inl (by decide))) (fun h1_ => ?_)
  obtain ⟨p1, q1, b1⟩ := hr1.resolve_left h1_
  exact Evx.val (.inr ⟨by omega, by omega, (by omega), b1⟩)
theorem to_Call (x : S48) (hb : True) : Ev (fun k => laws_toCall.f x) x := by
  unfold laws_toCall.f
  exact ev_val rfl
theorem to_CallS (x : (List S48)) (hb : (x.length ≤ 1048576)) : Ev (fun k => laws_toCallS.f k x) x := by
  unfold laws_toCallS.f
  have hl := hb
  refine Ev.pos (by omega) (Ev.pos (by omega) ?_)
  rw [Int.toNat_natCast]
  refine ev_fill x id _ (fun k s i => laws_toCallS.l0 k x s (i : Int)) ?_ ?_
  · intro i hi s hs hn
    refine Ev.step (fun k => by simp only [laws_toCallS.l0]; rfl) ?_
    refine Ev.pos (by omega) (Ev.pos (by omega) ?_)
    rw [at_nat hi]
    refine Ev.bind (to_Call x[i] trivial) ?_
    refine Ev.pos (by omega) ?_
    rw [Int.toNat_natCast, wrap_succ hi (by omega)]
    exact hn
  · refine Ev.step (fun k => by simp only [laws_toCallS.l0]; rfl) ?_
    refine Ev.neg (by omega) (ev_val (List.map_id x))
abbrev cv23_28 (x : S23) : S28 := ⟨x.f0, x.f1⟩
theorem bd_cv23_28 (x : S23) (h : (x.f0.size ≤ 1048576 ∧ (x.f1.length ≤ 1048576))) : ((cv23_28 x).f0.size ≤ 1048576 ∧ ((cv23_28 x).f1.length ≤ 1048576)) := ⟨h.1, h.2⟩
theorem to_Trip (x : S23) (hb : (x.f0.size ≤ 1048576 ∧ (x.f1.length ≤ 1048576))) : Ev (fun k => laws_toTrip.f k x) (cv23_28 x) := by
  unfold laws_toTrip.f
  refine Ev.bind (to_CallS x.f1 hb.2) ?_
  exact ev_val rfl
theorem eq_Call (x : S48) (hb : True) : Ev (fun k => laws_eqCall.f x x) true := by
  unfold laws_eqCall.f
  refine Ev.pos rfl ?_
  refine Ev.pos rfl ?_
  refine Ev.pos rfl ?_
  exact ev_val rfl
theorem eq_CallS (x : (List S48)) (hb : (x.length ≤ 1048576)) : Ev (fun k => laws_eqCallS.f k x x) true := by
  unfold laws_eqCallS.f
  have hl := hb
  refine Ev.pos rfl ?_
  refine ev_fold (fun k i => laws_eqCallS.l0 k x x (i : Int)) x.length ?_ ?_
  · intro i hi hn
    refine Ev.step (fun k => by simp only [laws_eqCallS.l0]; rfl) ?_
    refine Ev.pos (by omega) (Ev.pos (by omega) ?_)
    try refine Ev.pos (by omega) ?_
    rw [at_nat hi]
    refine Ev.bind (eq_Call x[i] trivial) ?_
    refine Ev.pos (by first | rfl | simp) ?_
    rw [wrap_succ hi (by omega)]
    exact hn
  · refine Ev.step (fun k => by simp only [laws_eqCallS.l0]; rfl) ?_
    exact Ev.neg (by omega) (ev_val rfl)
theorem eq_Trip (x : S28) (hb : (x.f0.size ≤ 1048576 ∧ (x.f1.length ≤ 1048576))) : Ev (fun k => laws_eqTrip.f k x x) true := by
  unfold laws_eqTrip.f
  refine Ev.pos (by simp [sEq]) ?_
  refine Ev.bind (eq_CallS x.f1 hb.2) ?_
  refine Ev.pos rfl ?_
  exact ev_val rfl
theorem eq_TripS (x : (List S28)) (hb : (x.length ≤ 1048576 ∧ ∀ y ∈ x, (y.f0.size ≤ 1048576 ∧ (y.f1.length ≤ 1048576)))) : Ev (fun k => laws_eqTripS.f k x x) true := by
  unfold laws_eqTripS.f
  obtain ⟨hl, hy⟩ := hb
  refine Ev.pos rfl ?_
  refine ev_fold (fun k i => laws_eqTripS.l0 k x x (i : Int)) x.length ?_ ?_
  · intro i hi hn
    refine Ev.step (fun k => by simp only [laws_eqTripS.l0]; rfl) ?_
    refine Ev.pos (by omega) (Ev.pos (by omega) ?_)
    try refine Ev.pos (by omega) ?_
    rw [at_nat hi]
    refine Ev.bind (eq_Trip x[i] (hy _ (List.getElem_mem hi))) ?_
    refine Ev.pos (by first | rfl | simp) ?_
    rw [wrap_succ hi (by omega)]
    exact hn
  · refine Ev.step (fun k => by simp only [laws_eqTripS.l0]; rfl) ?_
    exact Ev.neg (by omega) (ev_val rfl)
def mk_CallS (a : Int) (i : Nat) : S48 := (⟨a + 3 * (i : Int), a + 3 * (i : Int) + 1, a + 3 * (i : Int) + 2⟩ : S48)
def mkd_CallS (m : Nat) (a : Int) : List S48 := (List.range m).map (mk_CallS a)
theorem mkl_CallS (m : Nat) (a : Int) : (mkd_CallS m a).length = m := by simp [mkd_CallS]
theorem mks_CallS (i : Nat) (a : Int) (x : (List S48)) (hi : i < x.length) : (mkd_CallS i a ++ x.drop i).set i (mk_CallS a i) = mkd_CallS (i + 1) a ++ x.drop (i + 1) := by
  rw [List.set_append_right _ _ (by rw [mkl_CallS]; omega), mkl_CallS, Nat.sub_self, List.drop_eq_getElem_cons hi, List.set_cons_zero]
  simp [mkd_CallS, List.range_succ]
theorem mark_CallS (x : (List S48)) (hl : x.length ≤ 4194304) (a : Int) (h0 : 0 ≤ a) (h1 : a ≤ 1152921504606846976) : Ev (fun k => laws_markCallS.f k x a) (a + 3 * (x.length : Int), mkd_CallS x.length a) := by
  unfold laws_markCallS.f
  have hlen : ∀ i, i < x.length → (mkd_CallS i a ++ x.drop i).length = x.length := by
    intro i hi
    rw [List.length_append, mkl_CallS, List.length_drop]; omega
  have key := ev_fold (fun k i => laws_markCallS.l0 k (mkd_CallS i a ++ x.drop i) (a + 3 * (i : Int)) (i : Int)) x.length (r := (a + 3 * (x.length : Int), mkd_CallS x.length a)) ?_ ?_
  · have e : a + 3 * 0 = a := by omega
    simpa [mkd_CallS] using key
  · intro i hi hn
    refine Ev.step (fun k => by simp only [laws_markCallS.l0]; rfl) ?_
    refine Ev.pos (by rw [hlen i hi]; omega) (Ev.pos (by omega) ?_)
    try simp only [if_pos (show (i : Int) < ((mkd_CallS i a ++ x.drop i).length : Int) by rw [hlen i hi]; omega)]
    rw [Int.toNat_natCast]
    rw [wrap_id (x := a + 3 * (i : Int) + 1) (by omega) (by omega)]
    rw [wrap_id (x := a + 3 * (i : Int) + 1 + 1) (by omega) (by omega), show a + 3 * (i : Int) + 1 + 1 = a + 3 * (i : Int) + 2 by omega]
    rw [wrap_id (x := a + 3 * (i : Int) + 2 + 1) (by omega) (by omega)]
    have e := mks_CallS i a x hi
    unfold mk_CallS at e
    rw [e, wrap_succ hi (by omega), show a + 3 * (i : Int) + 2 + 1 = a + 3 * ((i + 1 : Nat) : Int) by omega]
    exact hn
  · refine Ev.step (fun k => by simp only [laws_markCallS.l0]; rfl) ?_
    have e : mkd_CallS x.length a ++ x.drop x.length = mkd_CallS x.length a := by simp
    rw [e]
    exact Ev.neg (by rw [mkl_CallS]; omega) (ev_val rfl)
theorem mark_Trip (x : S28) (hb : (x.f0.size ≤ 1048576 ∧ (x.f1.length ≤ 1048576))) (a : Int) (h0 : 0 ≤ a) (h1 : a ≤ 1073741824) : Ev (fun k => laws_markTrip.f k x a) (a + 3 * (x.f1.length : Int), mkd_CallS x.f1.length (a)) := by
  unfold laws_markTrip.f
  have l0 := hb.1
  have l1 := hb.2
  refine Ev.bind (mark_CallS x.f1 (by omega) (a) (by omega) (by omega)) ?_
  exact ev_val rfl
theorem held_CallS (m : Nat) (hl : m ≤ 4194304) (a : Int) (h0 : 0 ≤ a) (h1 : a ≤ 1152921504606846976) : Ev (fun k => laws_heldCallS.f k (mkd_CallS m a) a) (a + 3 * (m : Int)) := by
  unfold laws_heldCallS.f
  have e : ∀ i (hi : i < m), (mkd_CallS m a)[i]'(by rw [mkl_CallS]; exact hi) = mk_CallS a i := by
    intro i hi
    simp [mkd_CallS]
  have key := ev_fold (fun k i => laws_heldCallS.l0 k (mkd_CallS m a) (a + 3 * (i : Int)) (i : Int)) m (r := a + 3 * (m : Int)) ?_ ?_
  · simpa using key
  · intro i hi hn
    refine Ev.step (fun k => by simp only [laws_heldCallS.l0]; rfl) ?_
    refine Ev.pos (by rw [mkl_CallS]; omega) (Ev.pos (by omega) ?_)
    rw [at_nat (show i < (mkd_CallS m a).length by rw [mkl_CallS]; exact hi), e i hi]
    unfold mk_CallS
    refine Ev.pos rfl ?_
    rw [wrap_id (x := a + 3 * (i : Int) + 1) (by omega) (by omega)]
    refine Ev.pos (by first | rfl | (dsimp only; omega) | simp) ?_
    rw [wrap_id (x := a + 3 * (i : Int) + 1 + 1) (by omega) (by omega), show a + 3 * (i : Int) + 1 + 1 = a + 3 * (i : Int) + 2 by omega]
    refine Ev.pos (by first | rfl | (dsimp only; omega) | simp) ?_
    rw [wrap_id (x := a + 3 * (i : Int) + 2 + 1) (by omega) (by omega)]
    rw [wrap_succ hi (by omega), show a + 3 * (i : Int) + 2 + 1 = a + 3 * ((i + 1 : Nat) : Int) by omega]
    exact hn
  · refine Ev.step (fun k => by simp only [laws_heldCallS.l0]; rfl) ?_
    exact Ev.neg (by rw [mkl_CallS]; omega) (ev_val rfl)
def ChP (b : Int) : Prop := (97 ≤ b ∧ b ≤ 122) ∨ (48 ≤ b ∧ b ≤ 57)
def NameP (s : ByteArray) : Prop := (1 ≤ s.size ∧ s.size ≤ 12) ∧ ∀ i, i < s.size → ChP (bt s (i : Int))
def CallP (cs : List S48) (i : Nat) : Prop := (0 ≤ (at_ cs (i : Int)).f0 ∧ (at_ cs (i : Int)).f0 ≤ 29) ∧ (0 ≤ (at_ cs (i : Int)).f1 ∧ (at_ cs (i : Int)).f1 ≤ (at_ cs (i : Int)).f2) ∧ (at_ cs (i : Int)).f2 ≤ 100000 ∧ (0 < i → (at_ cs ((i : Int) - 1)).f2 < (at_ cs (i : Int)).f1 ∧ (at_ cs ((i : Int) - 1)).f0 ≠ (at_ cs (i : Int)).f0)
def TripP (t : S28) : Prop := NameP t.f0 ∧ (2 ≤ t.f1.length ∧ t.f1.length ≤ 12) ∧ ∀ i, i < t.f1.length → CallP t.f1 i
def TripB (t : S28) : Prop := t.f0.size ≤ 1048576 ∧ t.f1.length ≤ 1048576
theorem eq_impl_isMinute (a : Int) : impl_isMinute.f a = some (decide (0 ≤ a ∧ a ≤ 100000)) := by
  unfold impl_isMinute.f
  rw [eq_impl_between]
  rfl
theorem ev_spec_l01Name (s : ByteArray) (hs : s.size ≤ 1048576) (b : Bool) (hb : b = true ↔ NameP s) : Ev (fun k => spec_l01Name.f k s) b := by
  unfold spec_l01Name.f
  refine ev_scan s.size (fun i => ChP (bt s (i : Int))) false (fun k i => spec_l01Name.l0 k s (i : Int)) (fun ⟨i, hi, h⟩ => bool_not hb fun g => h (g.2 i hi)) ?_ ?_
  · intro i hi _ hn hx
    refine Ev.step (fun k => by simp only [spec_l01Name.l0]; rfl) ?_
    rw [wrap_succ hi (by omega)]
    unfold ChP at hn hx
    have no : ¬ (97 ≤ bt s (i : Int) ∧ bt s (i : Int) ≤ 122 ∨ 48 ≤ bt s (i : Int) ∧ bt s (i : Int) ≤ 57) → Ev (fun _ => some false) b := fun h => ev_val (hx h).symm
    refine Ev.pos (by omega) (Ev.pos (by omega) (Ev.ite (fun h1 => Ev.ite (fun h2 => hn (.inl ⟨h1, h2⟩)) (fun h2 => Ev.ite (fun h3 => Ev.ite (fun h4 => hn (.inr ⟨h3, h4⟩)) (fun h4 => no (by omega))) (fun h3 => no (by omega)))) (fun h1 => Ev.ite (fun h3 => Ev.ite (fun h4 => hn (.inr ⟨h3, h4⟩)) (fun h4 => no (by omega))) (fun h3 => no (by omega)))))
  · intro hp
    refine Ev.step (fun k => by simp only [spec_l01Name.l0]; rfl) ?_
    refine Ev.neg (by omega) (Ev.opt (eq_spec_l01In _ _ _) (ev_val ?_))
    rw [Bool.eq_iff_iff, decide_eq_true_iff, hb]
    exact ⟨fun g => ⟨by omega, hp⟩, fun g => by have := g.1; omega⟩
theorem ev_impl_nameOk (s : ByteArray) (hs : s.size ≤ 1048576) (b : Bool) (hb : b = true ↔ NameP s) : Ev (fun k => impl_nameOk.f k s) b := by
  unfold impl_nameOk.f
  have bad : ¬ NameP s → b = false := bool_not hb
  refine Ev.ite (fun h => ev_val (bad fun g => by have := g.1; omega).symm) (fun g1 => Ev.ite (fun h => ev_val (bad fun g => by have := g.1; omega).symm) (fun g2 => ?_))
  refine ev_scan s.size (fun i => ChP (bt s (i : Int))) false (fun k i => impl_nameOk.l0 k s (i : Int)) (fun ⟨i, hi, h⟩ => bool_not hb fun g => h (g.2 i hi)) ?_ ?_
  · intro i hi _ hn hx
    refine Ev.step (fun k => by simp only [impl_nameOk.l0]; rfl) ?_
    rw [wrap_succ hi (by omega)]
    unfold ChP at hn hx
    have no : ¬ (97 ≤ bt s (i : Int) ∧ bt s (i : Int) ≤ 122 ∨ 48 ≤ bt s (i : Int) ∧ bt s (i : Int) ≤ 57) → Ev (fun _ => some false) b := fun h => ev_val (hx h).symm
    refine Ev.pos (by omega) (Ev.pos (by omega) (Ev.ite (fun h1 => ?_) (fun h1 => ?_)))
    · exact Ev.ite (fun h => no (by omega)) (fun h3 => Ev.ite (fun h => no (by omega)) (fun h4 => hn (.inr (by omega))))
    · exact Ev.ite (fun h2 => Ev.ite (fun h => no (by omega)) (fun h3 => Ev.ite (fun h => no (by omega)) (fun h4 => hn (.inr (by omega))))) (fun h2 => hn (.inl (by omega)))
  · intro hp
    refine Ev.step (fun k => by simp only [impl_nameOk.l0]; rfl) ?_
    exact Ev.neg (by omega) (ev_val (hb.2 ⟨by omega, hp⟩).symm)
theorem ev_spec_TripOk (t : S28) (hs : t.f0.size ≤ 1048576) (hl : t.f1.length ≤ 1048576) (b : Bool) (hb : b = true ↔ TripP t) : Ev (fun k => spec_TripOk.f k t) b := by
  classical
  unfold spec_TripOk.f
  have bad : ¬ TripP t → b = false := bool_not hb
  refine Ev.bind (ev_spec_l01Name t.f0 hs (decide (NameP t.f0)) decide_eq_true_iff) (Ev.ite (fun g1 => ?_) (fun h => ev_val (bad fun g => h (decide_eq_true g.1)).symm))
  refine Ev.opt (eq_spec_l01In _ _ _) (Ev.ite (fun g2 => ?_) (fun h => ev_val (bad fun g => h (decide_eq_true (by have := g.2.1; omega))).symm))
  have g2 := of_decide_eq_true g2
  refine ev_scan t.f1.length (CallP t.f1) false (fun k i => spec_TripOk.l0 k t (i : Int)) (fun ⟨i, hi, h⟩ => bad fun g => h (g.2.2 i hi)) ?_ ?_
  · intro i hi _ hn hx
    refine Ev.step (fun k => by simp only [spec_TripOk.l0]; rfl) ?_
    rw [wrap_succ hi (by omega), wrap_id (x := (i : Int) - 1) (by omega) (by omega)]
    unfold CallP at hn hx
    refine Ev.pos (by omega) (Ev.pos (by omega) (Ev.opt (eq_spec_l01In _ _ _) (Ev.ite (fun q1 => ?_) (fun h => ev_val (hx fun g => h (decide_eq_true g.1)).symm))))
    have q1 := of_decide_eq_true q1
    refine Ev.opt (eq_spec_l01In _ _ _) (Ev.ite (fun q2 => ?_) (fun h => ev_val (hx fun g => h (decide_eq_true (by omega))).symm))
    have q2 := of_decide_eq_true q2
    refine Ev.opt (eq_spec_l01In _ _ _) (Ev.ite (fun q3 => ?_) (fun h => ev_val (hx fun g => h (decide_eq_true (by omega))).symm))
    have q3 := of_decide_eq_true q3
    refine Ev.ite (fun h0 => ?_) (fun h0 => hn ⟨q1, q3, by omega, fun g => by omega⟩)
    refine Ev.pos (by omega) (Ev.pos (by omega) (Ev.ite (fun h => ev_val (hx fun g => by have := g.2.2.2 (by omega); omega).symm) (fun h1 => Ev.ite (fun h => ev_val (hx fun g => (g.2.2.2 (by omega)).2 h).symm) (fun h2 => hn ⟨q1, q3, by omega, fun _ => ⟨by omega, h2⟩⟩))))
  · intro hp
    refine Ev.step (fun k => by simp only [spec_TripOk.l0]; rfl) ?_
    exact Ev.neg (by omega) (ev_val (hb.2 ⟨of_decide_eq_true g1, by omega, hp⟩).symm)
theorem ev_impl_TripOk (t : S28) (hs : t.f0.size ≤ 1048576) (hl : t.f1.length ≤ 1048576) (b : Bool) (hb : b = true ↔ TripP t) : Ev (fun k => impl_TripOk.f k t) b := by
  classical
  unfold impl_TripOk.f
  have bad : ¬ TripP t → b = false := bool_not hb
  refine Ev.bind (ev_impl_nameOk t.f0 hs (decide (NameP t.f0)) decide_eq_true_iff) (Ev.ite (fun g1 => ?_) (fun h => ev_val (bad fun g => h (decide_eq_true g.1)).symm))
  refine Ev.opt (eq_impl_between _ _ _) (Ev.ite (fun g2 => ?_) (fun h => ev_val (bad fun g => h (decide_eq_true (by have := g.2.1; omega))).symm))
  have g2 := of_decide_eq_true g2
  refine ev_scan t.f1.length (CallP t.f1) false (fun k i => impl_TripOk.l0 k t (i : Int)) (fun ⟨i, hi, h⟩ => bad fun g => h (g.2.2 i hi)) ?_ ?_
  · intro i hi _ hn hx
    refine Ev.step (fun k => by simp only [impl_TripOk.l0]; rfl) ?_
    rw [wrap_succ hi (by omega), wrap_id (x := (i : Int) - 1) (by omega) (by omega)]
    unfold CallP at hn hx
    refine Ev.pos (by omega) (Ev.pos (by omega) (Ev.opt (eq_impl_between _ _ _) (Ev.ite (fun q1 => ?_) (fun h => ev_val (hx fun g => h (decide_eq_true g.1)).symm))))
    have q1 := of_decide_eq_true q1
    refine Ev.opt (eq_impl_isMinute _) (Ev.ite (fun q2 => ?_) (fun h => ev_val (hx fun g => h (decide_eq_true (by omega))).symm))
    have q2 := of_decide_eq_true q2
    refine Ev.opt (eq_impl_isMinute _) (Ev.ite (fun q3 => ?_) (fun h => ev_val (hx fun g => h (decide_eq_true (by omega))).symm))
    have q3 := of_decide_eq_true q3
    refine Ev.ite (fun h => ev_val (hx fun g => by omega).symm) (fun h4 => Ev.ite (fun h0 => ?_) (fun h0 => hn ⟨q1, by omega, by omega, fun g => by omega⟩))
    refine Ev.pos (by omega) (Ev.pos (by omega) (Ev.ite (fun h => ev_val (hx fun g => by have := g.2.2.2 (by omega); omega).symm) (fun h1 => Ev.ite (fun h => ev_val (hx fun g => (g.2.2.2 (by omega)).2 h.symm).symm) (fun h2 => hn ⟨q1, by omega, by omega, fun _ => ⟨by omega, fun g => h2 g.symm⟩⟩))))
  · intro hp
    refine Ev.step (fun k => by simp only [impl_TripOk.l0]; rfl) ?_
    exact Ev.neg (by omega) (ev_val (hb.2 ⟨of_decide_eq_true g1, by omega, hp⟩).symm)
theorem ev_impl_tripNamed (ts : List S28) (s : ByteArray) (hl : ts.length ≤ 1048576) : Evx (fun k => impl_tripNamed.f k ts s) (fun r => (0 ≤ r ↔ ∃ j, j < ts.length ∧ sEq (at_ ts (j : Int)).f0 s = true)) := by
  classical
  unfold impl_tripNamed.f slices_IndexFunc_1.f
  obtain ⟨r, hr⟩ := FindR.exists ts.length (fun j => sEq (at_ ts (j : Int)).f0 s = true) (fun j => ((j : Int), s)) (((-1 : Int)), s)
  refine Evx.bind (P := fun x => x = r) (Evx.of ?_ rfl) (fun x hx => ?_)
  · refine ev_find ts.length (fun j => sEq (at_ ts (j : Int)).f0 s = true) (fun j => ((j : Int), s)) ((-1 : Int), s) r (fun k i => slices_IndexFunc_1.l0 k ts s (i : Int)) hr ?_ ?_ ?_
    · intro i hi hc hn
      refine Ev.step (fun k => by simp only [slices_IndexFunc_1.l0, impl_tripNamed_1.f, Option.bind_some]; rfl) ?_
      rw [wrap_succ hi (by omega)]
      exact Ev.pos (by omega) (Ev.pos (by omega) (Ev.neg hc hn))
    · intro i hi hc _
      refine Ev.step (fun k => by simp only [slices_IndexFunc_1.l0, impl_tripNamed_1.f, Option.bind_some]; rfl) ?_
      exact Ev.pos (by omega) (Ev.pos (by omega) (Ev.pos hc (ev_val rfl)))
    · intro _
      refine Ev.step (fun k => by simp only [slices_IndexFunc_1.l0]; rfl) ?_
      exact Ev.neg (by omega) (ev_val rfl)
  · subst hx
    refine Evx.val ?_
    rcases hr with ⟨rfl, h⟩ | ⟨i, h1, h2, _, rfl⟩
    · exact ⟨fun g => absurd g (by show ¬ (0 ≤ (-1 : Int)); omega), fun ⟨j, hj, g⟩ => absurd g (h j hj)⟩
    · exact ⟨fun _ => ⟨i, h1, h2⟩, fun _ => by show 0 ≤ (i : Int); omega⟩
def NewP (ts : List S28) (i : Nat) : Prop := TripP (at_ ts (i : Int)) ∧ ∀ j, j < i → sEq (at_ ts (j : Int)).f0 (at_ ts (i : Int)).f0 ≠ true
def TableP (ts : List S28) : Prop := ts.length ≤ 24 ∧ ∀ i, i < ts.length → NewP ts i
def TableB (ts : List S28) : Prop := ts.length ≤ 1048576 ∧ ∀ y, y ∈ ts → TripB y
theorem ev_spec_TableOk (ts : List S28) (hB : TableB ts) (b : Bool) (hb : b = true ↔ TableP ts) : Ev (fun k => spec_TableOk.f k ts) b := by
  classical
  obtain ⟨B0, B1⟩ := hB
  unfold spec_TableOk.f
  have bad : ¬ TableP ts → b = false := bool_not hb
  refine Ev.ite (fun h => ev_val (bad fun g => by have := g.1; omega).symm) (fun g1 => ?_)
  refine ev_scan ts.length (NewP ts) false (fun k i => spec_TableOk.l0 k ts (i : Int)) (fun ⟨i, hi, h⟩ => bad fun g => h (g.2 i hi)) ?_ ?_
  · intro i hi _ hn hx
    have hy := B1 _ (at_mem (xs := ts) (i := (i : Int)) (by omega) (by omega))
    refine Ev.step (fun k => by simp only [spec_TableOk.l0]; rfl) ?_
    refine Ev.pos (by omega) (Ev.pos (by omega) (Ev.bind (ev_spec_TripOk _ hy.1 hy.2 (decide (TripP (at_ ts (i : Int)))) decide_eq_true_iff) (Ev.ite (fun g => ?_) (fun h => ev_val (hx fun g => h (decide_eq_true g.1)).symm))))
    refine ev_scan i (fun j => sEq (at_ ts (j : Int)).f0 (at_ ts (i : Int)).f0 ≠ true) false (fun k j => spec_TableOk.l1 k ts (i : Int) (j : Int)) (fun ⟨j, hj, h⟩ => hx fun g => h (g.2 j hj)) ?_ ?_
    · intro j hj _ hn2 hx2
      refine Ev.step (fun k => by simp only [spec_TableOk.l1]; rfl) ?_
      rw [wrap_succ hj (by omega)]
      exact Ev.pos (by omega) (Ev.pos (by omega) (Ev.pos (by omega) (Ev.pos (by omega) (Ev.pos (by omega) (Ev.ite (fun h => ev_val (hx2 fun g => g h).symm) (fun h => hn2 h))))))
    · intro hN
      refine Ev.step (fun k => by simp only [spec_TableOk.l1]; rfl) ?_
      rw [wrap_succ hi (by omega)]
      exact Ev.neg (by omega) (hn ⟨of_decide_eq_true g, hN⟩)
  · intro hp
    refine Ev.step (fun k => by simp only [spec_TableOk.l0]; rfl) ?_
    exact Ev.neg (by omega) (ev_val (hb.2 ⟨by omega, hp⟩).symm)
theorem ev_impl_TableOk (ts : List S28) (hB : TableB ts) (b : Bool) (hb : b = true ↔ TableP ts) : Ev (fun k => impl_TableOk.f k ts) b := by
  classical
  obtain ⟨B0, B1⟩ := hB
  unfold impl_TableOk.f
  have bad : ¬ TableP ts → b = false := bool_not hb
  refine Ev.ite (fun h => ev_val (bad fun g => by have := g.1; omega).symm) (fun g1 => ?_)
  refine ev_scan ts.length (NewP ts) false (fun k i => impl_TableOk.l0 k ts (i : Int)) (fun ⟨i, hi, h⟩ => bad fun g => h (g.2 i hi)) ?_ ?_
  · intro i hi _ hn hx
    have hy := B1 _ (at_mem (xs := ts) (i := (i : Int)) (by omega) (by omega))
    refine Ev.step (fun k => by simp only [impl_TableOk.l0]; rfl) ?_
    refine Ev.pos (by omega) (Ev.pos (by omega) (Ev.bind (ev_impl_TripOk _ hy.1 hy.2 (decide (TripP (at_ ts (i : Int)))) decide_eq_true_iff) (Ev.ite (fun g => ?_) (fun h => ev_val (hx fun g => h (decide_eq_true g.1)).symm))))
    refine Ev.pos (by omega) ?_
    rw [Int.toNat_natCast, show (0 : Int).toNat = 0 from rfl, List.drop_zero, Nat.sub_zero, wrap_succ hi (by omega)]
    have hlt : (ts.take i).length = i := by rw [List.length_take]; omega
    obtain ⟨r, e1, e2⟩ := ev_impl_tripNamed (ts.take i) (at_ ts (i : Int)).f0 (by omega)
    have e3 : 0 ≤ r ↔ ∃ j, j < i ∧ sEq (at_ ts (j : Int)).f0 (at_ ts (i : Int)).f0 = true := by
      rw [e2, hlt]
      exact ⟨fun ⟨j, hj, g⟩ => ⟨j, hj, by rw [at_take ts (by omega) (by omega)] at g; exact g⟩, fun ⟨j, hj, g⟩ => ⟨j, hj, by rw [at_take ts (by omega) (by omega)]; exact g⟩⟩
    refine Ev.bind e1 (Ev.ite (fun h => ev_val (hx fun q => ?_).symm) (fun h => hn ⟨of_decide_eq_true g, fun j hj q => h (e3.2 ⟨j, hj, q⟩)⟩))
    obtain ⟨j, hj, w⟩ := e3.1 h
    exact q.2 j hj w
  · intro hp
    refine Ev.step (fun k => by simp only [impl_TableOk.l0]; rfl) ?_
    exact Ev.neg (by omega) (ev_val (hb.2 ⟨by omega, hp⟩).symm)
theorem trips_bd (x : List S23) (b : x.length ≤ 1048576 ∧ ∀ y ∈ x, (y.f0.size ≤ 1048576 ∧ (y.f1.length ≤ 1048576))) (cv : S23 → S28) (h : ∀ y, (cv y).f0 = y.f0 ∧ (cv y).f1 = y.f1) : TableB (x.map cv) := by
  refine ⟨by rw [List.length_map]; exact b.1, fun y hy => ?_⟩
  obtain ⟨z, hz, rfl⟩ := List.mem_map.1 hy
  have := b.2 z hz
  unfold TripB
  rw [(h z).1, (h z).2]
  exact this
theorem call_bd {t : S28} (h : TripP t) {i : Int} (h0 : 0 ≤ i) (h1 : i < (t.f1.length : Int)) : (0 ≤ (at_ t.f1 i).f0 ∧ (at_ t.f1 i).f0 ≤ 29) ∧ (0 ≤ (at_ t.f1 i).f1 ∧ (at_ t.f1 i).f1 ≤ (at_ t.f1 i).f2) ∧ (at_ t.f1 i).f2 ≤ 100000 := by
  have h2 := h.2.2 i.toNat (by omega)
  unfold CallP at h2
  rw [show ((i.toNat : Nat) : Int) = i by omega] at h2
  exact ⟨h2.1, h2.2.1, h2.2.2.1⟩
-- strings as lists of bytes
def byt (s : ByteArray) : List UInt8 := s.data.toList
theorem byt_len (s : ByteArray) : (byt s).length = s.size := by unfold byt ByteArray.size; exact Array.length_toList
theorem byt_mk (l : List UInt8) : byt ⟨l.toArray⟩ = l := by simp [byt]
theorem byt_app (a b : ByteArray) : byt (a ++ b) = byt a ++ byt b := by simp [byt, ByteArray.data_append]
theorem byt_ext {a b : ByteArray} (h : byt a = byt b) : a = b := by
  cases a with | mk x => cases b with | mk y => 
  congr 1
  exact Array.toList_inj.1 h
theorem mk_byt (s : ByteArray) : (⟨(byt s).toArray⟩ : ByteArray) = s := byt_ext (byt_mk _)
theorem bt_eq (s : ByteArray) {i : Nat} (h : i < (byt s).length) : bt s (i : Int) = ((byt s)[i].toNat : Int) := by
  have h2 : i < s.size := by rw [← byt_len]; exact h
  unfold bt
  rw [dif_pos (by rw [Int.toNat_natCast]; exact h2)]
  rfl
def ChU (b : UInt8) : Prop := (97 ≤ b.toNat ∧ b.toNat ≤ 122) ∨ (48 ≤ b.toNat ∧ b.toNat ≤ 57)
theorem name_iff (s : ByteArray) : NameP s ↔ (1 ≤ (byt s).length ∧ (byt s).length ≤ 12) ∧ ∀ b, b ∈ byt s → ChU b := by
  unfold NameP
  rw [byt_len]
  refine and_congr Iff.rfl ⟨fun h b hb => ?_, fun h i hi => ?_⟩
  · obtain ⟨i, hi, rfl⟩ := List.getElem_of_mem hb
    have := h i (by rw [← byt_len]; exact hi)
    rw [bt_eq s hi] at this
    unfold ChP at this
    unfold ChU
    omega
  · have hi2 : i < (byt s).length := by rw [byt_len]; exact hi
    have := h _ (List.getElem_mem hi2)
    rw [bt_eq s hi2]
    unfold ChU at this
    unfold ChP
    omega
/-- The decimal digits. -/
def dec (n : Nat) : List UInt8 := if h : n < 10 then [UInt8.ofNat (48 + n)] else dec (n / 10) ++ [UInt8.ofNat (48 + n % 10)]
termination_by n
theorem dec_lt {n : Nat} (h : n < 10) : dec n = [UInt8.ofNat (48 + n)] := by rw [dec, dif_pos h]
theorem dec_ge {n : Nat} (h : ¬ n < 10) : dec n = dec (n / 10) ++ [UInt8.ofNat (48 + n % 10)] := by rw [dec, dif_neg h]
def decZ (n : Nat) : List UInt8 := if n = 0 then [] else dec n
theorem decZ_step {n : Nat} (h : n ≠ 0) : decZ n = decZ (n / 10) ++ [UInt8.ofNat (48 + n % 10)] := by
  unfold decZ
  rw [if_neg h]
  by_cases g : n < 10
  · rw [dec_lt g, if_pos (by omega), Nat.mod_eq_of_lt g]; rfl
  · rw [dec_ge g, if_neg (by omega)]
theorem dig_nat {d : Nat} (h : d < 10) : (UInt8.ofNat (48 + d)).toNat = 48 + d := by
  rw [UInt8.toNat_ofNat']
  omega
theorem dec_dig (n : Nat) : ∀ b, b ∈ dec n → 48 ≤ b.toNat ∧ b.toNat ≤ 57 := by
  induction n using Nat.strongRecOn with
  | ind n ih =>
    intro b hb
    by_cases g : n < 10
    · rw [dec_lt g, List.mem_singleton] at hb
      rw [hb, dig_nat g]; omega
    · rw [dec_ge g, List.mem_append, List.mem_singleton] at hb
      rcases hb with hb | hb
      · exact ih (n / 10) (by omega) b hb
      · rw [hb, dig_nat (by omega)]; omega
theorem dec_len_le : ∀ (k n : Nat), n < 10 ^ (k + 1) → (dec n).length ≤ k + 1 := by
  intro k
  induction k with
  | zero => intro n h; rw [dec_lt (by simpa using h)]; simp
  | succ k ih =>
    intro n h
    by_cases g : n < 10
    · rw [dec_lt g]; simp
    · rw [dec_ge g, List.length_append, List.length_singleton]
      have := ih (n / 10) (by rw [Nat.pow_succ] at h; omega)
      omega
theorem dec_len_pos (n : Nat) : 1 ≤ (dec n).length := by
  by_cases g : n < 10
  · rw [dec_lt g]; simp
  · rw [dec_ge g]; simp
theorem ofs_u8 {d : Int} (h0 : 0 ≤ d) (h1 : d < 10) : UInt8.ofNat (IntKind.u8.wrap (wrap64 (48 + d))).toNat = UInt8.ofNat (48 + d.toNat) := by
  rw [wrap_id (by omega) (by omega)]
  have e : IntKind.u8.wrap (48 + d) = 48 + d := by
    have h2 : d = 0 ∨ d = 1 ∨ d = 2 ∨ d = 3 ∨ d = 4 ∨ d = 5 ∨ d = 6 ∨ d = 7 ∨ d = 8 ∨ d = 9 := by omega
    rcases h2 with rfl | rfl | rfl | rfl | rfl | rfl | rfl | rfl | rfl | rfl <;> decide
  rw [e]
  congr 1
  omega
theorem ev_spec_l01Num (n : Nat) (hn : n < 10 ^ 15) : Ev (fun k => spec_l01Num.f k (n : Int)) ⟨(dec n).toArray⟩ := by
  unfold spec_l01Num.f
  refine Ev.ite (fun h => ev_val ?_) (fun h0 => ?_)
  · obtain rfl : n = 0 := by omega
    rw [dec_lt (by omega)]; rfl
  have key : ∀ j m : Nat, m < 10 ^ j → m < 10 ^ 15 → ∀ s : ByteArray, s.size + j ≤ 1000 → Ev (fun k => spec_l01Num.l0 k (n : Int) (m : Int) s) ⟨(decZ m ++ byt s).toArray⟩ := by
    intro j
    induction j with
    | zero =>
      intro m hm _ s hs
      obtain rfl : m = 0 := by simpa using hm
      refine Ev.step (fun k => by simp only [spec_l01Num.l0]; rfl) ?_
      refine Ev.pos rfl (Ev.neg (by omega) (ev_val (byt_ext ?_)))
      rw [byt_mk]; rfl
    | succ j ih =>
      intro m hm hm2 s hs
      refine Ev.step (fun k => by simp only [spec_l01Num.l0]; rfl) ?_
      refine Ev.ite (fun g => ?_) (fun g => ?_)
      · obtain rfl : m = 0 := by omega
        refine Ev.neg (by omega) (ev_val (byt_ext ?_))
        rw [byt_mk]; rfl
      · have hmod : ((m : Int).tmod 10) = ((m % 10 : Nat) : Int) := by rw [tmod_of 10 (by omega)]; omega
        have hdiv : wrap64 ((m : Int).tdiv 10) = ((m / 10 : Nat) : Int) := by rw [tdiv_of 10 (by omega), wrap_id (by omega) (by omega)]; omega
        rw [hmod, hdiv]
        refine Ev.neg (by omega) ?_
        rw [ofs_u8 (by omega) (by omega), Int.toNat_natCast]
        refine Ev.pos (by show 1 + s.size ≤ _; omega) ?_
        have e : (decZ m ++ byt s) = decZ (m / 10) ++ byt ((⟨#[UInt8.ofNat (48 + m % 10)]⟩ : ByteArray) ++ s) := by
          rw [byt_app, decZ_step (by omega), List.append_assoc]; rfl
        rw [e]
        refine ih (m / 10) (by rw [Nat.pow_succ] at hm; omega) (by omega) _ ?_
        rw [ByteArray.size_append]
        show 1 + s.size + j ≤ _
        omega
  have := key 15 n hn hn ⟨#[]⟩ (by decide)
  have e : decZ n ++ byt ⟨#[]⟩ = dec n := by unfold decZ; rw [if_neg (by omega)]; simp [byt]
  rw [e] at this
  exact this
-- times and trips as texts
def bs (l : List UInt8) : ByteArray := ⟨l.toArray⟩
theorem bs_app (a b : List UInt8) : bs a ++ bs b = bs (a ++ b) := byt_ext (by unfold bs; rw [byt_app, byt_mk, byt_mk, byt_mk])
theorem bs_size (a : List UInt8) : (bs a).size = a.length := by rw [← byt_len]; unfold bs; rw [byt_mk]
theorem bs_byt (s : ByteArray) : bs (byt s) = s := mk_byt s
/-- Two digits at least. -/
def two (n : Nat) : List UInt8 := if n < 10 then 48 :: dec n else dec n
def timeL (m : Nat) : List UInt8 := two (m / 60) ++ 58 :: two (m % 60)
def callL (c : S48) : List UInt8 := 32 :: dec c.f0.toNat ++ 64 :: timeL c.f1.toNat ++ 45 :: timeL c.f2.toNat
def callsL (cs : List S48) : List UInt8 := cs.flatMap callL
theorem decDigits_eq (n : Nat) : Go.Lib.decDigits n = dec n := by
  induction n using Nat.strongRecOn with
  | ind n ih =>
    rw [Go.Lib.decDigits]
    by_cases g : n < 10
    · rw [dif_pos g, dec_lt g]
    · rw [dif_neg g, dec_ge g, ih (n / 10) (by omega)]
theorem itoa_nat (n : Nat) : Go.Lib.itoa (n : Int) = dec n := by
  unfold Go.Lib.itoa
  rw [if_neg (by omega), Int.toNat_natCast, decDigits_eq]
theorem ev_Itoa (n : Nat) (h : n < 1000000) : strconv_Itoa.f (n : Int) = some (bs (dec n)) := by
  unfold strconv_Itoa.f
  rw [if_pos (by omega), if_pos (by omega), itoa_nat]
  rfl
theorem dec_len2 (n : Nat) : (dec n).length < 2 ↔ n < 10 := by
  by_cases g : n < 10
  · rw [dec_lt g]; simp [g]
  · rw [dec_ge g, List.length_append, List.length_singleton]
    have := dec_len_pos (n / 10)
    omega
theorem dec_len7 {n : Nat} (h : n < 1000000) : (dec n).length ≤ 6 := dec_len_le 5 n (by omega)
theorem two_len {n : Nat} (h : n < 1000000) : (two n).length ≤ 7 := by
  unfold two
  have := dec_len7 h
  split
  · simp only [List.length_cons]; omega
  · omega
theorem timeL_len {m : Nat} (h : m ≤ 100000) : (timeL m).length ≤ 15 := by
  unfold timeL
  rw [List.length_append, List.length_cons]
  have h1 := two_len (n := m / 60) (by omega)
  have h2 := two_len (n := m % 60) (by omega)
  omega
def lastD (t : S28) : Int := (at_ t.f1 ((t.f1.length : Int) - 1)).f2
theorem dep_mono {t : S28} (h : TripP t) : ∀ m j, j ≤ m → m < t.f1.length → (at_ t.f1 (j : Int)).f2 ≤ (at_ t.f1 (m : Int)).f2
  | 0, j, hj, _ => by obtain rfl : j = 0 := by omega
                      exact Int.le_refl _
  | m + 1, j, hj, hm => by
    by_cases e : j = m + 1
    · rw [e]; exact Int.le_refl _
    · have ih := dep_mono h m j (by omega) (by omega)
      have h1 := h.2.2 (m + 1) hm
      unfold CallP at h1
      have h2 := (h1.2.2.2 (by omega)).1
      rw [show ((m + 1 : Nat) : Int) - 1 = (m : Int) by omega] at h2
      omega
theorem dep_last {t : S28} (h : TripP t) {i : Int} (h0 : 0 ≤ i) (h1 : i < (t.f1.length : Int)) : (at_ t.f1 i).f2 ≤ lastD t := by
  have hl := h.2.1
  have := dep_mono h (t.f1.length - 1) i.toNat (by omega) (by omega)
  rw [show ((i.toNat : Nat) : Int) = i by omega, show ((t.f1.length - 1 : Nat) : Int) = (t.f1.length : Int) - 1 by omega] at this
  exact this
theorem trip_bdd {t : S28} (h : TripP t) : TripB t := ⟨by have := h.1.1; omega, by have := h.2.1; omega⟩
theorem at_map {α β : Type} [Inhabited α] [Inhabited β] (f : α → β) {xs : List α} {i : Int} (h0 : 0 ≤ i) (h1 : i < (xs.length : Int)) : at_ (xs.map f) i = f (at_ xs i) := by
  rw [at_int h0 (by rw [List.length_map]; exact h1), at_int h0 h1, List.getElem_map]
def mvC (by_ : Int) (c : S48) : S48 := ⟨c.f0, c.f1 + by_, c.f2 + by_⟩
def movedV (t : S28) (by_ : Int) : S28 := ⟨t.f0, t.f1.map (mvC by_)⟩
theorem mv_len (t : S28) (by_ : Int) : (movedV t by_).f1.length = t.f1.length := by simp [movedV]
theorem mv_at (t : S28) (by_ : Int) {i : Int} (h0 : 0 ≤ i) (h1 : i < (t.f1.length : Int)) : at_ (movedV t by_).f1 i = mvC by_ (at_ t.f1 i) := at_map _ h0 h1
theorem mv_trip {t : S28} (h : TripP t) {by_ : Int} (h0 : 0 ≤ by_) : TripP (movedV t by_) ↔ lastD t + by_ ≤ 100000 := by
  have hl := h.2.1
  constructor
  · intro g
    have := call_bd g (i := (t.f1.length : Int) - 1) (by omega) (by rw [mv_len]; omega)
    rw [mv_at t by_ (by omega) (by omega)] at this
    have := this.2.2
    unfold lastD
    exact this
  · intro g
    refine ⟨h.1, by rw [mv_len]; exact hl, fun i hi => ?_⟩
    rw [mv_len] at hi
    have hc := h.2.2 i hi
    have hd := dep_last h (i := (i : Int)) (by omega) (by omega)
    unfold CallP at hc ⊢
    rw [mv_at t by_ (by omega) (by omega)]
    unfold mvC
    refine ⟨hc.1, by dsimp only; omega, by dsimp only; omega, fun hp => ?_⟩
    rw [mv_at t by_ (by omega) (by omega)]
    unfold mvC
    have := hc.2.2.2 hp
    exact ⟨by dsimp only; omega, this.2⟩
def noTrip : S28 := ⟨ByteArray.empty, []⟩
theorem no_trip : ¬ TripP noTrip := fun h => by
  have := h.2.1.1
  unfold noTrip at this
  simp at this
open Classical in
open Classical in
noncomputable def mvV (t : S28) (by_ : Int) : S28 := if lastD t + by_ ≤ 100000 then movedV t by_ else noTrip
theorem ev_spec_Moved (t : S28) (by_ : Int) (h : TripP t) (h0 : 0 ≤ by_ ∧ by_ ≤ 100000) : Ev (fun k => spec_Moved.f k t by_) (mvV t by_) := by
  classical
  have hl := h.2.1
  have hb := trip_bdd h
  unfold spec_Moved.f
  refine Ev.bind (ev_spec_TripOk t hb.1 hb.2 true (by simp [h])) (Ev.pos rfl (Ev.opt (eq_spec_l01In _ _ _) (Ev.pos (decide_eq_true (by omega)) ?_)))
  refine ev_fold (fun k i => spec_Moved.l0 k t by_ ((movedV t by_).f1.take i) (i : Int)) t.f1.length ?_ ?_
  · intro i hi hn
    have hi2 : i < (movedV t by_).f1.length := by rw [mv_len]; exact hi
    have hc := call_bd h (i := (i : Int)) (by omega) (by omega)
    rw [take_succ' hi2] at hn
    have e : (movedV t by_).f1[i] = mvC by_ (at_ t.f1 (i : Int)) := by
      rw [← mv_at t by_ (by omega) (by omega), at_nat hi2]
    rw [e] at hn
    refine Ev.step (fun k => by simp only [spec_Moved.l0]; rfl) ?_
    rw [wrap_succ hi (by omega), wrap_id (x := (at_ t.f1 (i : Int)).f1 + by_) (by omega) (by omega), wrap_id (x := (at_ t.f1 (i : Int)).f2 + by_) (by omega) (by omega)]
    exact Ev.pos (by omega) (Ev.pos (by omega) (Ev.pos (by rw [List.length_take]; simp only [List.length_cons, List.length_nil]; omega) hn))
  · refine Ev.step (fun k => by simp only [spec_Moved.l0]; rfl) ?_
    have e : (movedV t by_).f1.take t.f1.length = (movedV t by_).f1 := by rw [← mv_len t by_, List.take_length]
    rw [e]
    refine Ev.neg (by omega) (Ev.bind (ev_spec_TripOk (movedV t by_) hb.1 (by rw [mv_len]; exact hb.2) (decide (TripP (movedV t by_))) decide_eq_true_iff) ?_)
    unfold mvV
    by_cases g : lastD t + by_ ≤ 100000
    · rw [if_pos g]
      exact Ev.pos (decide_eq_true ((mv_trip h h0.1).2 g)) (ev_val rfl)
    · rw [if_neg g]
      exact Ev.neg (fun q => g ((mv_trip h h0.1).1 (of_decide_eq_true q))) (ev_val rfl)
theorem table_bdd {ts : List S28} (h : TableP ts) : TableB ts := ⟨by have := h.1; omega, fun y hy => by
  obtain ⟨i, hi, rfl⟩ := mem_at.1 hy
  exact trip_bdd (h.2 i hi).1⟩
theorem at_ext {α : Type} [Inhabited α] {xs ys : List α} (hl : ys.length = xs.length) (h : ∀ k : Nat, k < xs.length → at_ ys (k : Int) = at_ xs (k : Int)) : ys = xs := by
  refine List.ext_getElem hl fun k h1 h2 => ?_
  have := h k h2
  rwa [at_nat h1, at_nat h2] at this
theorem ev_impl_MovedG (t : S28) (by_ : Int) (h : TripP t) (h0 : -100000 ≤ by_ ∧ by_ ≤ 100000) (hm : TripP (movedV t by_)) : Ev (fun k => impl_Moved.f k t by_) (movedV t by_) := by
  classical
  have hl := h.2.1
  have hb := trip_bdd h
  unfold impl_Moved.f impl_cloneTrip.f
  refine Ev.bind (ev_impl_TripOk t hb.1 hb.2 true (by simp [h])) (Ev.pos rfl (Ev.opt (eq_impl_between _ _ _) (Ev.pos (decide_eq_true (by omega)) ?_)))
  rw [List.nil_append]
  refine Ev.bind (Ev.pos (by simp only [List.length_nil]; omega) (ev_val rfl) : Ev (fun k => if (([] : List S48).length + t.f1.length) * 24 ≤ 70368744177664 then some (⟨t.f0, t.f1⟩ : S28) else none) ⟨t.f0, t.f1⟩) (Evx.ev ?_)
  refine evx_loop (fun k i (xs : List S48) => impl_Moved.l0 k by_ ⟨t.f0, t.f1⟩ xs (i : Int)) t.f1.length (fun i xs => xs.length = t.f1.length ∧ (∀ k : Nat, k < i → at_ xs (k : Int) = mvC by_ (at_ t.f1 (k : Int))) ∧ ∀ k : Nat, i ≤ k → at_ xs (k : Int) = at_ t.f1 (k : Int)) _ ?_ ?_ t.f1 ⟨rfl, fun k hk => by omega, fun k _ => rfl⟩
  · intro i xs hi ⟨i1, i2, i3⟩ hn
    have hc := call_bd h (i := (i : Int)) (by omega) (by omega)
    have e := i3 i (Nat.le_refl _)
    refine Evx.step (fun k => by simp only [impl_Moved.l0]; rfl) ?_
    rw [e, wrap_succ hi (by omega), wrap_id (x := (at_ t.f1 (i : Int)).f1 + by_) (by omega) (by omega), wrap_id (x := (at_ t.f1 (i : Int)).f2 + by_) (by omega) (by omega), Int.toNat_natCast]
    refine Evx.pos (by omega) (Evx.pos (by omega) (Evx.pos (by omega) (hn _ ⟨by rw [List.length_set]; exact i1, fun k hk => ?_, fun k hk => ?_⟩)))
    · by_cases ek : k = i
      · rw [ek, at_set_eq (by omega)]; rfl
      · rw [at_set_ne (by omega) (by omega)]; exact i2 k (by omega)
    · rw [at_set_ne (by omega) (by omega)]; exact i3 k (by omega)
  · intro xs ⟨i1, i2, _⟩
    have e : xs = (movedV t by_).f1 := at_ext (by rw [i1, mv_len]) (fun k hk => by rw [mv_len] at hk; rw [i2 k hk, mv_at t by_ (by omega) (by omega)])
    refine Evx.step (fun k => by simp only [impl_Moved.l0]; rfl) ?_
    refine Evx.neg (by omega) ?_
    have e2 : (⟨t.f0, xs⟩ : S28) = movedV t by_ := by rw [e]; rfl
    rw [e2]
    exact Evx.bindv (ev_impl_TripOk (movedV t by_) hb.1 (by rw [mv_len]; exact hb.2) true (by simp [hm])) (Evx.pos rfl (Evx.val rfl))
-- marks of trips
theorem ev_markText (n : Nat) (h0 : 0 < n) (hn : n < 10 ^ 17) : Ev (fun k => laws_markText.f k (n : Int)) ⟨(109 :: dec n).toArray⟩ := by
  unfold laws_markText.f
  refine Ev.neg (by omega) ?_
  have fin : ∀ s : ByteArray, s.size ≤ 1000 → Ev (fun _ => if (⟨#[109]⟩ : ByteArray).size + s.size ≤ 9223372036854775807 then some ((⟨#[109]⟩ : ByteArray) ++ s) else none) ⟨(109 :: byt s).toArray⟩ := by
    intro s hs
    refine Ev.pos (by show 1 + s.size ≤ _; omega) (ev_val (byt_ext ?_))
    rw [byt_app]; exact (byt_mk (109 :: byt s)).symm
  have key : ∀ j m : Nat, m < 10 ^ j → m < 10 ^ 17 → ∀ s : ByteArray, s.size + j ≤ 1000 → Ev (fun k => laws_markText.l0 k (m : Int) s) ⟨(109 :: (decZ m ++ byt s)).toArray⟩ := by
    intro j
    induction j with
    | zero =>
      intro m hm _ s hs
      obtain rfl : m = 0 := by simpa using hm
      refine Ev.step (fun k => by simp only [laws_markText.l0]; rfl) ?_
      exact Ev.neg (by omega) (fin s (by omega))
    | succ j ih =>
      intro m hm hm2 s hs
      refine Ev.step (fun k => by simp only [laws_markText.l0]; rfl) ?_
      refine Ev.ite (fun g => ?_) (fun g => ?_)
      · have hmod : ((m : Int).tmod 10) = ((m % 10 : Nat) : Int) := by rw [tmod_of 10 (by omega)]; omega
        have hdiv : wrap64 ((m : Int).tdiv 10) = ((m / 10 : Nat) : Int) := by rw [tdiv_of 10 (by omega), wrap_id (by omega) (by omega)]; omega
        rw [hmod, hdiv, ofs_u8 (by omega) (by omega), Int.toNat_natCast]
        refine Ev.pos (by show 1 + s.size ≤ _; omega) ?_
        have e : (decZ m ++ byt s) = decZ (m / 10) ++ byt ((⟨#[UInt8.ofNat (48 + m % 10)]⟩ : ByteArray) ++ s) := by
          rw [byt_app, decZ_step (by omega), List.append_assoc]; rfl
        rw [e]
        refine ih (m / 10) (by rw [Nat.pow_succ] at hm; omega) (by omega) _ ?_
        rw [ByteArray.size_append]
        show 1 + s.size + j ≤ _
        omega
      · obtain rfl : m = 0 := by omega
        exact fin s (by omega)
  have := key 17 n hn hn ⟨#[]⟩ (by decide)
  have e : decZ n ++ byt ⟨#[]⟩ = dec n := by unfold decZ; rw [if_neg (by omega)]; simp [byt]
  rw [e] at this
  exact this
def mkN (x : List S28) (a : Int) : Nat → Int
  | 0 => a
  | i + 1 => mkN x a i + 1 + 3 * ((at_ x (i : Int)).f1.length : Int)
def mkT (a : Int) : ByteArray := ⟨(109 :: dec a.toNat).toArray⟩
def mkE (x : List S28) (a : Int) (i : Nat) : S28 := ⟨mkT (mkN x a i), mkd_CallS (at_ x (i : Int)).f1.length (mkN x a i + 1)⟩
def mkL (x : List S28) (a : Int) : List S28 := (List.range x.length).map (mkE x a)
theorem mkL_len (x : List S28) (a : Int) : (mkL x a).length = x.length := by simp [mkL]
theorem mkL_at (x : List S28) (a : Int) {i : Nat} (h : i < x.length) : at_ (mkL x a) (i : Int) = mkE x a i := by
  rw [at_nat (by rw [mkL_len]; exact h)]
  simp [mkL]
theorem mkN_bd {x : List S28} (hb : ∀ y ∈ x, (y.f0.size ≤ 1048576 ∧ (y.f1.length ≤ 1048576))) (a : Int) : ∀ i : Nat, i ≤ x.length → a ≤ mkN x a i ∧ mkN x a i ≤ a + 3145729 * (i : Int)
  | 0, _ => ⟨Int.le_refl _, by show a ≤ _; omega⟩
  | i + 1, hi => by
    have ih := mkN_bd hb a i (by omega)
    have h1 := (hb _ (at_mem (xs := x) (i := (i : Int)) (by omega) (by omega))).2
    show a ≤ mkN x a i + 1 + 3 * ((at_ x (i : Int)).f1.length : Int) ∧ _ ≤ _
    constructor
    · omega
    · show mkN x a i + 1 + 3 * ((at_ x (i : Int)).f1.length : Int) ≤ _
      omega
theorem mk_ext {α : Type} [Inhabited α] {xs ys : List α} (hl : ys.length = xs.length) (h : ∀ k : Nat, k < xs.length → at_ ys (k : Int) = at_ xs (k : Int)) : ys = xs := by
  refine List.ext_getElem hl fun k h1 h2 => ?_
  have := h k h2
  rwa [at_nat h1, at_nat h2] at this
theorem mark_TripS (x : List S28) (hb : x.length ≤ 1048576 ∧ ∀ y ∈ x, (y.f0.size ≤ 1048576 ∧ (y.f1.length ≤ 1048576))) (a : Int) (h0 : 1 ≤ a) (h1 : a ≤ 1099511627776) : Ev (fun k => laws_markTripS.f k x a) (mkN x a x.length, mkL x a) := by
  unfold laws_markTripS.f
  refine Evx.ev (evx_loop (fun k i (xs : List S28) => laws_markTripS.l0 k xs (mkN x a i) (i : Int)) x.length (fun i xs => xs.length = x.length ∧ (∀ k : Nat, k < i → at_ xs (k : Int) = mkE x a k) ∧ ∀ k : Nat, i ≤ k → at_ xs (k : Int) = at_ x (k : Int)) _ ?_ ?_ x ⟨rfl, fun k hk => by omega, fun k _ => rfl⟩)
  · intro i xs hi ⟨i1, i2, i3⟩ hn
    have hbd := mkN_bd hb.2 a i (by omega)
    have hl := (hb.2 _ (at_mem (xs := x) (i := (i : Int)) (by omega) (by omega))).2
    have e := i3 i (Nat.le_refl _)
    have ht := ev_markText (mkN x a i).toNat (by omega) (by omega)
    rw [show (((mkN x a i).toNat : Nat) : Int) = mkN x a i by omega] at ht
    refine Evx.step (fun k => by simp only [laws_markTripS.l0]; rfl) ?_
    rw [wrap_succ hi (by omega), wrap_id (x := mkN x a i + 1) (by omega) (by omega), Int.toNat_natCast]
    refine Evx.pos (by omega) (Evx.bindv ht (Evx.pos (by omega) ?_))
    rw [at_set_eq (by omega), e]
    dsimp only
    refine Evx.bindv (mark_CallS (at_ x (i : Int)).f1 (by omega) _ (by omega) (by omega)) ?_
    have e2 : mkN x a (i + 1) = mkN x a i + 1 + 3 * ((at_ x (i : Int)).f1.length : Int) := rfl
    dsimp only
    rw [← e2, List.set_set]
    refine hn _ ⟨by rw [List.length_set]; exact i1, fun k hk => ?_, fun k hk => ?_⟩
    · by_cases ek : k = i
      · rw [ek, at_set_eq (by omega)]; rfl
      · rw [at_set_ne (by omega) (by omega)]; exact i2 k (by omega)
    · rw [at_set_ne (by omega) (by omega)]; exact i3 k (by omega)
  · intro xs ⟨i1, i2, _⟩
    have e : xs = mkL x a := mk_ext (by rw [i1, mkL_len]) (fun k hk => by rw [mkL_len] at hk; rw [i2 k hk, mkL_at x a hk])
    subst e
    refine Evx.step (fun k => by simp only [laws_markTripS.l0]; rfl) ?_
    rw [mkL_len]
    exact Evx.neg (by omega) (Evx.val rfl)
theorem mkN_nn {x : List S28} (hb : ∀ y ∈ x, (y.f0.size ≤ 1048576 ∧ (y.f1.length ≤ 1048576))) {a : Int} {i : Nat} (h : i ≤ x.length) (g : mkN x a i < 0) (h1 : 1 ≤ a) : False := by
  have := (mkN_bd hb a i h).1
  omega
theorem held_TripS (x : List S28) (hb : x.length ≤ 1048576 ∧ ∀ y ∈ x, (y.f0.size ≤ 1048576 ∧ (y.f1.length ≤ 1048576))) (a : Int) (h0 : 1 ≤ a) (h1 : a ≤ 1099511627776) : Ev (fun k => laws_heldTripS.f k (mkL x a) a) (mkN x a x.length) := by
  unfold laws_heldTripS.f
  refine ev_fold (fun k i => laws_heldTripS.l0 k (mkL x a) (mkN x a i) (i : Int)) x.length ?_ ?_
  · intro i hi hn
    have hbd := mkN_bd hb.2 a i (by omega)
    have hl := (hb.2 _ (at_mem (xs := x) (i := (i : Int)) (by omega) (by omega))).2
    have ht := ev_markText (mkN x a i).toNat (by omega) (by omega)
    rw [show (((mkN x a i).toNat : Nat) : Int) = mkN x a i by omega] at ht
    refine Ev.step (fun k => by simp only [laws_heldTripS.l0]; rfl) ?_
    rw [mkL_len, mkL_at x a hi, wrap_succ hi (by omega), wrap_id (x := mkN x a i + 1) (by omega) (by omega)]
    refine Ev.pos (by omega) (Ev.pos (by omega) (Ev.bind ht (Ev.pos ?_ ?_)))
    · unfold mkE mkT; simp [sEq]
    · have e2 : mkN x a (i + 1) = mkN x a i + 1 + 3 * ((at_ x (i : Int)).f1.length : Int) := rfl
      rw [e2] at hn
      refine Ev.bind (held_CallS (at_ x (i : Int)).f1.length (by omega) (mkN x a i + 1) (by omega) (by omega)) (Ev.neg (by omega) hn)
  · refine Ev.step (fun k => by simp only [laws_heldTripS.l0]; rfl) ?_
    rw [mkL_len]
    exact Ev.neg (by omega) (ev_val rfl)
theorem ev_impl_MovedM (t : S28) (by_ : Int) (h : TripP t) (h0 : 0 ≤ by_ ∧ by_ ≤ 100000) : Ev (fun k => impl_Moved.f k t by_) (mvV t by_) := by
  classical
  have hl := h.2.1
  have hb := trip_bdd h
  by_cases g : lastD t + by_ ≤ 100000
  · have e : mvV t by_ = movedV t by_ := if_pos g
    rw [e]
    exact ev_impl_MovedG t by_ h (by omega) ((mv_trip h h0.1).2 g)
  · have e : mvV t by_ = noTrip := if_neg g
    rw [e]
    have hm : ¬ TripP (movedV t by_) := fun q => g ((mv_trip h h0.1).1 q)
    unfold impl_Moved.f impl_cloneTrip.f
    refine Ev.bind (ev_impl_TripOk t hb.1 hb.2 true (by simp [h])) (Ev.pos rfl (Ev.opt (eq_impl_between _ _ _) (Ev.pos (decide_eq_true (by omega)) ?_)))
    rw [List.nil_append]
    refine Ev.bind (Ev.pos (by simp only [List.length_nil]; omega) (ev_val rfl) : Ev (fun k => if (([] : List S48).length + t.f1.length) * 24 ≤ 70368744177664 then some (⟨t.f0, t.f1⟩ : S28) else none) ⟨t.f0, t.f1⟩) (Evx.ev ?_)
    refine evx_loop (fun k i (xs : List S48) => impl_Moved.l0 k by_ ⟨t.f0, t.f1⟩ xs (i : Int)) t.f1.length (fun i xs => xs.length = t.f1.length ∧ (∀ k : Nat, k < i → at_ xs (k : Int) = mvC by_ (at_ t.f1 (k : Int))) ∧ ∀ k : Nat, i ≤ k → at_ xs (k : Int) = at_ t.f1 (k : Int)) _ ?_ ?_ t.f1 ⟨rfl, fun k hk => by omega, fun k _ => rfl⟩
    · intro i xs hi ⟨i1, i2, i3⟩ hn
      have hc := call_bd h (i := (i : Int)) (by omega) (by omega)
      have e := i3 i (Nat.le_refl _)
      refine Evx.step (fun k => by simp only [impl_Moved.l0]; rfl) ?_
      rw [e, wrap_succ hi (by omega), wrap_id (x := (at_ t.f1 (i : Int)).f1 + by_) (by omega) (by omega), wrap_id (x := (at_ t.f1 (i : Int)).f2 + by_) (by omega) (by omega), Int.toNat_natCast]
      refine Evx.pos (by omega) (Evx.pos (by omega) (Evx.pos (by omega) (hn _ ⟨by rw [List.length_set]; exact i1, fun k hk => ?_, fun k hk => ?_⟩)))
      · by_cases ek : k = i
        · rw [ek, at_set_eq (by omega)]; rfl
        · rw [at_set_ne (by omega) (by omega)]; exact i2 k (by omega)
      · rw [at_set_ne (by omega) (by omega)]; exact i3 k (by omega)
    · intro xs ⟨i1, i2, _⟩
      have e : xs = (movedV t by_).f1 := at_ext (by rw [i1, mv_len]) (fun k hk => by rw [mv_len] at hk; rw [i2 k hk, mv_at t by_ (by omega) (by omega)])
      refine Evx.step (fun k => by simp only [impl_Moved.l0]; rfl) ?_
      refine Evx.neg (by omega) ?_
      have e2 : (⟨t.f0, xs⟩ : S28) = movedV t by_ := by rw [e]; rfl
      rw [e2]
      exact Evx.bindv (ev_impl_TripOk (movedV t by_) hb.1 (by rw [mv_len]; exact hb.2) false (by simp [hm])) (Evx.neg (by decide) (Evx.val rfl))
noncomputable def ckI (t : S28) (step : Int) (k : Nat) : S28 := ⟨(mvV t ((k : Int) * step)).f0 ++ bs (dec k), (mvV t ((k : Int) * step)).f1⟩
noncomputable def ckS (t : S28) (step : Int) (k : Nat) : S28 := ⟨t.f0 ++ bs (dec k), (mvV t ((k : Int) * step)).f1⟩
noncomputable def ckIL (t : S28) (step : Int) (n : Nat) : List S28 := (List.range n).map (ckI t step)
noncomputable def ckSL (t : S28) (step : Int) (n : Nat) : List S28 := (List.range n).map (ckS t step)
theorem mulc_bd {k n : Nat} {s : Int} (h : k < n) (hn : n ≤ 24) (h0 : 1 ≤ s) (h1 : s ≤ 1440) : 0 ≤ (k : Int) * s ∧ (k : Int) * s ≤ 34560 := by
  constructor
  · exact Int.mul_nonneg (by omega) (by omega)
  · exact Int.le_trans (Int.mul_le_mul (show (k : Int) ≤ 24 by omega) h1 (by omega) (by omega)) (by omega)
theorem mvV_len (t : S28) (b : Int) : (mvV t b).f1.length ≤ t.f1.length := by
  unfold mvV
  split
  · rw [mv_len]; exact Nat.le_refl _
  · exact Nat.zero_le _
theorem mvV_sz (t : S28) (b : Int) : (mvV t b).f0.size ≤ t.f0.size := by
  unfold mvV
  split
  · exact Nat.le_refl _
  · exact Nat.zero_le _
theorem ck_same {t : S28} {step : Int} {k : Nat} (h : lastD t + (k : Int) * step ≤ 100000) : ckI t step k = ckS t step k := by
  unfold ckI ckS
  have e : mvV t ((k : Int) * step) = movedV t ((k : Int) * step) := if_pos h
  rw [e]; rfl
theorem ck_none {t : S28} {step : Int} {k : Nat} (h : ¬ lastD t + (k : Int) * step ≤ 100000) : ¬ TripP (ckI t step k) ∧ ¬ TripP (ckS t step k) := by
  have e : mvV t ((k : Int) * step) = noTrip := if_neg h
  unfold ckI ckS
  rw [e]
  exact ⟨fun g => absurd g.2.1.1 (by show ¬ 2 ≤ ([] : List S48).length; decide), fun g => absurd g.2.1.1 (by show ¬ 2 ≤ ([] : List S48).length; decide)⟩
theorem ckIL_at (t : S28) (step : Int) {n i : Nat} (h : i < n) : at_ (ckIL t step n) (i : Int) = ckI t step i := by
  rw [at_nat (by simp [ckIL]; exact h)]
  simp [ckIL]
theorem ckSL_at (t : S28) (step : Int) {n i : Nat} (h : i < n) : at_ (ckSL t step n) (i : Int) = ckS t step i := by
  rw [at_nat (by simp [ckSL]; exact h)]
  simp [ckSL]
theorem ckI_B {t : S28} (ht : TripP t) (step : Int) {k : Nat} (hk : k < 24) : TripB (ckI t step k) ∧ TripB (ckS t step k) := by
  have hb := trip_bdd ht
  have h1 := mvV_len t ((k : Int) * step)
  have h2 := mvV_sz t ((k : Int) * step)
  have hd := dec_len_le 1 k (by omega)
  have h3 := ht.1.1
  have h4 := ht.2.1
  refine ⟨⟨?_, ?_⟩, ?_, ?_⟩
  · show ((mvV t ((k : Int) * step)).f0 ++ bs (dec k)).size ≤ _
    rw [ByteArray.size_append, bs_size]; omega
  · show (mvV t ((k : Int) * step)).f1.length ≤ _
    omega
  · show (t.f0 ++ bs (dec k)).size ≤ _
    rw [ByteArray.size_append, bs_size]; omega
  · show (mvV t ((k : Int) * step)).f1.length ≤ _
    omega
theorem ckIL_B {t : S28} (ht : TripP t) (step : Int) {n : Nat} (hn : n ≤ 24) : TableB (ckIL t step n) := by
  refine ⟨by simp [ckIL]; omega, fun y hy => ?_⟩
  obtain ⟨k, hk, rfl⟩ := List.mem_map.1 hy
  have := List.mem_range.1 hk
  exact (ckI_B ht step (by omega)).1
theorem ckSL_B {t : S28} (ht : TripP t) (step : Int) {n : Nat} (hn : n ≤ 24) : TableB (ckSL t step n) := by
  refine ⟨by simp [ckSL]; omega, fun y hy => ?_⟩
  obtain ⟨k, hk, rfl⟩ := List.mem_map.1 hy
  have := List.mem_range.1 hk
  exact (ckI_B ht step (by omega)).2
open Classical in
theorem ev_impl_ClockfaceA {t : S28} (ht : TripP t) {step : Int} (h0 : 1 ≤ step) (h1 : step ≤ 1440) {n : Nat} (hn0 : 1 ≤ n) (hn : n ≤ 24) : Ev (fun k => impl_Clockface.f k t step (n : Int)) (if TableP (ckIL t step n) then ckIL t step n else []) := by
  have hb := trip_bdd ht
  have hl := ht.2.1
  have hs := ht.1.1
  unfold impl_Clockface.f
  refine Ev.bind (ev_impl_TripOk t hb.1 hb.2 true (by simp [ht])) (Ev.pos rfl (Ev.opt (eq_impl_between _ _ _) (Ev.pos (decide_eq_true (by omega)) (Ev.opt (eq_impl_between _ _ _) (Ev.pos (decide_eq_true (by omega)) (Ev.pos (by omega) (Ev.pos (by omega) (Evx.ev ?_))))))))
  rw [Int.toNat_natCast]
  refine evx_loop (fun k i (xs : List S28) => impl_Clockface.l0 k t step (n : Int) xs (i : Int)) n (fun i xs => xs.length = n ∧ ∀ k : Nat, k < i → at_ xs (k : Int) = ckI t step k) _ ?_ ?_ _ ⟨by simp, fun k hk => by omega⟩
  · intro i xs hi ⟨i1, i2⟩ hnx
    have hmb := mulc_bd hi hn h0 h1
    have hsz := mvV_sz t ((i : Int) * step)
    refine Evx.step (fun k => by simp only [impl_Clockface.l0]; rfl) ?_
    rw [Int.toNat_natCast, List.length_replicate, wrap_succ hi (by omega), wrap_id (x := (i : Int) * step) (by omega) (by omega), Int.toNat_natCast]
    have hd := dec_len_le 1 i (by omega)
    refine Evx.pos (by omega) (Evx.bindv (ev_impl_MovedM t _ ht ⟨hmb.1, by omega⟩) (Evx.pos (by omega) (Evx.pos (by omega) (Evx.opt (ev_Itoa i (by omega)) (Evx.pos ?_ (hnx _ ⟨by rw [List.length_set]; exact i1, fun k hk => ?_⟩))))))
    · rw [bs_size]
      omega
    · by_cases ek : k = i
      · rw [ek, at_set_eq (by omega)]; rfl
      · rw [at_set_ne (by omega) (by omega)]; exact i2 k (by omega)
  · intro xs ⟨i1, i2⟩
    have e : xs = ckIL t step n := at_ext (by rw [i1]; simp [ckIL]) (fun k hk => by simp [ckIL] at hk; rw [i2 k hk, ckIL_at t step hk])
    have hB := ckIL_B ht step hn
    subst e
    refine Evx.step (fun k => by simp only [impl_Clockface.l0]; rfl) ?_
    rw [Int.toNat_natCast, List.length_replicate]
    refine Evx.neg (by omega) (Evx.bindv (ev_impl_TableOk _ hB (decide (TableP (ckIL t step n))) decide_eq_true_iff) ?_)
    by_cases g : TableP (ckIL t step n)
    · rw [if_pos g]; exact Evx.pos (decide_eq_true g) (Evx.val rfl)
    · rw [if_neg g]; exact Evx.neg (fun q => g (of_decide_eq_true q)) (Evx.val rfl)
open Classical in
theorem ev_spec_ClockfaceA {t : S28} (ht : TripP t) {step : Int} (h0 : 1 ≤ step) (h1 : step ≤ 1440) {n : Nat} (hn0 : 1 ≤ n) (hn : n ≤ 24) : Ev (fun k => spec_Clockface.f k t step (n : Int)) (if TableP (ckSL t step n) then ckSL t step n else []) := by
  have hb := trip_bdd ht
  have hl := ht.2.1
  have hs := ht.1.1
  unfold spec_Clockface.f
  refine Ev.bind (ev_spec_TripOk t hb.1 hb.2 true (by simp [ht])) (Ev.pos rfl (Ev.opt (eq_spec_l01In _ _ _) (Ev.pos (decide_eq_true (by omega)) (Ev.opt (eq_spec_l01In _ _ _) (Ev.pos (decide_eq_true (by omega)) ?_)))))
  have hlen : (ckSL t step n).length = n := by simp [ckSL]
  refine ev_fold (fun k i => spec_Clockface.l0 k t step (n : Int) ((ckSL t step n).take i) (i : Int)) n ?_ ?_
  · intro i hi hnx
    have hmb := mulc_bd hi hn h0 h1
    have hd := dec_len_le 1 i (by omega)
    have hi2 : i < (ckSL t step n).length := by omega
    rw [take_succ' hi2] at hnx
    have e : (ckSL t step n)[i] = ckS t step i := by simp [ckSL]
    rw [e] at hnx
    refine Ev.step (fun k => by simp only [spec_Clockface.l0]; rfl) ?_
    rw [wrap_succ hi (by omega), wrap_id (x := (i : Int) * step) (by omega) (by omega)]
    refine Ev.pos (by omega) (Ev.bind (ev_spec_Moved t _ ht ⟨hmb.1, by omega⟩) (Ev.bind (ev_spec_l01Num i (by omega)) (Ev.pos ?_ (Ev.pos ?_ hnx))))
    · have := bs_size (dec i)
      unfold bs at this
      omega
    · rw [List.length_take]; simp only [List.length_cons, List.length_nil]; omega
  · have hB := ckSL_B ht step hn
    refine Ev.step (fun k => by simp only [spec_Clockface.l0]; rfl) ?_
    have e : (ckSL t step n).take n = ckSL t step n := List.take_of_length_le (by omega)
    rw [e]
    refine Ev.neg (by omega) (Ev.bind (ev_spec_TableOk _ hB (decide (TableP (ckSL t step n))) decide_eq_true_iff) ?_)
    by_cases g : TableP (ckSL t step n)
    · rw [if_pos g]; exact Ev.pos (decide_eq_true g) (ev_val rfl)
    · rw [if_neg g]; exact Ev.neg (fun q => g (of_decide_eq_true q)) (ev_val rfl)
open Classical in
theorem clock_eq {t : S28} (step : Int) (n : Nat) : (if TableP (ckIL t step n) then ckIL t step n else []) = (if TableP (ckSL t step n) then ckSL t step n else []) := by
  by_cases g : ∀ k, k < n → lastD t + (k : Int) * step ≤ 100000
  · have e : ckIL t step n = ckSL t step n := range_congr (fun j hj => ck_same (g j hj))
    rw [e]
  · obtain ⟨k, hk, hf⟩ := not_all g
    have hi : ¬ TableP (ckIL t step n) := fun q => by
      have := (q.2 k (by simp [ckIL]; exact hk)).1
      rw [ckIL_at t step hk] at this
      exact (ck_none hf).1 this
    have hs : ¬ TableP (ckSL t step n) := fun q => by
      have := (q.2 k (by simp [ckSL]; exact hk)).1
      rw [ckSL_at t step hk] at this
      exact (ck_none hf).2 this
    rw [if_neg hi, if_neg hs]
theorem main_FnExactClockface (x0 : S23) (x1 : Int) (x2 : Int) (h0 : ok23 x0) (h1 : (Lit.int .i64 x1).wf = true) (h2 : (Lit.int .i64 x2).wf = true) (b0 : (x0.f0.size ≤ 1048576 ∧ (x0.f1.length ≤ 1048576))) : ∃ w, Ev (fun k => spec_Clockface.f k (cv23_28 x0) x1 x2) w ∧ Ev (fun k => impl_Clockface.f k (cv23_28 x0) x1 x2) w ∧ (w.length ≤ 1048576 ∧ ∀ y ∈ w, (y.f0.size ≤ 1048576 ∧ (y.f1.length ≤ 1048576))) := by
  classical
  have hb : TripB (cv23_28 x0) := b0
  generalize cv23_28 x0 = t at hb
  by_cases h : TripP t
  · by_cases hc : 1 ≤ x1 ∧ x1 ≤ 1440
    · by_cases hd : 1 ≤ x2 ∧ x2 ≤ 24
      · obtain ⟨n, rfl⟩ : ∃ n : Nat, x2 = (n : Int) := ⟨x2.toNat, by omega⟩
        refine ⟨_, ev_spec_ClockfaceA h hc.1 hc.2 (by omega) (by omega), ?_, ?_⟩
        · rw [← clock_eq]; exact ev_impl_ClockfaceA h hc.1 hc.2 (by omega) (by omega)
        · have hB := ckSL_B h x1 (n := n) (by omega)
          split
          · exact hB
          · exact ⟨by decide, fun y hy => absurd hy (by simp)⟩
      · unfold spec_Clockface.f impl_Clockface.f
        exact ⟨[], Ev.bind (ev_spec_TripOk t hb.1 hb.2 true (by simp [h])) (Ev.pos rfl (Ev.opt (eq_spec_l01In _ _ _) (Ev.pos (decide_eq_true hc) (Ev.opt (eq_spec_l01In _ _ _) (Ev.neg (fun g => hd (of_decide_eq_true g)) (ev_val rfl)))))), Ev.bind (ev_impl_TripOk t hb.1 hb.2 true (by simp [h])) (Ev.pos rfl (Ev.opt (eq_impl_between _ _ _) (Ev.pos (decide_eq_true hc) (Ev.opt (eq_impl_between _ _ _) (Ev.neg (fun g => hd (of_decide_eq_true g)) (ev_val rfl)))))), by decide, fun y hy => absurd hy (by simp)⟩
    · unfold spec_Clockface.f impl_Clockface.f
      exact ⟨[], Ev.bind (ev_spec_TripOk t hb.1 hb.2 true (by simp [h])) (Ev.pos rfl (Ev.opt (eq_spec_l01In _ _ _) (Ev.neg (fun g => hc (of_decide_eq_true g)) (ev_val rfl)))), Ev.bind (ev_impl_TripOk t hb.1 hb.2 true (by simp [h])) (Ev.pos rfl (Ev.opt (eq_impl_between _ _ _) (Ev.neg (fun g => hc (of_decide_eq_true g)) (ev_val rfl)))), by decide, fun y hy => absurd hy (by simp)⟩
  · unfold spec_Clockface.f impl_Clockface.f
    exact ⟨[], Ev.bind (ev_spec_TripOk t hb.1 hb.2 false (by simp [h])) (Ev.neg (by decide) (ev_val rfl)), Ev.bind (ev_impl_TripOk t hb.1 hb.2 false (by simp [h])) (Ev.neg (by decide) (ev_val rfl)), by decide, fun y hy => absurd hy (by simp)⟩
theorem pure_FnExactClockface : Pure := by
  intro x0 x1 x2 h0 h1 h2
  refine Ev.rounds ?_
  unfold laws_FnExactClockface.f
  obtain ⟨r0, e0, hr0⟩ := sz_Trip x0 1048576 (by omega) (by omega) h0
  refine Ev.bind e0 ?_
  refine Ev.ite (fun _ => ev_val rfl) (fun g0 => ?_)
  obtain ⟨p0, q0, b0⟩ := hr0.resolve_left g0
  have c0_0 : x0.f0.size ≤ 1048576 := b0.1
  have c0_1 : x0.f1.length ≤ 1048576 := b0.2
  obtain ⟨w, es, ei, hb⟩ := main_FnExactClockface x0 x1 x2 h0 h1 h2 b0
  refine Ev.bind (to_Trip x0 b0) ?_
  refine Ev.bind es ?_
  refine Ev.bind (to_Trip x0 b0) ?_
  refine Ev.bind ei ?_
  refine Ev.bind (eq_TripS _ (by first | exact hb | exact hb.1 | exact hb.2 | trivial)) ?_
  refine Ev.pos (by first | rfl | simp [sEq] | omega) ?_
  refine Ev.bind (to_Trip x0 b0) ?_
  refine Ev.bind (eq_Trip _ ⟨b0.1, b0.2⟩) ?_
  refine Ev.pos (by first | rfl | simp [sEq] | omega) ?_
  refine Ev.bind (mark_Trip _ ⟨b0.1, b0.2⟩ _ (by first | omega | (dsimp only; omega)) (by first | omega | (dsimp only; omega))) ?_
  refine Ev.neg (by first | omega | simp [sEq]) ?_
  refine Ev.bind (eq_TripS _ (by first | exact hb | exact hb.1 | exact hb.2 | trivial)) ?_
  refine Ev.pos (by first | rfl | simp [sEq] | omega) ?_
  refine Ev.bind (mark_TripS _ hb _ (by first | omega | (dsimp only; omega)) (by first | omega | (dsimp only; omega))) ?_
  refine Ev.bind (held_TripS _ hb _ (by first | omega | (dsimp only; omega)) (by first | omega | (dsimp only; omega))) ?_
  refine Ev.neg (fun g_ => mkN_nn hb.2 (Nat.le_refl _) g_ (by first | omega | (dsimp only; omega))) ?_
  refine Ev.pos (by first | rfl | simp [sEq] | omega) ?_
  refine Ev.bind (to_Trip x0 b0) ?_
  refine Ev.bind ei ?_
  refine Ev.bind (eq_TripS _ (by first | exact hb | exact hb.1 | exact hb.2 | trivial)) ?_
  refine Ev.pos (by first | rfl | simp [sEq] | omega) ?_
  refine Ev.bind (held_TripS _ hb _ (by first | omega | (dsimp only; omega)) (by first | omega | (dsimp only; omega))) ?_
  refine Ev.neg (fun g_ => mkN_nn hb.2 (Nat.le_refl _) g_ (by first | omega | (dsimp only; omega))) ?_
  refine Ev.pos (by first | rfl | simp [sEq] | omega) ?_
  exact ev_val rfl

end Go.Proofs.YtjlickinmkafbaaDoor.Fns
