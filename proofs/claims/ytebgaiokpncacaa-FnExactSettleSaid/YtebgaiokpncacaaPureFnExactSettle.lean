/- The pure statement of the law FnExactSettle: its function, told by the engine, gives true for every input. -/
import Derived.Test.YtebgaiokpncacaaSFnExactSettle
namespace Go.Proofs.Ytebgaiokpncacaa.Fns
open Go.RowKit Go.WideShapes Go.Proofs.Ytebgaiokpncacaa.Eng
set_option linter.unusedVariables false
set_option linter.unusedSimpArgs false
/-- From some number of rounds on there is one answer, and C holds of it. -/
def Evx {α : Type} (g : Nat → Option α) (C : α → Prop) : Prop := ∃ r, Ev g r ∧ C r
section
variable {α β : Type}
theorem Evx.val {a : α} {C : α → Prop} (h : C a) : Evx (fun _ => some a) C := ⟨a, Ev.now a, h⟩
theorem Evx.of {g : Nat → Option α} {r : α} {C : α → Prop} (h : Ev g r) (hc : C r) : Evx g C := ⟨r, h, hc⟩
theorem Evx.bind {g : Nat → Option α} {f : Nat → α → Option β} {P : α → Prop} {C : β → Prop} (h : Evx g P) (k : ∀ a, P a → Evx (fun n => f n a) C) : Evx (fun n => (g n).bind (f n)) C := by
  obtain ⟨a, h1, h2⟩ := h
  obtain ⟨r, h3, h4⟩ := k a h2
  exact ⟨r, Ev.bind h1 h3, h4⟩
theorem Evx.bindv {g : Nat → Option α} {f : Nat → α → Option β} {a : α} {C : β → Prop} (h : Ev g a) (k : Evx (fun n => f n a) C) : Evx (fun n => (g n).bind (f n)) C := by
  obtain ⟨r, h3, h4⟩ := k
  exact ⟨r, Ev.bind h h3, h4⟩
theorem Evx.opt {g : Option α} {f : Nat → α → Option β} {a : α} {C : β → Prop} (h : g = some a) (k : Evx (fun n => f n a) C) : Evx (fun n => g.bind (f n)) C := by subst h; exact k
theorem Evx.step {g f : Nat → Option α} {C : α → Prop} (h : ∀ k, g (k + 1) = f k) (k : Evx f C) : Evx g C := by
  obtain ⟨r, h3, h4⟩ := k
  exact ⟨r, Ev.step h h3, h4⟩
theorem Evx.congr {g f : Nat → Option α} {C : α → Prop} (h : ∀ k, g k = f k) (k : Evx f C) : Evx g C := by
  obtain ⟨r, h3, h4⟩ := k
  exact ⟨r, Ev.congr h h3, h4⟩
theorem Evx.ite {c : Prop} [Decidable c] {g f : Nat → Option α} {C : α → Prop} (h : c → Evx g C) (h' : ¬ c → Evx f C) : Evx (fun k => if c then g k else f k) C := by
  by_cases hc : c
  · simp only [if_pos hc]; exact h hc
  · simp only [if_neg hc]; exact h' hc
theorem Evx.pos {c : Prop} [Decidable c] {g f : Nat → Option α} {C : α → Prop} (hc : c) (h : Evx g C) : Evx (fun k => if c then g k else f k) C := by simp only [if_pos hc]; exact h
theorem Evx.neg {c : Prop} [Decidable c] {g f : Nat → Option α} {C : α → Prop} (hc : ¬ c) (h : Evx f C) : Evx (fun k => if c then g k else f k) C := by simp only [if_neg hc]; exact h
theorem Evx.mono {g : Nat → Option α} {C D : α → Prop} (h : Evx g C) (hd : ∀ r, C r → D r) : Evx g D := by
  obtain ⟨r, h1, h2⟩ := h
  exact ⟨r, h1, hd r h2⟩
theorem Evx.ev {g : Nat → Option α} {r : α} (h : Evx g (fun x => x = r)) : Ev g r := by
  obtain ⟨a, h1, rfl⟩ := h
  exact h1
theorem Ev.uniq {g : Nat → Option α} {a b : α} (h : Ev g a) (h' : Ev g b) : a = b := by
  obtain ⟨K, hK⟩ := h
  obtain ⟨K', hK'⟩ := h'
  have e1 := hK (max K K') (by omega)
  have e2 := hK' (max K K') (by omega)
  rw [e1] at e2
  exact Option.some.inj e2
end
/-- A loop that counts up, with what holds of its state at each place. -/
theorem evx_loop {R σ : Type} (G : Nat → Nat → σ → Option R) (n : Nat) (Inv : Nat → σ → Prop) (C : R → Prop)
    (hstep : ∀ i s, i < n → Inv i s → (∀ s', Inv (i + 1) s' → Evx (fun k => G k (i + 1) s') C) → Evx (fun k => G k i s) C)
    (hend : ∀ s, Inv n s → Evx (fun k => G k n s) C) : ∀ s, Inv 0 s → Evx (fun k => G k 0 s) C := by
  have key : ∀ d i, i + d = n → ∀ s, Inv i s → Evx (fun k => G k i s) C := by
    intro d
    induction d with
    | zero => intro i hi s hs; obtain rfl : i = n := by omega
              exact hend s hs
    | succ d ih => intro i hi s hs; exact hstep i s (by omega) hs (fun s' hs' => ih (i + 1) (by omega) s' hs')
  exact fun s hs => key n 0 (by omega) s hs
-- counting, taking, placing
theorem at_getD {α : Type} [Inhabited α] (xs : List α) (i : Int) : at_ xs i = xs.getD i.toNat default := rfl
theorem at_int {α : Type} [Inhabited α] {xs : List α} {i : Int} (h0 : 0 ≤ i) (h1 : i < (xs.length : Int)) : at_ xs i = xs[i.toNat]'(by omega) := by
  have h : i.toNat < xs.length := by omega
  rw [at_getD, List.getD_eq_getElem?_getD, List.getElem?_eq_getElem h]
  rfl
theorem at_mem {α : Type} [Inhabited α] {xs : List α} {i : Int} (h0 : 0 ≤ i) (h1 : i < (xs.length : Int)) : at_ xs i ∈ xs := by
  rw [at_int h0 h1]; exact List.getElem_mem _
theorem all_at {α : Type} [Inhabited α] {xs : List α} {p : α → Prop} (h : ∀ y, y ∈ xs → p y) {i : Int} (h0 : 0 ≤ i) (h1 : i < (xs.length : Int)) : p (at_ xs i) := h _ (at_mem h0 h1)
theorem all_idx {α : Type} [Inhabited α] {xs : List α} {p : α → Prop} (h : ∀ i, i < xs.length → p (at_ xs (i : Int))) {i : Int} (h0 : 0 ≤ i) (h1 : i < (xs.length : Int)) : p (at_ xs i) := by
  have := h i.toNat (by omega)
  rwa [show ((i.toNat : Nat) : Int) = i by omega] at this
theorem all_iff {α : Type} [Inhabited α] {xs : List α} {p : α → Prop} : (∀ i, i < xs.length → p (at_ xs (i : Int))) ↔ ∀ y, y ∈ xs → p y := by
  refine ⟨fun h y hy => ?_, fun h i hi => h _ (at_mem (by omega) (by omega))⟩
  obtain ⟨i, hi, rfl⟩ := List.getElem_of_mem hy
  have := h i hi
  rwa [at_nat hi] at this
theorem take_succ' {α : Type} {xs : List α} {i : Nat} (h : i < xs.length) : xs.take (i + 1) = xs.take i ++ [xs[i]] := List.take_succ_eq_append_getElem h
theorem count_take {α : Type} (p : α → Bool) {xs : List α} {i : Nat} (h : i < xs.length) : (xs.take (i + 1)).countP p = (xs.take i).countP p + (if p xs[i] then 1 else 0) := by
  rw [take_succ' h, List.countP_append, List.countP_singleton]
theorem count_le {α : Type} (p : α → Bool) (xs : List α) : xs.countP p ≤ xs.length := List.countP_le_length
theorem set_take {α : Type} {xs : List α} {i j : Nat} (v : α) (h : j < xs.length) : (xs.set i v)[j]'(by rw [List.length_set]; exact h) = if i = j then v else xs[j] := by rw [List.getElem_set]
theorem at_set_ne {α : Type} [Inhabited α] {xs : List α} {i : Nat} {j : Int} {v : α} (h0 : 0 ≤ j) (h : (i : Int) ≠ j) : at_ (xs.set i v) j = at_ xs j := by
  rw [at_getD, at_getD, List.getD_eq_getElem?_getD, List.getD_eq_getElem?_getD, List.getElem?_set_ne (by omega)]
theorem at_set_eq {α : Type} [Inhabited α] {xs : List α} {i : Nat} {v : α} (h : i < xs.length) : at_ (xs.set i v) (i : Int) = v := by
  rw [at_getD, List.getD_eq_getElem?_getD, Int.toNat_natCast, List.getElem?_set_self h]; rfl
theorem at_app_left {α : Type} [Inhabited α] (a b : List α) {i : Int} (h0 : 0 ≤ i) (h : i < (a.length : Int)) : at_ (a ++ b) i = at_ a i := by
  rw [at_getD, at_getD, List.getD_eq_getElem?_getD, List.getD_eq_getElem?_getD, List.getElem?_append_left (by omega)]
theorem at_app_right {α : Type} [Inhabited α] (a b : List α) {i : Int} (h : (a.length : Int) ≤ i) : at_ (a ++ b) i = at_ b (i - a.length) := by
  rw [at_getD, at_getD, List.getD_eq_getElem?_getD, List.getD_eq_getElem?_getD, List.getElem?_append_right (by omega)]
  congr 2; omega
theorem at_app_last {α : Type} [Inhabited α] (a : List α) (v : α) : at_ (a ++ [v]) (a.length : Int) = v := by
  rw [at_app_right a [v] (by omega), Int.sub_self]; rfl
theorem at_take {α : Type} [Inhabited α] (xs : List α) {n : Nat} {i : Int} (h0 : 0 ≤ i) (h : i < n) : at_ (xs.take n) i = at_ xs i := by
  rw [at_getD, at_getD, List.getD_eq_getElem?_getD, List.getD_eq_getElem?_getD, List.getElem?_take_of_lt (by omega)]
theorem at_rep {α : Type} [Inhabited α] (n : Nat) (v : α) {i : Int} (h0 : 0 ≤ i) (h : i < n) : at_ (List.replicate n v) i = v := by
  rw [at_int h0 (by simpa using h)]; simp
theorem tmod_of {a : Int} (b : Int) (h : 0 ≤ a) : a.tmod b = a % b := Int.tmod_eq_emod_of_nonneg h
theorem tdiv_of {a : Int} (b : Int) (h : 0 ≤ a) : a.tdiv b = a / b := Int.tdiv_eq_ediv_of_nonneg h
theorem range_at {n : Nat} {f : Nat → Int} {i : Int} (h0 : 0 ≤ i) (h : i < n) : at_ ((List.range n).map f) i = f i.toNat := by
  rw [at_int h0 (by simpa using h)]; simp
theorem range_set {α : Type} (n : Nat) (f : Nat → α) (i : Nat) (v : α) : ((List.range n).map f).set i v = (List.range n).map (fun j => if j = i then v else f j) := by
  refine List.ext_getElem (by simp) fun j h1 h2 => ?_
  simp only [List.getElem_set, List.getElem_map, List.getElem_range]
  by_cases e : i = j
  · rw [if_pos e, if_pos e.symm]
  · rw [if_neg e, if_neg (fun g => e g.symm)]
theorem range_congr {α : Type} {n : Nat} {f g : Nat → α} (h : ∀ j, j < n → f j = g j) : (List.range n).map f = (List.range n).map g :=
  List.map_congr_left fun j hj => h j (List.mem_range.1 hj)
/-- A loop that counts up and stops where P does not hold. -/
theorem ev_scan {R : Type} (n : Nat) (P : Nat → Prop) (bad : R) (G : Nat → Nat → Option R) {r : R} (hr : (∃ i, i < n ∧ ¬ P i) → r = bad)
    (hstep : ∀ i, i < n → (∀ j, j < i → P j) → (P i → Ev (fun k => G k (i + 1)) r) → (¬ P i → r = bad) → Ev (fun k => G k i) r)
    (hend : (∀ i, i < n → P i) → Ev (fun k => G k n) r) : Ev (fun k => G k 0) r := by
  have key : ∀ d i, i + d = n → (∀ j, j < i → P j) → Ev (fun k => G k i) r := by
    intro d
    induction d with
    | zero => intro i hi hp; obtain rfl : i = n := by omega
              exact hend hp
    | succ d ih =>
      intro i hi hp
      refine hstep i (by omega) hp (fun h => ih (i + 1) (by omega) fun j hj => ?_) (fun h => hr ⟨i, by omega, h⟩)
      rcases Nat.lt_or_ge j i with g | g
      · exact hp j g
      · obtain rfl : j = i := by omega
        exact h
  exact key n 0 (by omega) (fun j hj => absurd hj (by omega))
theorem bool_eq {b : Bool} {P : Prop} (hb : b = true ↔ P) (h : P) : b = true := hb.2 h
theorem not_all {n : Nat} {P : Nat → Prop} (h : ¬ ∀ i, i < n → P i) : ∃ i, i < n ∧ ¬ P i := by
  classical
  exact Classical.byContradiction fun g => h fun i hi => Classical.byContradiction fun q => g ⟨i, hi, q⟩
theorem mem_take_iff {α : Type} [Inhabited α] {xs : List α} {n : Nat} {v : α} (h : n ≤ xs.length) : v ∈ xs.take n ↔ ∃ i, i < n ∧ at_ xs (i : Int) = v := by
  constructor
  · intro hv
    obtain ⟨i, hi, e⟩ := List.getElem_of_mem hv
    rw [List.length_take] at hi
    rw [List.getElem_take] at e
    exact ⟨i, by omega, by rw [at_nat (by omega)]; exact e⟩
  · rintro ⟨i, hi, e⟩
    rw [at_nat (by omega)] at e
    rw [← e]
    exact List.mem_take_iff_getElem.2 ⟨i, by omega, rfl⟩
theorem mem_at {α : Type} [Inhabited α] {xs : List α} {v : α} : v ∈ xs ↔ ∃ i, i < xs.length ∧ at_ xs (i : Int) = v := by
  have := mem_take_iff (xs := xs) (v := v) (Nat.le_refl _)
  rwa [List.take_length] at this
open Classical in
/-- The first place where P holds, or -1. -/
noncomputable def firstI (n : Nat) (P : Nat → Prop) : Int := if h : ∃ i, i < n ∧ P i then ((Classical.choose (least_of h) : Nat) : Int) else -1
theorem firstI_spec (n : Nat) (P : Nat → Prop) : (firstI n P = -1 ∧ ∀ i, i < n → ¬ P i) ∨ ∃ i, i < n ∧ P i ∧ (∀ j, j < i → ¬ P j) ∧ firstI n P = (i : Int) := by
  classical
  unfold firstI
  by_cases h : ∃ i, i < n ∧ P i
  · rw [dif_pos h]
    have hs := Classical.choose_spec (least_of h)
    exact .inr ⟨_, hs.1.1, hs.1.2, fun j hj hp => hs.2 j hj ⟨by have := hs.1.1; omega, hp⟩, rfl⟩
  · rw [dif_neg h]
    exact .inl ⟨rfl, fun i hi hp => h ⟨i, hi, hp⟩⟩
theorem firstI_lo (n : Nat) (P : Nat → Prop) : -1 ≤ firstI n P ∧ firstI n P < (n : Int) ∧ (0 ≤ firstI n P ↔ ∃ i, i < n ∧ P i) := by
  rcases firstI_spec n P with ⟨h, h2⟩ | ⟨i, h1, h2, _, h3⟩
  · rw [h]; exact ⟨by omega, by omega, fun g => by omega, fun ⟨i, hi, hp⟩ => absurd hp (h2 i hi)⟩
  · rw [h3]; exact ⟨by omega, by omega, fun _ => ⟨i, h1, h2⟩, fun _ => by omega⟩
theorem firstI_at {n : Nat} {P : Nat → Prop} (h : 0 ≤ firstI n P) : P (firstI n P).toNat := by
  rcases firstI_spec n P with ⟨h1, _⟩ | ⟨i, h1, h2, _, h3⟩
  · omega
  · rw [h3]; exact h2
theorem firstI_find {R : Type} (n : Nat) (P : Nat → Prop) (out : Int → R) : FindR n P (fun i => out (i : Int)) (out (-1)) (out (firstI n P)) := by
  rcases firstI_spec n P with ⟨h, h2⟩ | ⟨i, h1, h2, h4, h3⟩
  · exact .inl ⟨by rw [h], h2⟩
  · exact .inr ⟨i, h1, h2, h4, by rw [h3]⟩
theorem firstI_congr {n : Nat} {P Q : Nat → Prop} (h : ∀ i, i < n → (P i ↔ Q i)) : firstI n P = firstI n Q := by
  rcases firstI_spec n P with ⟨h1, h2⟩ | ⟨i, h1, h2, h4, h3⟩
  · rcases firstI_spec n Q with ⟨g1, g2⟩ | ⟨j, g1, g2, g4, g3⟩
    · rw [h1, g1]
    · exact absurd ((h j g1).2 g2) (h2 j g1)
  · rcases firstI_spec n Q with ⟨g1, g2⟩ | ⟨j, g1, g2, g4, g3⟩
    · exact absurd ((h i h1).1 h2) (g2 i h1)
    · rw [h3, g3]
      rcases Nat.lt_trichotomy i j with w | w | w
      · exact absurd ((h i h1).1 h2) (g4 i w)
      · rw [w]
      · exact absurd ((h j g1).2 g2) (h4 j w)
theorem firstI_eq {n : Nat} {P : Nat → Prop} {i : Nat} (h : i < n) (hp : P i) (hm : ∀ j, j < i → ¬ P j) : firstI n P = (i : Int) := by
  rcases firstI_spec n P with ⟨_, h2⟩ | ⟨j, h1, h2, h4, h3⟩
  · exact absurd hp (h2 i h)
  · rw [h3]
    rcases Nat.lt_trichotomy i j with w | w | w
    · exact absurd hp (h4 i w)
    · rw [w]
    · exact absurd h2 (hm j w)
theorem firstI_no {n : Nat} {P : Nat → Prop} (h : ∀ i, i < n → ¬ P i) : firstI n P = -1 := by
  rcases firstI_spec n P with ⟨h1, _⟩ | ⟨j, h1, h2, _, _⟩
  · exact h1
  · exact absurd h2 (h j h1)
/-- .. and what it gives hangs on where it stops. -/
theorem ev_scan2 {R : Type} (n : Nat) (P : Nat → Prop) (bad : Nat → R) (G : Nat → Nat → Option R) {r : R} (hr : ∀ i, i < n → ¬ P i → (∀ j, j < i → P j) → r = bad i)
    (hstep : ∀ i, i < n → (∀ j, j < i → P j) → (P i → Ev (fun k => G k (i + 1)) r) → (¬ P i → r = bad i) → Ev (fun k => G k i) r)
    (hend : (∀ i, i < n → P i) → Ev (fun k => G k n) r) : Ev (fun k => G k 0) r := by
  have key : ∀ d i, i + d = n → (∀ j, j < i → P j) → Ev (fun k => G k i) r := by
    intro d
    induction d with
    | zero => intro i hi hp; obtain rfl : i = n := by omega
              exact hend hp
    | succ d ih =>
      intro i hi hp
      refine hstep i (by omega) hp (fun h => ih (i + 1) (by omega) fun j hj => ?_) (fun h => hr i (by omega) h hp)
      rcases Nat.lt_or_ge j i with g | g
      · exact hp j g
      · obtain rfl : j = i := by omega
        exact h
  exact key n 0 (by omega) (fun j hj => absurd hj (by omega))
theorem eq_impl_between (a b c : Int) : impl_between.f a b c = some (decide (b ≤ a ∧ a ≤ c)) := by
  unfold impl_between.f
  by_cases h : a ≥ b
  · rw [if_pos h]; simp [show b ≤ a from h]
  · rw [if_neg h]; simp [show ¬ b ≤ a from h]
theorem eq_spec_l01In (a b c : Int) : spec_l01In.f a b c = some (decide (b ≤ a ∧ a ≤ c)) := by
  unfold spec_l01In.f
  by_cases h : b ≤ a
  · rw [if_pos h]; simp [h]
  · rw [if_neg h]; simp [h]
theorem sz_EdgeS (x : (List S95)) (left : Int) (h0 : 0 ≤ left) (h1 : left ≤ 1048576) (ho : (x.length ≤ maxLen ∧ ∀ y ∈ x, ok95 y)) : Evx (fun k => laws_szEdgeS.f x left) (fun r => r < 0 ∨ (0 ≤ r ∧ r ≤ left ∧ (x.length ≤ 1048576))) := by
  have hm : maxLen = 9223372036854775807 := rfl
  unfold laws_szEdgeS.f
  obtain ⟨hl, hy⟩ := ho
  rw [wrap_id (by omega) (by omega)]
  refine Evx.ite (fun h => Evx.val (.inl (by decide))) (fun h => ?_)
  exact Evx.val (.inr ⟨by omega, by omega, by omega⟩)
theorem sz_Net (x : S39) (left : Int) (h0 : 0 ≤ left) (h1 : left ≤ 1048576) (ho : ok39 x) : Evx (fun k => laws_szNet.f x left) (fun r => r < 0 ∨ (0 ≤ r ∧ r ≤ left ∧ ((x.f1.length ≤ 1048576)))) := by
  have hm : maxLen = 9223372036854775807 := rfl
  unfold laws_szNet.f
  unfold ok39 at ho
  obtain ⟨o0, o1⟩ := ho
  refine Evx.bind (sz_EdgeS x.f1 left (by omega) (by omega) o1) (fun r1 hr1 => ?_)
  refine Evx.ite (fun h => Evx.val (.inl (by decide))) (fun h1_ => ?_)
  obtain ⟨p1, q1, b1⟩ := hr1.resolve_left h1_
  exact Evx.val (.inr ⟨by omega, by omega, b1⟩)
theorem sz_CallS (x : (List S89)) (left : Int) (h0 : 0 ≤ left) (h1 : left ≤ 1048576) (ho : (x.length ≤ maxLen ∧ ∀ y ∈ x, ok89 y)) : Evx (fun k => laws_szCallS.f x left) (fun r => r < 0 ∨ (0 ≤ r ∧ r ≤ left ∧ (x.length ≤ 1048576))) := by
  have hm : maxLen = 9223372036854775807 := rfl
  unfold laws_szCallS.f
  obtain ⟨hl, hy⟩ := ho
  rw [wrap_id (by omega) (by omega)]
  refine Evx.ite (fun h => Evx.val (.inl (by decide))) (fun h => ?_)
  exact Evx.val (.inr ⟨by omega, by omega, by omega⟩)
theorem sz_Trip (x : S61) (left : Int) (h0 : 0 ≤ left) (h1 : left ≤ 1048576) (ho : ok61 x) : Evx (fun k => laws_szTrip.f x left) (fun r => r < 0 ∨ (0 ≤ r ∧ r ≤ left ∧ (x.f0.size ≤ 1048576 ∧ (x.f1.length ≤ 1048576)))) := by
  have hm : maxLen = 9223372036854775807 := rfl
  unfold laws_szTrip.f
  unfold ok61 at ho
  obtain ⟨o0, o1⟩ := ho
  rw [wrap_id (x := left - (x.f0.size : Int)) (by omega) (by omega)]
  refine Evx.ite (fun h => Evx.val (.inl (by decide))) (fun h0_ => ?_)
  refine Evx.bind (sz_CallS x.f1 (left - (x.f0.size : Int)) (by omega) (by omega) o1) (fun r1 hr1 => ?_)
  refine Evx.ite (fun h => Evx.val (.inl (by decide))) (fun h1_ => ?_)
  obtain ⟨p1, q1, b1⟩ := hr1.resolve_left h1_
  exact Evx.val (.inr ⟨by omega, by omega, (by omega), b1⟩)
theorem sz_TripS (x : (List S61)) (left : Int) (h0 : 0 ≤ left) (h1 : left ≤ 1048576) (ho : (x.length ≤ maxLen ∧ ∀ y ∈ x, ok61 y)) : Evx (fun k => laws_szTripS.f k x left) (fun r => r < 0 ∨ (0 ≤ r ∧ r ≤ left ∧ (x.length ≤ 1048576 ∧ ∀ y ∈ x, (y.f0.size ≤ 1048576 ∧ (y.f1.length ≤ 1048576))))) := by
  have hm : maxLen = 9223372036854775807 := rfl
  unfold laws_szTripS.f
  obtain ⟨hl, hy⟩ := ho
  rw [wrap_id (by omega) (by omega)]
  refine Evx.ite (fun h => Evx.val (.inl (by decide))) (fun h => ?_)
  refine evx_loop (fun k i (l : Int) => laws_szTripS.l0 k x l (i : Int)) x.length (fun i l => 0 ≤ l ∧ l ≤ left - x.length ∧ ∀ j (h : j < x.length), j < i → (fun y => (y.f0.size ≤ 1048576 ∧ (y.f1.length ≤ 1048576))) x[j]) _ ?_ ?_ _ ⟨by omega, by omega, fun j _ h => absurd h (by omega)⟩
  · intro i l hi ⟨a1, a2, a3⟩ hn
    refine Evx.step (fun k => by simp only [laws_szTripS.l0]; rfl) ?_
    refine Evx.pos (by omega) (Evx.pos (by omega) ?_)
    rw [at_nat hi]
    refine Evx.bind (sz_Trip x[i] l a1 (by omega) (hy _ (List.getElem_mem hi))) (fun r hr => ?_)
    rw [wrap_succ hi (by omega)]
    refine Evx.ite (fun h => Evx.val (.inl (by decide))) (fun h => ?_)
    obtain ⟨b1, b2, b3⟩ := hr.resolve_left h
    refine hn r ⟨b1, by omega, fun j hj hij => ?_⟩
    rcases Nat.lt_or_ge j i with g | g
    · exact a3 j hj g
    · obtain rfl : j = i := by omega
      exact b3
  · intro l ⟨a1, a2, a3⟩
    refine Evx.step (fun k => by simp only [laws_szTripS.l0]; rfl) ?_
    refine Evx.neg (by omega) (Evx.val (.inr ⟨a1, by omega, by omega, fun y hy => ?_⟩))
    obtain ⟨j, hj, rfl⟩ := List.getElem_of_mem hy
    exact a3 j hj hj
theorem to_Edge (x : S95) (hb : True) : Ev (fun k => laws_toEdge.f x) x := by
  unfold laws_toEdge.f
  exact ev_val rfl
theorem to_EdgeS (x : (List S95)) (hb : (x.length ≤ 1048576)) : Ev (fun k => laws_toEdgeS.f k x) x := by
  unfold laws_toEdgeS.f
  have hl := hb
  refine Ev.pos (by omega) (Ev.pos (by omega) ?_)
  rw [Int.toNat_natCast]
  refine ev_fill x id _ (fun k s i => laws_toEdgeS.l0 k x s (i : Int)) ?_ ?_
  · intro i hi s hs hn
    refine Ev.step (fun k => by simp only [laws_toEdgeS.l0]; rfl) ?_
    refine Ev.pos (by omega) (Ev.pos (by omega) ?_)
    rw [at_nat hi]
    refine Ev.bind (to_Edge x[i] trivial) ?_
    refine Ev.pos (by omega) ?_
    rw [Int.toNat_natCast, wrap_succ hi (by omega)]
    exact hn
  · refine Ev.step (fun k => by simp only [laws_toEdgeS.l0]; rfl) ?_
    refine Ev.neg (by omega) (ev_val (List.map_id x))
abbrev cv39_46 (x : S39) : S46 := ⟨x.f0, x.f1⟩
theorem bd_cv39_46 (x : S39) (h : ((x.f1.length ≤ 1048576))) : (((cv39_46 x).f1.length ≤ 1048576)) := h
theorem to_Net (x : S39) (hb : ((x.f1.length ≤ 1048576))) : Ev (fun k => laws_toNet.f k x) (cv39_46 x) := by
  unfold laws_toNet.f
  refine Ev.bind (to_EdgeS x.f1 hb) ?_
  exact ev_val rfl
theorem to_Call (x : S89) (hb : True) : Ev (fun k => laws_toCall.f x) x := by
  unfold laws_toCall.f
  exact ev_val rfl
theorem to_CallS (x : (List S89)) (hb : (x.length ≤ 1048576)) : Ev (fun k => laws_toCallS.f k x) x := by
  unfold laws_toCallS.f
  have hl := hb
  refine Ev.pos (by omega) (Ev.pos (by omega) ?_)
  rw [Int.toNat_natCast]
  refine ev_fill x id _ (fun k s i => laws_toCallS.l0 k x s (i : Int)) ?_ ?_
  · intro i hi s hs hn
    refine Ev.step (fun k => by simp only [laws_toCallS.l0]; rfl) ?_
    refine Ev.pos (by omega) (Ev.pos (by omega) ?_)
    rw [at_nat hi]
    refine Ev.bind (to_Call x[i] trivial) ?_
    refine Ev.pos (by omega) ?_
    rw [Int.toNat_natCast, wrap_succ hi (by omega)]
    exact hn
  · refine Ev.step (fun k => by simp only [laws_toCallS.l0]; rfl) ?_
    refine Ev.neg (by omega) (ev_val (List.map_id x))
abbrev cv61_66 (x : S61) : S66 := ⟨x.f0, x.f1⟩
theorem bd_cv61_66 (x : S61) (h : (x.f0.size ≤ 1048576 ∧ (x.f1.length ≤ 1048576))) : ((cv61_66 x).f0.size ≤ 1048576 ∧ ((cv61_66 x).f1.length ≤ 1048576)) := ⟨h.1, h.2⟩
theorem to_Trip (x : S61) (hb : (x.f0.size ≤ 1048576 ∧ (x.f1.length ≤ 1048576))) : Ev (fun k => laws_toTrip.f k x) (cv61_66 x) := by
  unfold laws_toTrip.f
  refine Ev.bind (to_CallS x.f1 hb.2) ?_
  exact ev_val rfl
theorem to_TripS (x : (List S61)) (hb : (x.length ≤ 1048576 ∧ ∀ y ∈ x, (y.f0.size ≤ 1048576 ∧ (y.f1.length ≤ 1048576)))) : Ev (fun k => laws_toTripS.f k x) (x.map cv61_66) := by
  unfold laws_toTripS.f
  obtain ⟨hl, hy⟩ := hb
  refine Ev.pos (by omega) (Ev.pos (by omega) ?_)
  rw [Int.toNat_natCast]
  refine ev_fill x cv61_66 _ (fun k s i => laws_toTripS.l0 k x s (i : Int)) ?_ ?_
  · intro i hi s hs hn
    refine Ev.step (fun k => by simp only [laws_toTripS.l0]; rfl) ?_
    refine Ev.pos (by omega) (Ev.pos (by omega) ?_)
    rw [at_nat hi]
    refine Ev.bind (to_Trip x[i] (hy _ (List.getElem_mem hi))) ?_
    refine Ev.pos (by omega) ?_
    rw [Int.toNat_natCast, wrap_succ hi (by omega)]
    exact hn
  · refine Ev.step (fun k => by simp only [laws_toTripS.l0]; rfl) ?_
    refine Ev.neg (by omega) (ev_val rfl)
theorem eq_Call (x : S89) (hb : True) : Ev (fun k => laws_eqCall.f x x) true := by
  unfold laws_eqCall.f
  refine Ev.pos rfl ?_
  refine Ev.pos rfl ?_
  refine Ev.pos rfl ?_
  exact ev_val rfl
theorem eq_CallS (x : (List S89)) (hb : (x.length ≤ 1048576)) : Ev (fun k => laws_eqCallS.f k x x) true := by
  unfold laws_eqCallS.f
  have hl := hb
  refine Ev.pos rfl ?_
  refine ev_fold (fun k i => laws_eqCallS.l0 k x x (i : Int)) x.length ?_ ?_
  · intro i hi hn
    refine Ev.step (fun k => by simp only [laws_eqCallS.l0]; rfl) ?_
    refine Ev.pos (by omega) (Ev.pos (by omega) ?_)
    try refine Ev.pos (by omega) ?_
    rw [at_nat hi]
    refine Ev.bind (eq_Call x[i] trivial) ?_
    refine Ev.pos (by first | rfl | simp) ?_
    rw [wrap_succ hi (by omega)]
    exact hn
  · refine Ev.step (fun k => by simp only [laws_eqCallS.l0]; rfl) ?_
    exact Ev.neg (by omega) (ev_val rfl)
theorem eq_Trip (x : S66) (hb : (x.f0.size ≤ 1048576 ∧ (x.f1.length ≤ 1048576))) : Ev (fun k => laws_eqTrip.f k x x) true := by
  unfold laws_eqTrip.f
  refine Ev.pos (by simp [sEq]) ?_
  refine Ev.bind (eq_CallS x.f1 hb.2) ?_
  refine Ev.pos rfl ?_
  exact ev_val rfl
theorem eq_TripS (x : (List S66)) (hb : (x.length ≤ 1048576 ∧ ∀ y ∈ x, (y.f0.size ≤ 1048576 ∧ (y.f1.length ≤ 1048576)))) : Ev (fun k => laws_eqTripS.f k x x) true := by
  unfold laws_eqTripS.f
  obtain ⟨hl, hy⟩ := hb
  refine Ev.pos rfl ?_
  refine ev_fold (fun k i => laws_eqTripS.l0 k x x (i : Int)) x.length ?_ ?_
  · intro i hi hn
    refine Ev.step (fun k => by simp only [laws_eqTripS.l0]; rfl) ?_
    refine Ev.pos (by omega) (Ev.pos (by omega) ?_)
    try refine Ev.pos (by omega) ?_
    rw [at_nat hi]
    refine Ev.bind (eq_Trip x[i] (hy _ (List.getElem_mem hi))) ?_
    refine Ev.pos (by first | rfl | simp) ?_
    rw [wrap_succ hi (by omega)]
    exact hn
  · refine Ev.step (fun k => by simp only [laws_eqTripS.l0]; rfl) ?_
    exact Ev.neg (by omega) (ev_val rfl)
theorem eq_IntS (x : (List Int)) (hb : (x.length ≤ 1048576)) : Ev (fun k => laws_eqIntS.f k x x) true := by
  unfold laws_eqIntS.f
  have hl := hb
  refine Ev.pos rfl ?_
  refine ev_fold (fun k i => laws_eqIntS.l0 k x x (i : Int)) x.length ?_ ?_
  · intro i hi hn
    refine Ev.step (fun k => by simp only [laws_eqIntS.l0]; rfl) ?_
    refine Ev.pos (by omega) (Ev.pos (by omega) ?_)
    try refine Ev.pos (by omega) ?_
    refine Ev.pos (by first | rfl | simp) ?_
    rw [wrap_succ hi (by omega)]
    exact hn
  · refine Ev.step (fun k => by simp only [laws_eqIntS.l0]; rfl) ?_
    exact Ev.neg (by omega) (ev_val rfl)
theorem eq_Edge (x : S95) (hb : True) : Ev (fun k => laws_eqEdge.f x x) true := by
  unfold laws_eqEdge.f
  refine Ev.pos rfl ?_
  refine Ev.pos rfl ?_
  refine Ev.pos rfl ?_
  refine Ev.pos rfl ?_
  exact ev_val rfl
theorem eq_EdgeS (x : (List S95)) (hb : (x.length ≤ 1048576)) : Ev (fun k => laws_eqEdgeS.f k x x) true := by
  unfold laws_eqEdgeS.f
  have hl := hb
  refine Ev.pos rfl ?_
  refine ev_fold (fun k i => laws_eqEdgeS.l0 k x x (i : Int)) x.length ?_ ?_
  · intro i hi hn
    refine Ev.step (fun k => by simp only [laws_eqEdgeS.l0]; rfl) ?_
    refine Ev.pos (by omega) (Ev.pos (by omega) ?_)
    try refine Ev.pos (by omega) ?_
    rw [at_nat hi]
    refine Ev.bind (eq_Edge x[i] trivial) ?_
    refine Ev.pos (by first | rfl | simp) ?_
    rw [wrap_succ hi (by omega)]
    exact hn
  · refine Ev.step (fun k => by simp only [laws_eqEdgeS.l0]; rfl) ?_
    exact Ev.neg (by omega) (ev_val rfl)
theorem eq_Net (x : S46) (hb : ((x.f1.length ≤ 1048576))) : Ev (fun k => laws_eqNet.f k x x) true := by
  unfold laws_eqNet.f
  refine Ev.pos rfl ?_
  refine Ev.bind (eq_EdgeS x.f1 hb) ?_
  refine Ev.pos rfl ?_
  exact ev_val rfl
def mk_EdgeS (a : Int) (i : Nat) : S95 := (⟨a + 4 * (i : Int), a + 4 * (i : Int) + 1, a + 4 * (i : Int) + 2, a + 4 * (i : Int) + 3⟩ : S95)
def mkd_EdgeS (m : Nat) (a : Int) : List S95 := (List.range m).map (mk_EdgeS a)
theorem mkl_EdgeS (m : Nat) (a : Int) : (mkd_EdgeS m a).length = m := by simp [mkd_EdgeS]
theorem mks_EdgeS (i : Nat) (a : Int) (x : (List S95)) (hi : i < x.length) : (mkd_EdgeS i a ++ x.drop i).set i (mk_EdgeS a i) = mkd_EdgeS (i + 1) a ++ x.drop (i + 1) := by
  rw [List.set_append_right _ _ (by rw [mkl_EdgeS]; omega), mkl_EdgeS, Nat.sub_self, List.drop_eq_getElem_cons hi, List.set_cons_zero]
  simp [mkd_EdgeS, List.range_succ]
theorem mark_EdgeS (x : (List S95)) (hl : x.length ≤ 4194304) (a : Int) (h0 : 0 ≤ a) (h1 : a ≤ 1152921504606846976) : Ev (fun k => laws_markEdgeS.f k x a) (a + 4 * (x.length : Int), mkd_EdgeS x.length a) := by
  unfold laws_markEdgeS.f
  have hlen : ∀ i, i < x.length → (mkd_EdgeS i a ++ x.drop i).length = x.length := by
    intro i hi
    rw [List.length_append, mkl_EdgeS, List.length_drop]; omega
  have key := ev_fold (fun k i => laws_markEdgeS.l0 k (mkd_EdgeS i a ++ x.drop i) (a + 4 * (i : Int)) (i : Int)) x.length (r := (a + 4 * (x.length : Int), mkd_EdgeS x.length a)) ?_ ?_
  · have e : a + 4 * 0 = a := by omega
    simpa [mkd_EdgeS] using key
  · intro i hi hn
    refine Ev.step (fun k => by simp only [laws_markEdgeS.l0]; rfl) ?_
    refine Ev.pos (by rw [hlen i hi]; omega) (Ev.pos (by omega) ?_)
    try simp only [if_pos (show (i : Int) < ((mkd_EdgeS i a ++ x.drop i).length : Int) by rw [hlen i hi]; omega)]
    rw [Int.toNat_natCast]
    rw [wrap_id (x := a + 4 * (i : Int) + 1) (by omega) (by omega)]
    rw [wrap_id (x := a + 4 * (i : Int) + 1 + 1) (by omega) (by omega), show a + 4 * (i : Int) + 1 + 1 = a + 4 * (i : Int) + 2 by omega]
    rw [wrap_id (x := a + 4 * (i : Int) + 2 + 1) (by omega) (by omega), show a + 4 * (i : Int) + 2 + 1 = a + 4 * (i : Int) + 3 by omega]
    rw [wrap_id (x := a + 4 * (i : Int) + 3 + 1) (by omega) (by omega)]
    have e := mks_EdgeS i a x hi
    unfold mk_EdgeS at e
    rw [e, wrap_succ hi (by omega), show a + 4 * (i : Int) + 3 + 1 = a + 4 * ((i + 1 : Nat) : Int) by omega]
    exact hn
  · refine Ev.step (fun k => by simp only [laws_markEdgeS.l0]; rfl) ?_
    have e : mkd_EdgeS x.length a ++ x.drop x.length = mkd_EdgeS x.length a := by simp
    rw [e]
    exact Ev.neg (by rw [mkl_EdgeS]; omega) (ev_val rfl)
theorem mark_Net (x : S46) (hb : ((x.f1.length ≤ 1048576))) (a : Int) (h0 : 0 ≤ a) (h1 : a ≤ 1073741824) : Ev (fun k => laws_markNet.f k x a) (a + 4 * (x.f1.length : Int), mkd_EdgeS x.f1.length (a)) := by
  unfold laws_markNet.f
  have l1 := hb
  refine Ev.bind (mark_EdgeS x.f1 (by omega) (a) (by omega) (by omega)) ?_
  exact ev_val rfl
def mk_CallS (a : Int) (i : Nat) : S89 := (⟨a + 3 * (i : Int), a + 3 * (i : Int) + 1, a + 3 * (i : Int) + 2⟩ : S89)
def mkd_CallS (m : Nat) (a : Int) : List S89 := (List.range m).map (mk_CallS a)
theorem mkl_CallS (m : Nat) (a : Int) : (mkd_CallS m a).length = m := by simp [mkd_CallS]
theorem mks_CallS (i : Nat) (a : Int) (x : (List S89)) (hi : i < x.length) : (mkd_CallS i a ++ x.drop i).set i (mk_CallS a i) = mkd_CallS (i + 1) a ++ x.drop (i + 1) := by
  rw [List.set_append_right _ _ (by rw [mkl_CallS]; omega), mkl_CallS, Nat.sub_self, List.drop_eq_getElem_cons hi, List.set_cons_zero]
  simp [mkd_CallS, List.range_succ]
theorem mark_CallS (x : (List S89)) (hl : x.length ≤ 4194304) (a : Int) (h0 : 0 ≤ a) (h1 : a ≤ 1152921504606846976) : Ev (fun k => laws_markCallS.f k x a) (a + 3 * (x.length : Int), mkd_CallS x.length a) := by
  unfold laws_markCallS.f
  have hlen : ∀ i, i < x.length → (mkd_CallS i a ++ x.drop i).length = x.length := by
    intro i hi
    rw [List.length_append, mkl_CallS, List.length_drop]; omega
  have key := ev_fold (fun k i => laws_markCallS.l0 k (mkd_CallS i a ++ x.drop i) (a + 3 * (i : Int)) (i : Int)) x.length (r := (a + 3 * (x.length : Int), mkd_CallS x.length a)) ?_ ?_
  · have e : a + 3 * 0 = a := by omega
    simpa [mkd_CallS] using key
  · intro i hi hn
    refine Ev.step (fun k => by simp only [laws_markCallS.l0]; rfl) ?_
    refine Ev.pos (by rw [hlen i hi]; omega) (Ev.pos (by omega) ?_)
    try simp only [if_pos (show (i : Int) < ((mkd_CallS i a ++ x.drop i).length : Int) by rw [hlen i hi]; omega)]
    rw [Int.toNat_natCast]
    rw [wrap_id (x := a + 3 * (i : Int) + 1) (by omega) (by omega)]
    rw [wrap_id (x := a + 3 * (i : Int) + 1 + 1) (by omega) (by omega), show a + 3 * (i : Int) + 1 + 1 = a + 3 * (i : Int) + 2 by omega]
    rw [wrap_id (x := a + 3 * (i : Int) + 2 + 1) (by omega) (by omega)]
    have e := mks_CallS i a x hi
    unfold mk_CallS at e
    rw [e, wrap_succ hi (by omega), show a + 3 * (i : Int) + 2 + 1 = a + 3 * ((i + 1 : Nat) : Int) by omega]
    exact hn
  · refine Ev.step (fun k => by simp only [laws_markCallS.l0]; rfl) ?_
    have e : mkd_CallS x.length a ++ x.drop x.length = mkd_CallS x.length a := by simp
    rw [e]
    exact Ev.neg (by rw [mkl_CallS]; omega) (ev_val rfl)
def mk_IntS (a : Int) (i : Nat) : Int := (a + (i : Int))
def mkd_IntS (m : Nat) (a : Int) : List Int := (List.range m).map (mk_IntS a)
theorem mkl_IntS (m : Nat) (a : Int) : (mkd_IntS m a).length = m := by simp [mkd_IntS]
theorem mks_IntS (i : Nat) (a : Int) (x : (List Int)) (hi : i < x.length) : (mkd_IntS i a ++ x.drop i).set i (mk_IntS a i) = mkd_IntS (i + 1) a ++ x.drop (i + 1) := by
  rw [List.set_append_right _ _ (by rw [mkl_IntS]; omega), mkl_IntS, Nat.sub_self, List.drop_eq_getElem_cons hi, List.set_cons_zero]
  simp [mkd_IntS, List.range_succ]
theorem mark_IntS (x : (List Int)) (hl : x.length ≤ 4194304) (a : Int) (h0 : 0 ≤ a) (h1 : a ≤ 1152921504606846976) : Ev (fun k => laws_markIntS.f k x a) (a + (x.length : Int), mkd_IntS x.length a) := by
  unfold laws_markIntS.f
  have hlen : ∀ i, i < x.length → (mkd_IntS i a ++ x.drop i).length = x.length := by
    intro i hi
    rw [List.length_append, mkl_IntS, List.length_drop]; omega
  have key := ev_fold (fun k i => laws_markIntS.l0 k (mkd_IntS i a ++ x.drop i) (a + (i : Int)) (i : Int)) x.length (r := (a + (x.length : Int), mkd_IntS x.length a)) ?_ ?_
  · have e : a + 0 = a := by omega
    simpa [mkd_IntS] using key
  · intro i hi hn
    refine Ev.step (fun k => by simp only [laws_markIntS.l0]; rfl) ?_
    refine Ev.pos (by rw [hlen i hi]; omega) (Ev.pos (by omega) ?_)
    try simp only [if_pos (show (i : Int) < ((mkd_IntS i a ++ x.drop i).length : Int) by rw [hlen i hi]; omega)]
    rw [Int.toNat_natCast]
    rw [wrap_id (x := a + (i : Int) + 1) (by omega) (by omega)]
    have e := mks_IntS i a x hi
    unfold mk_IntS at e
    rw [e, wrap_succ hi (by omega), show a + (i : Int) + 1 = a + ((i + 1 : Nat) : Int) by omega]
    exact hn
  · refine Ev.step (fun k => by simp only [laws_markIntS.l0]; rfl) ?_
    have e : mkd_IntS x.length a ++ x.drop x.length = mkd_IntS x.length a := by simp
    rw [e]
    exact Ev.neg (by rw [mkl_IntS]; omega) (ev_val rfl)
theorem held_CallS (m : Nat) (hl : m ≤ 4194304) (a : Int) (h0 : 0 ≤ a) (h1 : a ≤ 1152921504606846976) : Ev (fun k => laws_heldCallS.f k (mkd_CallS m a) a) (a + 3 * (m : Int)) := by
  unfold laws_heldCallS.f
  have e : ∀ i (hi : i < m), (mkd_CallS m a)[i]'(by rw [mkl_CallS]; exact hi) = mk_CallS a i := by
    intro i hi
    simp [mkd_CallS]
  have key := ev_fold (fun k i => laws_heldCallS.l0 k (mkd_CallS m a) (a + 3 * (i : Int)) (i : Int)) m (r := a + 3 * (m : Int)) ?_ ?_
  · simpa using key
  · intro i hi hn
    refine Ev.step (fun k => by simp only [laws_heldCallS.l0]; rfl) ?_
    refine Ev.pos (by rw [mkl_CallS]; omega) (Ev.pos (by omega) ?_)
    rw [at_nat (show i < (mkd_CallS m a).length by rw [mkl_CallS]; exact hi), e i hi]
    unfold mk_CallS
    refine Ev.pos rfl ?_
    rw [wrap_id (x := a + 3 * (i : Int) + 1) (by omega) (by omega)]
    refine Ev.pos (by first | rfl | (dsimp only; omega) | simp) ?_
    rw [wrap_id (x := a + 3 * (i : Int) + 1 + 1) (by omega) (by omega), show a + 3 * (i : Int) + 1 + 1 = a + 3 * (i : Int) + 2 by omega]
    refine Ev.pos (by first | rfl | (dsimp only; omega) | simp) ?_
    rw [wrap_id (x := a + 3 * (i : Int) + 2 + 1) (by omega) (by omega)]
    rw [wrap_succ hi (by omega), show a + 3 * (i : Int) + 2 + 1 = a + 3 * ((i + 1 : Nat) : Int) by omega]
    exact hn
  · refine Ev.step (fun k => by simp only [laws_heldCallS.l0]; rfl) ?_
    exact Ev.neg (by rw [mkl_CallS]; omega) (ev_val rfl)
theorem held_IntS (m : Nat) (hl : m ≤ 4194304) (a : Int) (h0 : 0 ≤ a) (h1 : a ≤ 1152921504606846976) : Ev (fun k => laws_heldIntS.f k (mkd_IntS m a) a) (a + (m : Int)) := by
  unfold laws_heldIntS.f
  have e : ∀ i (hi : i < m), (mkd_IntS m a)[i]'(by rw [mkl_IntS]; exact hi) = mk_IntS a i := by
    intro i hi
    simp [mkd_IntS]
  have key := ev_fold (fun k i => laws_heldIntS.l0 k (mkd_IntS m a) (a + (i : Int)) (i : Int)) m (r := a + (m : Int)) ?_ ?_
  · simpa using key
  · intro i hi hn
    refine Ev.step (fun k => by simp only [laws_heldIntS.l0]; rfl) ?_
    refine Ev.pos (by rw [mkl_IntS]; omega) (Ev.pos (by omega) ?_)
    rw [at_nat (show i < (mkd_IntS m a).length by rw [mkl_IntS]; exact hi), e i hi]
    unfold mk_IntS
    refine Ev.pos rfl ?_
    rw [wrap_id (x := a + (i : Int) + 1) (by omega) (by omega)]
    rw [wrap_succ hi (by omega), show a + (i : Int) + 1 = a + ((i + 1 : Nat) : Int) by omega]
    exact hn
  · refine Ev.step (fun k => by simp only [laws_heldIntS.l0]; rfl) ?_
    exact Ev.neg (by rw [mkl_IntS]; omega) (ev_val rfl)
def ChP (b : Int) : Prop := (97 ≤ b ∧ b ≤ 122) ∨ (48 ≤ b ∧ b ≤ 57)
def NameP (s : ByteArray) : Prop := (1 ≤ s.size ∧ s.size ≤ 12) ∧ ∀ i, i < s.size → ChP (bt s (i : Int))
def CallP (cs : List S89) (i : Nat) : Prop := (0 ≤ (at_ cs (i : Int)).f0 ∧ (at_ cs (i : Int)).f0 ≤ 29) ∧ (0 ≤ (at_ cs (i : Int)).f1 ∧ (at_ cs (i : Int)).f1 ≤ (at_ cs (i : Int)).f2) ∧ (at_ cs (i : Int)).f2 ≤ 100000 ∧ (0 < i → (at_ cs ((i : Int) - 1)).f2 < (at_ cs (i : Int)).f1 ∧ (at_ cs ((i : Int) - 1)).f0 ≠ (at_ cs (i : Int)).f0)
def TripP (t : S66) : Prop := NameP t.f0 ∧ (2 ≤ t.f1.length ∧ t.f1.length ≤ 12) ∧ ∀ i, i < t.f1.length → CallP t.f1 i
def TripB (t : S66) : Prop := t.f0.size ≤ 1048576 ∧ t.f1.length ≤ 1048576
theorem eq_impl_isMinute (a : Int) : impl_isMinute.f a = some (decide (0 ≤ a ∧ a ≤ 100000)) := by
  unfold impl_isMinute.f
  rw [eq_impl_between]
  rfl
theorem ev_spec_l01Name (s : ByteArray) (hs : s.size ≤ 1048576) (b : Bool) (hb : b = true ↔ NameP s) : Ev (fun k => spec_l01Name.f k s) b := by
  unfold spec_l01Name.f
  refine ev_scan s.size (fun i => ChP (bt s (i : Int))) false (fun k i => spec_l01Name.l0 k s (i : Int)) (fun ⟨i, hi, h⟩ => bool_not hb fun g => h (g.2 i hi)) ?_ ?_
  · intro i hi _ hn hx
    refine Ev.step (fun k => by simp only [spec_l01Name.l0]; rfl) ?_
    rw [wrap_succ hi (by omega)]
    unfold ChP at hn hx
    have no : ¬ (97 ≤ bt s (i : Int) ∧ bt s (i : Int) ≤ 122 ∨ 48 ≤ bt s (i : Int) ∧ bt s (i : Int) ≤ 57) → Ev (fun _ => some false) b := fun h => ev_val (hx h).symm
    refine Ev.pos (by omega) (Ev.pos (by omega) (Ev.ite (fun h1 => Ev.ite (fun h2 => hn (.inl ⟨h1, h2⟩)) (fun h2 => Ev.ite (fun h3 => Ev.ite (fun h4 => hn (.inr ⟨h3, h4⟩)) (fun h4 => no (by omega))) (fun h3 => no (by omega)))) (fun h1 => Ev.ite (fun h3 => Ev.ite (fun h4 => hn (.inr ⟨h3, h4⟩)) (fun h4 => no (by omega))) (fun h3 => no (by omega)))))
  · intro hp
    refine Ev.step (fun k => by simp only [spec_l01Name.l0]; rfl) ?_
    refine Ev.neg (by omega) (Ev.opt (eq_spec_l01In _ _ _) (ev_val ?_))
    rw [Bool.eq_iff_iff, decide_eq_true_iff, hb]
    exact ⟨fun g => ⟨by omega, hp⟩, fun g => by have := g.1; omega⟩
theorem ev_impl_nameOk (s : ByteArray) (hs : s.size ≤ 1048576) (b : Bool) (hb : b = true ↔ NameP s) : Ev (fun k => impl_nameOk.f k s) b := by
  unfold impl_nameOk.f
  have bad : ¬ NameP s → b = false := bool_not hb
  refine Ev.ite (fun h => ev_val (bad fun g => by have := g.1; omega).symm) (fun g1 => Ev.ite (fun h => ev_val (bad fun g => by have := g.1; omega).symm) (fun g2 => ?_))
  refine ev_scan s.size (fun i => ChP (bt s (i : Int))) false (fun k i => impl_nameOk.l0 k s (i : Int)) (fun ⟨i, hi, h⟩ => bool_not hb fun g => h (g.2 i hi)) ?_ ?_
  · intro i hi _ hn hx
    refine Ev.step (fun k => by simp only [impl_nameOk.l0]; rfl) ?_
    rw [wrap_succ hi (by omega)]
    unfold ChP at hn hx
    have no : ¬ (97 ≤ bt s (i : Int) ∧ bt s (i : Int) ≤ 122 ∨ 48 ≤ bt s (i : Int) ∧ bt s (i : Int) ≤ 57) → Ev (fun _ => some false) b := fun h => ev_val (hx h).symm
    refine Ev.pos (by omega) (Ev.pos (by omega) (Ev.ite (fun h1 => ?_) (fun h1 => ?_)))
    · exact Ev.ite (fun h => no (by omega)) (fun h3 => Ev.ite (fun h => no (by omega)) (fun h4 => hn (.inr (by omega))))
    · exact Ev.ite (fun h2 => Ev.ite (fun h => no (by omega)) (fun h3 => Ev.ite (fun h => no (by omega)) (fun h4 => hn (.inr (by omega))))) (fun h2 => hn (.inl (by omega)))
  · intro hp
    refine Ev.step (fun k => by simp only [impl_nameOk.l0]; rfl) ?_
    exact Ev.neg (by omega) (ev_val (hb.2 ⟨by omega, hp⟩).symm)
theorem ev_spec_TripOk (t : S66) (hs : t.f0.size ≤ 1048576) (hl : t.f1.length ≤ 1048576) (b : Bool) (hb : b = true ↔ TripP t) : Ev (fun k => spec_TripOk.f k t) b := by
  classical
  unfold spec_TripOk.f
  have bad : ¬ TripP t → b = false := bool_not hb
  refine Ev.bind (ev_spec_l01Name t.f0 hs (decide (NameP t.f0)) decide_eq_true_iff) (Ev.ite (fun g1 => ?_) (fun h => ev_val (bad fun g => h (decide_eq_true g.1)).symm))
  refine Ev.opt (eq_spec_l01In _ _ _) (Ev.ite (fun g2 => ?_) (fun h => ev_val (bad fun g => h (decide_eq_true (by have := g.2.1; omega))).symm))
  have g2 := of_decide_eq_true g2
  refine ev_scan t.f1.length (CallP t.f1) false (fun k i => spec_TripOk.l0 k t (i : Int)) (fun ⟨i, hi, h⟩ => bad fun g => h (g.2.2 i hi)) ?_ ?_
  · intro i hi _ hn hx
    refine Ev.step (fun k => by simp only [spec_TripOk.l0]; rfl) ?_
    rw [wrap_succ hi (by omega), wrap_id (x := (i : Int) - 1) (by omega) (by omega)]
    unfold CallP at hn hx
    refine Ev.pos (by omega) (Ev.pos (by omega) (Ev.opt (eq_spec_l01In _ _ _) (Ev.ite (fun q1 => ?_) (fun h => ev_val (hx fun g => h (decide_eq_true g.1)).symm))))
    have q1 := of_decide_eq_true q1
    refine Ev.opt (eq_spec_l01In _ _ _) (Ev.ite (fun q2 => ?_) (fun h => ev_val (hx fun g => h (decide_eq_true (by omega))).symm))
    have q2 := of_decide_eq_true q2
    refine Ev.opt (eq_spec_l01In _ _ _) (Ev.ite (fun q3 => ?_) (fun h => ev_val (hx fun g => h (decide_eq_true (by omega))).symm))
    have q3 := of_decide_eq_true q3
    refine Ev.ite (fun h0 => ?_) (fun h0 => hn ⟨q1, q3, by omega, fun g => by omega⟩)
    refine Ev.pos (by omega) (Ev.pos (by omega) (Ev.ite (fun h => ev_val (hx fun g => by have := g.2.2.2 (by omega); omega).symm) (fun h1 => Ev.ite (fun h => ev_val (hx fun g => (g.2.2.2 (by omega)).2 h).symm) (fun h2 => hn ⟨q1, q3, by omega, fun _ => ⟨by omega, h2⟩⟩))))
  · intro hp
    refine Ev.step (fun k => by simp only [spec_TripOk.l0]; rfl) ?_
    exact Ev.neg (by omega) (ev_val (hb.2 ⟨of_decide_eq_true g1, by omega, hp⟩).symm)
theorem ev_impl_TripOk (t : S66) (hs : t.f0.size ≤ 1048576) (hl : t.f1.length ≤ 1048576) (b : Bool) (hb : b = true ↔ TripP t) : Ev (fun k => impl_TripOk.f k t) b := by
  classical
  unfold impl_TripOk.f
  have bad : ¬ TripP t → b = false := bool_not hb
  refine Ev.bind (ev_impl_nameOk t.f0 hs (decide (NameP t.f0)) decide_eq_true_iff) (Ev.ite (fun g1 => ?_) (fun h => ev_val (bad fun g => h (decide_eq_true g.1)).symm))
  refine Ev.opt (eq_impl_between _ _ _) (Ev.ite (fun g2 => ?_) (fun h => ev_val (bad fun g => h (decide_eq_true (by have := g.2.1; omega))).symm))
  have g2 := of_decide_eq_true g2
  refine ev_scan t.f1.length (CallP t.f1) false (fun k i => impl_TripOk.l0 k t (i : Int)) (fun ⟨i, hi, h⟩ => bad fun g => h (g.2.2 i hi)) ?_ ?_
  · intro i hi _ hn hx
    refine Ev.step (fun k => by simp only [impl_TripOk.l0]; rfl) ?_
    rw [wrap_succ hi (by omega), wrap_id (x := (i : Int) - 1) (by omega) (by omega)]
    unfold CallP at hn hx
    refine Ev.pos (by omega) (Ev.pos (by omega) (Ev.opt (eq_impl_between _ _ _) (Ev.ite (fun q1 => ?_) (fun h => ev_val (hx fun g => h (decide_eq_true g.1)).symm))))
    have q1 := of_decide_eq_true q1
    refine Ev.opt (eq_impl_isMinute _) (Ev.ite (fun q2 => ?_) (fun h => ev_val (hx fun g => h (decide_eq_true (by omega))).symm))
    have q2 := of_decide_eq_true q2
    refine Ev.opt (eq_impl_isMinute _) (Ev.ite (fun q3 => ?_) (fun h => ev_val (hx fun g => h (decide_eq_true (by omega))).symm))
    have q3 := of_decide_eq_true q3
    refine Ev.ite (fun h => ev_val (hx fun g => by omega).symm) (fun h4 => Ev.ite (fun h0 => ?_) (fun h0 => hn ⟨q1, by omega, by omega, fun g => by omega⟩))
    refine Ev.pos (by omega) (Ev.pos (by omega) (Ev.ite (fun h => ev_val (hx fun g => by have := g.2.2.2 (by omega); omega).symm) (fun h1 => Ev.ite (fun h => ev_val (hx fun g => (g.2.2.2 (by omega)).2 h.symm).symm) (fun h2 => hn ⟨q1, by omega, by omega, fun _ => ⟨by omega, fun g => h2 g.symm⟩⟩))))
  · intro hp
    refine Ev.step (fun k => by simp only [impl_TripOk.l0]; rfl) ?_
    exact Ev.neg (by omega) (ev_val (hb.2 ⟨of_decide_eq_true g1, by omega, hp⟩).symm)
theorem ev_impl_tripNamed (ts : List S66) (s : ByteArray) (hl : ts.length ≤ 1048576) : Evx (fun k => impl_tripNamed.f k ts s) (fun r => (0 ≤ r ↔ ∃ j, j < ts.length ∧ sEq (at_ ts (j : Int)).f0 s = true)) := by
  classical
  unfold impl_tripNamed.f slices_IndexFunc_1.f
  obtain ⟨r, hr⟩ := FindR.exists ts.length (fun j => sEq (at_ ts (j : Int)).f0 s = true) (fun j => ((j : Int), s)) (((-1 : Int)), s)
  refine Evx.bind (P := fun x => x = r) (Evx.of ?_ rfl) (fun x hx => ?_)
  · refine ev_find ts.length (fun j => sEq (at_ ts (j : Int)).f0 s = true) (fun j => ((j : Int), s)) ((-1 : Int), s) r (fun k i => slices_IndexFunc_1.l0 k ts s (i : Int)) hr ?_ ?_ ?_
    · intro i hi hc hn
      refine Ev.step (fun k => by simp only [slices_IndexFunc_1.l0, impl_tripNamed_1.f, Option.bind_some]; rfl) ?_
      rw [wrap_succ hi (by omega)]
      exact Ev.pos (by omega) (Ev.pos (by omega) (Ev.neg hc hn))
    · intro i hi hc _
      refine Ev.step (fun k => by simp only [slices_IndexFunc_1.l0, impl_tripNamed_1.f, Option.bind_some]; rfl) ?_
      exact Ev.pos (by omega) (Ev.pos (by omega) (Ev.pos hc (ev_val rfl)))
    · intro _
      refine Ev.step (fun k => by simp only [slices_IndexFunc_1.l0]; rfl) ?_
      exact Ev.neg (by omega) (ev_val rfl)
  · subst hx
    refine Evx.val ?_
    rcases hr with ⟨rfl, h⟩ | ⟨i, h1, h2, _, rfl⟩
    · exact ⟨fun g => absurd g (by show ¬ (0 ≤ (-1 : Int)); omega), fun ⟨j, hj, g⟩ => absurd g (h j hj)⟩
    · exact ⟨fun _ => ⟨i, h1, h2⟩, fun _ => by show 0 ≤ (i : Int); omega⟩
def NewP (ts : List S66) (i : Nat) : Prop := TripP (at_ ts (i : Int)) ∧ ∀ j, j < i → sEq (at_ ts (j : Int)).f0 (at_ ts (i : Int)).f0 ≠ true
def TableP (ts : List S66) : Prop := ts.length ≤ 24 ∧ ∀ i, i < ts.length → NewP ts i
def TableB (ts : List S66) : Prop := ts.length ≤ 1048576 ∧ ∀ y, y ∈ ts → TripB y
theorem ev_spec_TableOk (ts : List S66) (hB : TableB ts) (b : Bool) (hb : b = true ↔ TableP ts) : Ev (fun k => spec_TableOk.f k ts) b := by
  classical
  obtain ⟨B0, B1⟩ := hB
  unfold spec_TableOk.f
  have bad : ¬ TableP ts → b = false := bool_not hb
  refine Ev.ite (fun h => ev_val (bad fun g => by have := g.1; omega).symm) (fun g1 => ?_)
  refine ev_scan ts.length (NewP ts) false (fun k i => spec_TableOk.l0 k ts (i : Int)) (fun ⟨i, hi, h⟩ => bad fun g => h (g.2 i hi)) ?_ ?_
  · intro i hi _ hn hx
    have hy := B1 _ (at_mem (xs := ts) (i := (i : Int)) (by omega) (by omega))
    refine Ev.step (fun k => by simp only [spec_TableOk.l0]; rfl) ?_
    refine Ev.pos (by omega) (Ev.pos (by omega) (Ev.bind (ev_spec_TripOk _ hy.1 hy.2 (decide (TripP (at_ ts (i : Int)))) decide_eq_true_iff) (Ev.ite (fun g => ?_) (fun h => ev_val (hx fun g => h (decide_eq_true g.1)).symm))))
    refine ev_scan i (fun j => sEq (at_ ts (j : Int)).f0 (at_ ts (i : Int)).f0 ≠ true) false (fun k j => spec_TableOk.l1 k ts (i : Int) (j : Int)) (fun ⟨j, hj, h⟩ => hx fun g => h (g.2 j hj)) ?_ ?_
    · intro j hj _ hn2 hx2
      refine Ev.step (fun k => by simp only [spec_TableOk.l1]; rfl) ?_
      rw [wrap_succ hj (by omega)]
      exact Ev.pos (by omega) (Ev.pos (by omega) (Ev.pos (by omega) (Ev.pos (by omega) (Ev.pos (by omega) (Ev.ite (fun h => ev_val (hx2 fun g => g h).symm) (fun h => hn2 h))))))
    · intro hN
      refine Ev.step (fun k => by simp only [spec_TableOk.l1]; rfl) ?_
      rw [wrap_succ hi (by omega)]
      exact Ev.neg (by omega) (hn ⟨of_decide_eq_true g, hN⟩)
  · intro hp
    refine Ev.step (fun k => by simp only [spec_TableOk.l0]; rfl) ?_
    exact Ev.neg (by omega) (ev_val (hb.2 ⟨by omega, hp⟩).symm)
theorem ev_impl_TableOk (ts : List S66) (hB : TableB ts) (b : Bool) (hb : b = true ↔ TableP ts) : Ev (fun k => impl_TableOk.f k ts) b := by
  classical
  obtain ⟨B0, B1⟩ := hB
  unfold impl_TableOk.f
  have bad : ¬ TableP ts → b = false := bool_not hb
  refine Ev.ite (fun h => ev_val (bad fun g => by have := g.1; omega).symm) (fun g1 => ?_)
  refine ev_scan ts.length (NewP ts) false (fun k i => impl_TableOk.l0 k ts (i : Int)) (fun ⟨i, hi, h⟩ => bad fun g => h (g.2 i hi)) ?_ ?_
  · intro i hi _ hn hx
    have hy := B1 _ (at_mem (xs := ts) (i := (i : Int)) (by omega) (by omega))
    refine Ev.step (fun k => by simp only [impl_TableOk.l0]; rfl) ?_
    refine Ev.pos (by omega) (Ev.pos (by omega) (Ev.bind (ev_impl_TripOk _ hy.1 hy.2 (decide (TripP (at_ ts (i : Int)))) decide_eq_true_iff) (Ev.ite (fun g => ?_) (fun h => ev_val (hx fun g => h (decide_eq_true g.1)).symm))))
    refine Ev.pos (by omega) ?_
    rw [Int.toNat_natCast, show (0 : Int).toNat = 0 from rfl, List.drop_zero, Nat.sub_zero, wrap_succ hi (by omega)]
    have hlt : (ts.take i).length = i := by rw [List.length_take]; omega
    obtain ⟨r, e1, e2⟩ := ev_impl_tripNamed (ts.take i) (at_ ts (i : Int)).f0 (by omega)
    have e3 : 0 ≤ r ↔ ∃ j, j < i ∧ sEq (at_ ts (j : Int)).f0 (at_ ts (i : Int)).f0 = true := by
      rw [e2, hlt]
      exact ⟨fun ⟨j, hj, g⟩ => ⟨j, hj, by rw [at_take ts (by omega) (by omega)] at g; exact g⟩, fun ⟨j, hj, g⟩ => ⟨j, hj, by rw [at_take ts (by omega) (by omega)]; exact g⟩⟩
    refine Ev.bind e1 (Ev.ite (fun h => ev_val (hx fun q => ?_).symm) (fun h => hn ⟨of_decide_eq_true g, fun j hj q => h (e3.2 ⟨j, hj, q⟩)⟩))
    obtain ⟨j, hj, w⟩ := e3.1 h
    exact q.2 j hj w
  · intro hp
    refine Ev.step (fun k => by simp only [impl_TableOk.l0]; rfl) ?_
    exact Ev.neg (by omega) (ev_val (hb.2 ⟨by omega, hp⟩).symm)
theorem trips_bd (x : List S61) (b : x.length ≤ 1048576 ∧ ∀ y ∈ x, (y.f0.size ≤ 1048576 ∧ (y.f1.length ≤ 1048576))) (cv : S61 → S66) (h : ∀ y, (cv y).f0 = y.f0 ∧ (cv y).f1 = y.f1) : TableB (x.map cv) := by
  refine ⟨by rw [List.length_map]; exact b.1, fun y hy => ?_⟩
  obtain ⟨z, hz, rfl⟩ := List.mem_map.1 hy
  have := b.2 z hz
  unfold TripB
  rw [(h z).1, (h z).2]
  exact this
def EdgeP (m : Int) (e : S95) : Prop := (0 ≤ e.f0 ∧ e.f0 ≤ m - 1) ∧ (0 ≤ e.f1 ∧ e.f1 ≤ m - 1) ∧ e.f0 ≠ e.f1 ∧ (1 ≤ e.f2 ∧ e.f2 ≤ 100000) ∧ (1 ≤ e.f3 ∧ e.f3 ≤ 90)
def NetP (n : S46) : Prop := (1 ≤ n.f0 ∧ n.f0 ≤ 30) ∧ n.f1.length ≤ 60 ∧ ∀ i, i < n.f1.length → EdgeP n.f0 (at_ n.f1 (i : Int))
theorem ev_spec_NetOk (n : S46) (hl : n.f1.length ≤ 1048576) (b : Bool) (hb : b = true ↔ NetP n) : Ev (fun k => spec_NetOk.f k n) b := by
  unfold spec_NetOk.f
  have bad : ¬ NetP n → b = false := bool_not hb
  refine Ev.opt (eq_spec_l01In _ _ _) (Ev.ite (fun g1 => ?_) (fun h => ev_val (bad fun g => h (decide_eq_true g.1)).symm))
  have g1 := of_decide_eq_true g1
  refine Ev.ite (fun h => ev_val (bad fun g => by have := g.2.1; omega).symm) (fun g2 => ?_)
  refine ev_scan n.f1.length _ false (fun k i => spec_NetOk.l0 k n (i : Int)) (fun ⟨i, hi, h⟩ => bad fun g => h (g.2.2 i hi)) ?_ ?_
  · intro i hi _ hn hx
    unfold EdgeP at hn hx
    refine Ev.step (fun k => by simp only [spec_NetOk.l0]; rfl) ?_
    rw [wrap_succ hi (by omega), wrap_id (x := n.f0 - 1) (by omega) (by omega)]
    refine Ev.pos (by omega) (Ev.pos (by omega) (Ev.opt (eq_spec_l01In _ _ _) (Ev.ite (fun q1 => ?_) (fun h => ev_val (hx fun g => h (decide_eq_true g.1)).symm))))
    refine Ev.opt (eq_spec_l01In _ _ _) (Ev.ite (fun q2 => ?_) (fun h => ev_val (hx fun g => h (decide_eq_true g.2.1)).symm))
    refine Ev.ite (fun h => ev_val (hx fun g => g.2.2.1 h).symm) (fun q3 => ?_)
    refine Ev.opt (eq_spec_l01In _ _ _) (Ev.ite (fun q4 => ?_) (fun h => ev_val (hx fun g => h (decide_eq_true g.2.2.2.1)).symm))
    refine Ev.opt (eq_spec_l01In _ _ _) (Ev.ite (fun q5 => ?_) (fun h => ev_val (hx fun g => h (decide_eq_true g.2.2.2.2)).symm))
    exact hn ⟨of_decide_eq_true q1, of_decide_eq_true q2, q3, of_decide_eq_true q4, of_decide_eq_true q5⟩
  · intro hp
    refine Ev.step (fun k => by simp only [spec_NetOk.l0]; rfl) ?_
    exact Ev.neg (by omega) (ev_val (hb.2 ⟨g1, by omega, hp⟩).symm)
theorem eq_impl_node {n : S46} (h : 1 ≤ n.f0 ∧ n.f0 ≤ 30) (a : Int) : impl_Net_node.f n a = some (decide (0 ≤ a ∧ a ≤ n.f0 - 1)) := by
  unfold impl_Net_node.f
  rw [eq_impl_between, wrap_id (x := n.f0 - 1) (by omega) (by omega)]
  rfl
theorem ev_impl_NetOk (n : S46) (hl : n.f1.length ≤ 1048576) (b : Bool) (hb : b = true ↔ NetP n) : Ev (fun k => impl_NetOk.f k n) b := by
  unfold impl_NetOk.f
  have bad : ¬ NetP n → b = false := bool_not hb
  refine Ev.opt (eq_impl_between _ _ _) (Ev.ite (fun g1 => ?_) (fun h => ev_val (bad fun g => h (decide_eq_true g.1)).symm))
  have g1 := of_decide_eq_true g1
  refine Ev.ite (fun h => ev_val (bad fun g => by have := g.2.1; omega).symm) (fun g2 => ?_)
  refine ev_scan n.f1.length _ false (fun k i => impl_NetOk.l0 k n (i : Int)) (fun ⟨i, hi, h⟩ => bad fun g => h (g.2.2 i hi)) ?_ ?_
  · intro i hi _ hn hx
    unfold EdgeP at hn hx
    refine Ev.step (fun k => by simp only [impl_NetOk.l0]; rfl) ?_
    rw [wrap_succ hi (by omega)]
    refine Ev.pos (by omega) (Ev.pos (by omega) (Ev.opt (eq_impl_node g1 _) (Ev.ite (fun q1 => ?_) (fun h => ev_val (hx fun g => h (decide_eq_true g.1)).symm))))
    refine Ev.opt (eq_impl_node g1 _) (Ev.ite (fun q2 => ?_) (fun h => ev_val (hx fun g => h (decide_eq_true g.2.1)).symm))
    refine Ev.ite (fun h => ev_val (hx fun g => g.2.2.1 h).symm) (fun q3 => ?_)
    refine Ev.opt (eq_impl_between _ _ _) (Ev.ite (fun q4 => ?_) (fun h => ev_val (hx fun g => h (decide_eq_true g.2.2.2.1)).symm))
    refine Ev.opt (eq_impl_between _ _ _) (Ev.ite (fun q5 => ?_) (fun h => ev_val (hx fun g => h (decide_eq_true g.2.2.2.2)).symm))
    exact hn ⟨of_decide_eq_true q1, of_decide_eq_true q2, q3, of_decide_eq_true q4, of_decide_eq_true q5⟩
  · intro hp
    refine Ev.step (fun k => by simp only [impl_NetOk.l0]; rfl) ?_
    exact Ev.neg (by omega) (ev_val (hb.2 ⟨g1, by omega, hp⟩).symm)
def JoinP (e : S95) (a b : Int) : Prop := (e.f0 = a ∧ e.f1 = b) ∨ (e.f0 = b ∧ e.f1 = a)
/-- The least edge between two nodes, or -1. -/
noncomputable def edgeV (n : S46) (a b : Int) : Int := firstI n.f1.length (fun i => JoinP (at_ n.f1 (i : Int)) a b)
def dirV (n : S46) (a b : Int) (k : Int) : Int := if (at_ n.f1 k).f0 = a then 0 else 1
theorem ev_spec_l09Edge (n : S46) (h : NetP n) (a b : Int) (hb : 0 ≤ b) : Ev (fun k => spec_l09Edge.f k n a b) (edgeV n a b) := by
  have hl := h.2.1
  unfold spec_l09Edge.f
  have oth : ∀ i, i < n.f1.length → ∃ o, spec_l02Other.f (at_ n.f1 (i : Int)) a = some o ∧ (o = b ↔ JoinP (at_ n.f1 (i : Int)) a b) := by
    intro i hi
    have he := h.2.2 i hi
    unfold EdgeP at he
    unfold spec_l02Other.f JoinP
    by_cases h1 : (at_ n.f1 (i : Int)).f0 = a
    · rw [if_pos h1]; exact ⟨_, rfl, by omega⟩
    · rw [if_neg h1]
      by_cases h2 : (at_ n.f1 (i : Int)).f1 = a
      · rw [if_pos h2]; exact ⟨_, rfl, by omega⟩
      · rw [if_neg h2]; exact ⟨_, rfl, by omega⟩
  refine ev_find n.f1.length (fun i => JoinP (at_ n.f1 (i : Int)) a b) (fun i => (i : Int)) (-1) _ (fun k i => spec_l09Edge.l0 k n a b (i : Int)) (firstI_find _ _ id) ?_ ?_ ?_
  · intro i hi hc hn
    obtain ⟨o, e1, e2⟩ := oth i hi
    refine Ev.step (fun k => by simp only [spec_l09Edge.l0]; rfl) ?_
    rw [wrap_succ hi (by omega)]
    exact Ev.pos (by omega) (Ev.pos (by omega) (Ev.opt e1 (Ev.neg (fun g => hc (e2.1 g)) hn)))
  · intro i hi hc _
    obtain ⟨o, e1, e2⟩ := oth i hi
    refine Ev.step (fun k => by simp only [spec_l09Edge.l0]; rfl) ?_
    exact Ev.pos (by omega) (Ev.pos (by omega) (Ev.opt e1 (Ev.pos (e2.2 hc) (ev_val rfl))))
  · intro _
    refine Ev.step (fun k => by simp only [spec_l09Edge.l0]; rfl) ?_
    exact Ev.neg (by omega) (ev_val rfl)
theorem ev_impl_joining (n : S46) (h : NetP n) (a b : Int) : Ev (fun k => impl_Net_joining.f k n a b) (edgeV n a b, if 0 ≤ edgeV n a b then dirV n a b (edgeV n a b) else 0) := by
  have hl := h.2.1
  unfold impl_Net_joining.f
  refine ev_find n.f1.length (fun i => JoinP (at_ n.f1 (i : Int)) a b) (fun i => ((i : Int), if 0 ≤ (i : Int) then dirV n a b (i : Int) else 0)) ((-1 : Int), if 0 ≤ (-1 : Int) then dirV n a b (-1) else 0) _ (fun k i => impl_Net_joining.l0 k n a b (i : Int)) (firstI_find _ _ (fun i => (i, if 0 ≤ i then dirV n a b i else 0))) ?_ ?_ ?_
  · intro i hi hc hn
    unfold JoinP at hc
    refine Ev.step (fun k => by simp only [impl_Net_joining.l0]; rfl) ?_
    rw [wrap_succ hi (by omega)]
    refine Ev.pos (by omega) (Ev.pos (by omega) (Ev.ite (fun h1 => Ev.neg (by omega) ?_) (fun h1 => ?_)))
    · exact Ev.ite (fun h2 => Ev.neg (by omega) hn) (fun _ => hn)
    · exact Ev.ite (fun h2 => Ev.neg (by omega) hn) (fun _ => hn)
  · intro i hi hc _
    have he := h.2.2 i hi
    unfold EdgeP at he
    unfold JoinP at hc
    refine Ev.step (fun k => by simp only [impl_Net_joining.l0]; rfl) ?_
    rw [if_pos (show 0 ≤ (i : Int) by omega)]
    unfold dirV
    refine Ev.pos (by omega) (Ev.pos (by omega) (Ev.ite (fun h1 => ?_) (fun h1 => ?_)))
    · rw [if_pos h1]
      exact Ev.pos (by omega) (ev_val rfl)
    · rw [if_neg h1]
      exact Ev.pos (by omega) (Ev.pos (by omega) (ev_val rfl))
  · intro _
    refine Ev.step (fun k => by simp only [impl_Net_joining.l0]; rfl) ?_
    exact Ev.neg (by omega) (ev_val rfl)
theorem call_bd {t : S66} (h : TripP t) {i : Int} (h0 : 0 ≤ i) (h1 : i < (t.f1.length : Int)) : (0 ≤ (at_ t.f1 i).f0 ∧ (at_ t.f1 i).f0 ≤ 29) ∧ (0 ≤ (at_ t.f1 i).f1 ∧ (at_ t.f1 i).f1 ≤ (at_ t.f1 i).f2) ∧ (at_ t.f1 i).f2 ≤ 100000 := by
  have h2 := h.2.2 i.toNat (by omega)
  unfold CallP at h2
  rw [show ((i.toNat : Nat) : Int) = i by omega] at h2
  exact ⟨h2.1, h2.2.1, h2.2.2.1⟩
theorem trip_at {ts : List S66} (h : TableP ts) {i : Int} (h0 : 0 ≤ i) (h1 : i < (ts.length : Int)) : TripP (at_ ts i) := by
  have h2 := (h.2 i.toNat (by omega)).1
  rwa [show ((i.toNat : Nat) : Int) = i by omega] at h2
/-- The edge between a trip's calls j and j + 1. -/
noncomputable def legE (n : S46) (t : S66) (j : Nat) : Int := edgeV n (at_ t.f1 (j : Int)).f0 (at_ t.f1 ((j : Int) + 1)).f0
noncomputable def useV (n : S46) (t : S66) (place : Int) (j : Nat) : S22 := ⟨legE n t j, dirV n (at_ t.f1 (j : Int)).f0 (at_ t.f1 ((j : Int) + 1)).f0 (legE n t j), (at_ t.f1 (j : Int)).f2, (at_ t.f1 ((j : Int) + 1)).f1, place⟩
def RidesP (n : S46) (t : S66) : Prop := ∀ j, j < t.f1.length - 1 → 0 ≤ legE n t j
noncomputable def usesV (n : S46) (t : S66) (place : Int) (m : Nat) : List S22 := (List.range m).map (useV n t place)
theorem usesV_len (n : S46) (t : S66) (p : Int) (m : Nat) : (usesV n t p m).length = m := by simp [usesV]
theorem usesV_succ (n : S46) (t : S66) (p : Int) (m : Nat) : usesV n t p (m + 1) = usesV n t p m ++ [useV n t p m] := by simp [usesV, List.range_succ]
noncomputable def usesTo (n : S46) (ts : List S66) : Nat → List S22
  | 0 => []
  | i + 1 => usesTo n ts i ++ usesV n (at_ ts (i : Int)) (i : Int) ((at_ ts (i : Int)).f1.length - 1)
theorem usesTo_succ (n : S46) (ts : List S66) (i : Nat) : usesTo n ts (i + 1) = usesTo n ts i ++ usesV n (at_ ts (i : Int)) (i : Int) ((at_ ts (i : Int)).f1.length - 1) := rfl
theorem usesTo_len {n : S46} {ts : List S66} (h : TableP ts) : ∀ i, i ≤ ts.length → (usesTo n ts i).length ≤ 11 * i
  | 0, _ => Nat.le_refl _
  | i + 1, hi => by
    have ih := usesTo_len h (n := n) i (by omega)
    have ht := (trip_at h (i := (i : Int)) (by omega) (by omega)).2.1
    rw [usesTo_succ, List.length_append, usesV_len]
    omega
def RiddenP (n : S46) (ts : List S66) : Prop := NetP n ∧ TableP ts ∧ ∀ i, i < ts.length → RidesP n (at_ ts (i : Int))
theorem node_ge {t : S66} (h : TripP t) (j : Nat) (hj : j + 1 < t.f1.length) : 0 ≤ (at_ t.f1 ((j : Int) + 1)).f0 := by
  have := (call_bd h (i := (j : Int) + 1) (by omega) (by omega)).1.1
  exact this
theorem ev_spec_Ridden (n : S46) (ts : List S66) (hn : n.f1.length ≤ 1048576) (hB : TableB ts) (b : Bool) (hb : b = true ↔ RiddenP n ts) : Ev (fun k => spec_Ridden.f k n ts) b := by
  classical
  unfold spec_Ridden.f
  have bad : ¬ RiddenP n ts → b = false := bool_not hb
  refine Ev.bind (ev_spec_NetOk n hn (decide (NetP n)) decide_eq_true_iff) (Ev.ite (fun g1 => ?_) (fun h => ev_val (bad fun g => h (decide_eq_true g.1)).symm))
  refine Ev.bind (ev_spec_TableOk ts hB (decide (TableP ts)) decide_eq_true_iff) (Ev.ite (fun g2 => ?_) (fun h => ev_val (bad fun g => h (decide_eq_true g.2.1)).symm))
  have hN := of_decide_eq_true g1
  have hT := of_decide_eq_true g2
  have h24 := hT.1
  refine ev_scan ts.length _ false (fun k i => spec_Ridden.l0 k n ts (i : Int)) (fun ⟨i, hi, h⟩ => bad fun g => h (g.2.2 i hi)) ?_ ?_
  · intro i hi _ hnx hx
    have ht := trip_at hT (i := (i : Int)) (by omega) (by omega)
    have hl := ht.2.1
    refine Ev.step (fun k => by simp only [spec_Ridden.l0]; rfl) ?_
    refine Ev.pos (by omega) ?_
    refine ev_scan ((at_ ts (i : Int)).f1.length - 1) (fun j => 0 ≤ legE n (at_ ts (i : Int)) j) false (fun k j => spec_Ridden.l1 k n ts (i : Int) (((j + 1 : Nat) : Int))) (fun ⟨j, hj, h⟩ => hx fun g => h (g j hj)) ?_ ?_
    · intro j hj _ hn2 hx2
      refine Ev.step (fun k => by simp only [spec_Ridden.l1]; rfl) ?_
      rw [wrap_id (x := ((j + 1 : Nat) : Int) - 1) (by omega) (by omega), show ((j + 1 : Nat) : Int) - 1 = (j : Int) by omega, wrap_id (x := ((j + 1 : Nat) : Int) + 1) (by omega) (by omega), show ((j + 1 : Nat) : Int) + 1 = ((j + 1 + 1 : Nat) : Int) by omega]
      refine Ev.pos (by omega) (Ev.pos (by omega) (Ev.pos (by omega) (Ev.pos (by omega) (Ev.pos (by omega) (Ev.pos (by omega) ?_)))))
      have hnd := node_ge ht j (by omega)
      rw [show ((j + 1 : Nat) : Int) = (j : Int) + 1 by omega]
      refine Ev.bind (ev_spec_l09Edge n hN _ _ hnd) (Ev.ite (fun h => ev_val (hx2 fun g => by unfold legE at g; omega).symm) (fun h => hn2 (by unfold legE; omega)))
    · intro hp
      refine Ev.step (fun k => by simp only [spec_Ridden.l1]; rfl) ?_
      rw [wrap_succ hi (by omega)]
      exact Ev.pos (by omega) (Ev.pos (by omega) (Ev.neg (by omega) (hnx hp)))
  · intro hp
    refine Ev.step (fun k => by simp only [spec_Ridden.l0]; rfl) ?_
    exact Ev.neg (by omega) (ev_val (hb.2 ⟨hN, hT, hp⟩).symm)
/-- A trip's uses, or nothing where an edge lacks. -/
theorem ev_impl_usesOf (n : S46) (t : S66) (place : Int) (hN : NetP n) (ht : TripP t) (r : List S22 × Bool) (h1 : RidesP n t → r = (usesV n t place (t.f1.length - 1), true)) (h2 : ¬ RidesP n t → r = ([], false)) : Ev (fun k => impl_Net_usesOf.f k n t place) r := by
  have hl := ht.2.1
  unfold impl_Net_usesOf.f
  refine ev_scan (t.f1.length - 1) (fun j => 0 ≤ legE n t j) ([], false) (fun k j => impl_Net_usesOf.l0 k n t place (usesV n t place j) (((j + 1 : Nat) : Int))) (fun ⟨j, hj, h⟩ => h2 fun g => h (g j hj)) ?_ ?_
  · intro j hj _ hn2 hx2
    have hul := usesV_len n t place j
    rw [usesV_succ] at hn2
    refine Ev.step (fun k => by simp only [impl_Net_usesOf.l0]; rfl) ?_
    rw [wrap_id (x := ((j + 1 : Nat) : Int) - 1) (by omega) (by omega), show ((j + 1 : Nat) : Int) - 1 = (j : Int) by omega, wrap_id (x := ((j + 1 : Nat) : Int) + 1) (by omega) (by omega), show ((j + 1 : Nat) : Int) + 1 = ((j + 1 + 1 : Nat) : Int) by omega]
    refine Ev.pos (by omega) (Ev.pos (by omega) (Ev.pos (by omega) (Ev.pos (by omega) ?_)))
    rw [show ((j + 1 : Nat) : Int) = (j : Int) + 1 by omega]
    refine Ev.bind (ev_impl_joining n hN _ _) (Ev.ite (fun h => ev_val (hx2 fun g => by unfold legE at g; dsimp only at h; omega).symm) (fun h => ?_))
    have hge : 0 ≤ edgeV n (at_ t.f1 (j : Int)).f0 (at_ t.f1 ((j : Int) + 1)).f0 := by dsimp only at h; omega
    simp only [if_pos hge]
    refine Ev.pos (by simp only [List.length_cons, List.length_nil]; omega) (hn2 hge)
  · intro hp
    refine Ev.step (fun k => by simp only [impl_Net_usesOf.l0]; rfl) ?_
    refine Ev.neg (by omega) (ev_val (h1 hp).symm)
theorem usesR (n : S46) (t : S66) (place : Int) : ∃ r : List S22 × Bool, (RidesP n t → r = (usesV n t place (t.f1.length - 1), true)) ∧ (¬ RidesP n t → r = ([], false)) := by
  classical
  by_cases h : RidesP n t
  · exact ⟨_, fun _ => rfl, fun g => absurd h g⟩
  · exact ⟨_, fun g => absurd g h, fun _ => rfl⟩
theorem ev_impl_usesOfAll (n : S46) (ts : List S66) (hn : n.f1.length ≤ 1048576) (hB : TableB ts) (r : List S22 × Bool) (h1 : RiddenP n ts → r = (usesTo n ts ts.length, true)) (h2 : ¬ RiddenP n ts → r = ([], false)) : Ev (fun k => impl_usesOfAll.f k n ts) r := by
  classical
  unfold impl_usesOfAll.f
  refine Ev.bind (ev_impl_NetOk n hn (decide (NetP n)) decide_eq_true_iff) (Ev.ite (fun g1 => ?_) (fun h => ev_val (h2 fun g => h (decide_eq_true g.1)).symm))
  refine Ev.bind (ev_impl_TableOk ts hB (decide (TableP ts)) decide_eq_true_iff) (Ev.ite (fun g2 => ?_) (fun h => ev_val (h2 fun g => h (decide_eq_true g.2.1)).symm))
  have hN := of_decide_eq_true g1
  have hT := of_decide_eq_true g2
  have h24 := hT.1
  refine ev_scan ts.length (fun i => RidesP n (at_ ts (i : Int))) ([], false) (fun k i => impl_usesOfAll.l0 k n ts (usesTo n ts i) (i : Int)) (fun ⟨i, hi, h⟩ => h2 fun g => h (g.2.2 i hi)) ?_ ?_
  · intro i hi _ hnx hx
    have ht := trip_at hT (i := (i : Int)) (by omega) (by omega)
    have hl := ht.2.1
    have hul := usesTo_len hT (n := n) i (by omega)
    obtain ⟨q, q1, q2⟩ := usesR n (at_ ts (i : Int)) (i : Int)
    refine Ev.step (fun k => by simp only [impl_usesOfAll.l0]; rfl) ?_
    rw [wrap_succ hi (by omega)]
    refine Ev.pos (by omega) (Ev.pos (by omega) (Ev.bind (ev_impl_usesOf n _ _ hN ht q q1 q2) ?_))
    by_cases hr : RidesP n (at_ ts (i : Int))
    · rw [q1 hr]
      refine Ev.pos rfl (Ev.pos (by rw [usesV_len]; omega) (hnx hr))
    · rw [q2 hr]
      exact Ev.neg (by decide) (ev_val (hx hr).symm)
  · intro hp
    refine Ev.step (fun k => by simp only [impl_usesOfAll.l0]; rfl) ?_
    exact Ev.neg (by omega) (ev_val (h1 ⟨hN, hT, hp⟩).symm)
theorem allUsesR (n : S46) (ts : List S66) : ∃ r : List S22 × Bool, (RiddenP n ts → r = (usesTo n ts ts.length, true)) ∧ (¬ RiddenP n ts → r = ([], false)) := by
  classical
  by_cases h : RiddenP n ts
  · exact ⟨_, fun _ => rfl, fun g => absurd h g⟩
  · exact ⟨_, fun g => absurd g h, fun _ => rfl⟩
def UseP (u : S22) : Prop := (0 ≤ u.f0 ∧ u.f0 ≤ 59) ∧ (0 ≤ u.f1 ∧ u.f1 ≤ 1) ∧ 0 ≤ u.f2 ∧ u.f2 < u.f3 ∧ u.f3 ≤ 100000 ∧ (0 ≤ u.f4 ∧ u.f4 ≤ 23)
def MeetP (a b : S22) (h : Int) : Prop := a.f0 = b.f0 ∧ ((a.f1 ≠ b.f1 ∧ a.f2 < b.f3 ∧ b.f2 < a.f3) ∨ (a.f1 = b.f1 ∧ ¬ (a.f2 + h ≤ b.f2 ∧ a.f3 + h ≤ b.f3) ∧ ¬ (b.f2 + h ≤ a.f2 ∧ b.f3 + h ≤ a.f3)))
theorem meet_symm (a b : S22) (h : Int) : MeetP a b h ↔ MeetP b a h := by
  unfold MeetP
  omega
def ClashP (a b : S22) (h : Int) : Prop := UseP a ∧ UseP b ∧ (0 ≤ h ∧ h ≤ 60) ∧ MeetP a b h
theorem ev_spec_UseOk (u : S22) (b : Bool) (hb : b = true ↔ UseP u) : Ev (fun _ => spec_UseOk.f u) b := by
  unfold spec_UseOk.f
  have bad : ¬ UseP u → Ev (fun _ => some false) b := fun h => ev_val (bool_not hb h).symm
  unfold UseP at hb bad
  refine Ev.opt (eq_spec_l01In _ _ _) (Ev.ite (fun q1 => ?_) (fun h => bad fun g => h (decide_eq_true g.1)))
  refine Ev.opt (eq_spec_l01In _ _ _) (Ev.ite (fun q2 => ?_) (fun h => bad fun g => h (decide_eq_true g.2.1)))
  refine Ev.opt (eq_spec_l01In _ _ _) (Ev.ite (fun q3 => ?_) (fun h => bad fun g => h (decide_eq_true (by omega))))
  have q1 := of_decide_eq_true q1
  have q2 := of_decide_eq_true q2
  have q3 := of_decide_eq_true q3
  rw [wrap_id (x := u.f3 - 1) (by omega) (by omega)]
  refine Ev.opt (eq_spec_l01In _ _ _) (Ev.ite (fun q4 => ?_) (fun h => bad fun g => h (decide_eq_true (by omega))))
  have q4 := of_decide_eq_true q4
  refine Ev.opt (eq_spec_l01In _ _ _) (ev_val ?_)
  rw [Bool.eq_iff_iff, decide_eq_true_iff, hb]
  omega
theorem ev_impl_UseOk (u : S22) (b : Bool) (hb : b = true ↔ UseP u) : Ev (fun _ => impl_UseOk.f u) b := by
  unfold impl_UseOk.f
  have bad : ¬ UseP u → Ev (fun _ => some false) b := fun h => ev_val (bool_not hb h).symm
  unfold UseP at hb bad
  refine Ev.opt (eq_impl_between _ _ _) (Ev.ite (fun q1 => ?_) (fun h => bad fun g => h (decide_eq_true g.1)))
  refine Ev.opt (eq_impl_between _ _ _) (Ev.ite (fun q2 => ?_) (fun h => bad fun g => h (decide_eq_true g.2.1)))
  have q1 := of_decide_eq_true q1
  have q2 := of_decide_eq_true q2
  refine Ev.ite (fun q3 => ?_) (fun h => bad fun g => h (by omega))
  refine Ev.ite (fun q4 => ?_) (fun h => bad fun g => h (by omega))
  refine Ev.ite (fun q5 => ?_) (fun h => bad fun g => h (by omega))
  refine Ev.opt (eq_impl_between _ _ _) (ev_val ?_)
  rw [Bool.eq_iff_iff, decide_eq_true_iff, hb]
  omega
theorem ev_spec_Clash (a c : S22) (h : Int) (b : Bool) (hb : b = true ↔ ClashP a c h) : Ev (fun _ => spec_Clash.f a c h) b := by
  classical
  unfold spec_Clash.f
  have bad : ¬ ClashP a c h → Ev (fun _ => some false) b := fun h => ev_val (bool_not hb h).symm
  refine Ev.bind (ev_spec_UseOk a (decide (UseP a)) decide_eq_true_iff) (Ev.ite (fun q1 => ?_) (fun h => bad fun g => h (decide_eq_true g.1)))
  refine Ev.bind (ev_spec_UseOk c (decide (UseP c)) decide_eq_true_iff) (Ev.ite (fun q2 => ?_) (fun h => bad fun g => h (decide_eq_true g.2.1)))
  refine Ev.opt (eq_spec_l01In _ _ _) (Ev.ite (fun q3 => ?_) (fun h => bad fun g => h (decide_eq_true g.2.2.1)))
  have q1 := of_decide_eq_true q1
  have q2 := of_decide_eq_true q2
  have q3 := of_decide_eq_true q3
  have hm : b = true ↔ MeetP a c h := hb.trans ⟨fun g => g.2.2.2, fun g => ⟨q1, q2, q3, g⟩⟩
  unfold UseP at q1 q2
  unfold MeetP at hm
  have T : (a.f0 = c.f0 ∧ ((a.f1 ≠ c.f1 ∧ a.f2 < c.f3 ∧ c.f2 < a.f3) ∨ (a.f1 = c.f1 ∧ ¬ (a.f2 + h ≤ c.f2 ∧ a.f3 + h ≤ c.f3) ∧ ¬ (c.f2 + h ≤ a.f2 ∧ c.f3 + h ≤ a.f3)))) → Ev (fun _ => some true) b := fun g => ev_val (hm.2 g).symm
  have F : ¬ (a.f0 = c.f0 ∧ ((a.f1 ≠ c.f1 ∧ a.f2 < c.f3 ∧ c.f2 < a.f3) ∨ (a.f1 = c.f1 ∧ ¬ (a.f2 + h ≤ c.f2 ∧ a.f3 + h ≤ c.f3) ∧ ¬ (c.f2 + h ≤ a.f2 ∧ c.f3 + h ≤ a.f3)))) → Ev (fun _ => some false) b := fun g => ev_val (bool_not hm g).symm
  rw [wrap_id (x := a.f2 + h) (by omega) (by omega), wrap_id (x := a.f3 + h) (by omega) (by omega), wrap_id (x := c.f2 + h) (by omega) (by omega), wrap_id (x := c.f3 + h) (by omega) (by omega)]
  have N : ∀ p : Prop, [Decidable p] → (p → Ev (fun _ => some false) b) → (¬ p → Ev (fun _ => some true) b) → Ev (fun _ => some (!(decide p))) b := fun p _ h1 h2 => by
    by_cases hp : p
    · rw [decide_eq_true hp]; exact h1 hp
    · rw [decide_eq_false hp]; exact h2 hp
  refine Ev.ite (fun e0 => Ev.ite (fun e1 => Ev.ite (fun e2 => Ev.ite (fun e3 => Ev.ite (fun e4 => F (by omega)) (fun e4 => N _ (fun g => F (by omega)) (fun g => T (by omega)))) (fun e3 => Ev.ite (fun e4 => F (by omega)) (fun e4 => T (by omega)))) (fun e2 => Ev.ite (fun e3 => N _ (fun g => F (by omega)) (fun g => T (by omega))) (fun e3 => T (by omega)))) (fun e1 => Ev.ite (fun e2 => ?_) (fun e2 => F (by omega)))) (fun e0 => F (by omega))
  by_cases e3 : c.f2 < a.f3
  · rw [decide_eq_true e3]; exact T (by omega)
  · rw [decide_eq_false e3]; exact F (by omega)
theorem ev_impl_meet (a c : S22) (h : Int) (ba : -1000000 ≤ a.f2 ∧ a.f2 ≤ 1000000 ∧ -1000000 ≤ a.f3 ∧ a.f3 ≤ 1000000) (bc : -1000000 ≤ c.f2 ∧ c.f2 ≤ 1000000 ∧ -1000000 ≤ c.f3 ∧ c.f3 ≤ 1000000) (bh : 0 ≤ h ∧ h ≤ 60) (b : Bool) (hb : b = true ↔ MeetP a c h) : Ev (fun _ => impl_meet.f a c h) b := by
  unfold impl_meet.f
  have hm := hb
  unfold MeetP at hm
  have T : (a.f0 = c.f0 ∧ ((a.f1 ≠ c.f1 ∧ a.f2 < c.f3 ∧ c.f2 < a.f3) ∨ (a.f1 = c.f1 ∧ ¬ (a.f2 + h ≤ c.f2 ∧ a.f3 + h ≤ c.f3) ∧ ¬ (c.f2 + h ≤ a.f2 ∧ c.f3 + h ≤ a.f3)))) → Ev (fun _ => some true) b := fun g => ev_val (hm.2 g).symm
  have F : ¬ (a.f0 = c.f0 ∧ ((a.f1 ≠ c.f1 ∧ a.f2 < c.f3 ∧ c.f2 < a.f3) ∨ (a.f1 = c.f1 ∧ ¬ (a.f2 + h ≤ c.f2 ∧ a.f3 + h ≤ c.f3) ∧ ¬ (c.f2 + h ≤ a.f2 ∧ c.f3 + h ≤ a.f3)))) → Ev (fun _ => some false) b := fun g => ev_val (bool_not hm g).symm
  rw [wrap_id (x := a.f2 + h) (by omega) (by omega), wrap_id (x := a.f3 + h) (by omega) (by omega), wrap_id (x := c.f2 + h) (by omega) (by omega), wrap_id (x := c.f3 + h) (by omega) (by omega)]
  have N : ∀ p : Prop, [Decidable p] → (p → Ev (fun _ => some false) b) → (¬ p → Ev (fun _ => some true) b) → Ev (fun _ => some (!(decide p))) b := fun p _ h1 h2 => by
    by_cases hp : p
    · rw [decide_eq_true hp]; exact h1 hp
    · rw [decide_eq_false hp]; exact h2 hp
  refine Ev.ite (fun e0 => Ev.ite (fun e1 => Ev.ite (fun e2 => Ev.ite (fun e3 => F (by omega)) (fun e3 => Ev.ite (fun e4 => N _ (fun g => F (by omega)) (fun g => T (by omega))) (fun e4 => T (by omega)))) (fun e2 => Ev.ite (fun e3 => N _ (fun g => F (by omega)) (fun g => T (by omega))) (fun e3 => T (by omega)))) (fun e1 => Ev.ite (fun e2 => ?_) (fun e2 => F (by omega)))) (fun e0 => F (by omega))
  by_cases e3 : c.f2 < a.f3
  · rw [decide_eq_true e3]; exact T (by omega)
  · rw [decide_eq_false e3]; exact F (by omega)
theorem ev_impl_Clash (a c : S22) (h : Int) (b : Bool) (hb : b = true ↔ ClashP a c h) : Ev (fun _ => impl_Clash.f a c h) b := by
  classical
  unfold impl_Clash.f
  have bad : ¬ ClashP a c h → Ev (fun _ => some false) b := fun h => ev_val (bool_not hb h).symm
  refine Ev.bind (ev_impl_UseOk a (decide (UseP a)) decide_eq_true_iff) (Ev.ite (fun q1 => ?_) (fun h => bad fun g => h (decide_eq_true g.1)))
  refine Ev.bind (ev_impl_UseOk c (decide (UseP c)) decide_eq_true_iff) (Ev.ite (fun q2 => ?_) (fun h => bad fun g => h (decide_eq_true g.2.1)))
  refine Ev.opt (eq_impl_between _ _ _) (Ev.ite (fun q3 => ?_) (fun h => bad fun g => h (decide_eq_true g.2.2.1)))
  have q1 := of_decide_eq_true q1
  have q2 := of_decide_eq_true q2
  have q3 := of_decide_eq_true q3
  have w1 := q1
  have w2 := q2
  unfold UseP at w1 w2
  exact Ev.bind (ev_impl_meet a c h (by omega) (by omega) q3 b (hb.trans ⟨fun g => g.2.2.2, fun g => ⟨q1, q2, q3, g⟩⟩)) (ev_val rfl)
def PairP (us : List S22) (h : Int) (i j : Nat) : Prop := (at_ us (i : Int)).f4 ≠ (at_ us (j : Int)).f4 ∧ ClashP (at_ us (i : Int)) (at_ us (j : Int)) h
/-- The place i has a partner behind it. -/
def HasP (us : List S22) (h : Int) (i : Nat) : Prop := ∃ m, m < us.length - (i + 1) ∧ PairP us h i (i + 1 + m)
open Classical in
/-- The first pair that clashes. -/
noncomputable def fcV (us : List S22) (h : Int) : Int × Int :=
  if us.length ≤ 300 ∧ 0 ≤ h ∧ h ≤ 60 ∧ 0 ≤ firstI us.length (HasP us h) then
    (firstI us.length (HasP us h), firstI us.length (HasP us h) + 1 + firstI (us.length - ((firstI us.length (HasP us h)).toNat + 1)) (fun m => PairP us h (firstI us.length (HasP us h)).toNat ((firstI us.length (HasP us h)).toNat + 1 + m)))
  else (-1, -1)
theorem fc_at {us : List S22} {h : Int} (hl : us.length ≤ 300) (hh : 0 ≤ h ∧ h ≤ 60) {i m : Nat} (hi : i < us.length) (hm : m < us.length - (i + 1)) (hp : PairP us h i (i + 1 + m)) (h1 : ∀ j, j < i → ¬ HasP us h j) (h2 : ∀ j, j < m → ¬ PairP us h i (i + 1 + j)) : fcV us h = ((i : Int), ((i + 1 + m : Nat) : Int)) := by
  have e : firstI us.length (HasP us h) = (i : Int) := firstI_eq hi ⟨m, hm, hp⟩ h1
  unfold fcV
  rw [if_pos ⟨hl, hh.1, hh.2, by rw [e]; omega⟩, e, Int.toNat_natCast, firstI_eq (P := fun m => PairP us h i (i + 1 + m)) hm hp h2]
  congr 1
theorem fc_no {us : List S22} {h : Int} (hn : ¬ (us.length ≤ 300 ∧ (0 ≤ h ∧ h ≤ 60)) ∨ ∀ i, i < us.length → ¬ HasP us h i) : fcV us h = (-1, -1) := by
  unfold fcV
  rcases hn with hn | hn
  · rw [if_neg (fun g => hn ⟨g.1, g.2.1, g.2.2.1⟩)]
  · rw [if_neg (fun g => by have := firstI_no hn; omega)]
theorem fc_spec {us : List S22} {h : Int} (hl : us.length ≤ 300) (hh : 0 ≤ h ∧ h ≤ 60) : (fcV us h = (-1, -1) ∧ ∀ i j, i < j → j < us.length → ¬ PairP us h i j) ∨ ∃ i j : Nat, i < j ∧ j < us.length ∧ PairP us h i j ∧ (∀ i' j' : Nat, i' < j' → j' < us.length → PairP us h i' j' → i < i' ∨ (i = i' ∧ j ≤ j')) ∧ fcV us h = ((i : Int), (j : Int)) := by
  rcases firstI_spec us.length (HasP us h) with ⟨e, hn⟩ | ⟨i, h1, ⟨m0, g1, g2⟩, h3, e⟩
  · refine .inl ⟨fc_no (.inr hn), fun i j hij hj hp => hn i (by omega) ⟨j - (i + 1), by omega, by rw [show i + 1 + (j - (i + 1)) = j by omega]; exact hp⟩⟩
  · obtain ⟨m, ⟨k1, k2⟩, k3⟩ := least_of (p := fun m => m < us.length - (i + 1) ∧ PairP us h i (i + 1 + m)) ⟨m0, g1, g2⟩
    refine .inr ⟨i, i + 1 + m, by omega, by omega, k2, fun i' j' hij hj hp => ?_, fc_at hl hh h1 k1 k2 h3 (fun j hj hp => k3 j hj ⟨by omega, hp⟩)⟩
    rcases Nat.lt_trichotomy i i' with w | w | w
    · exact .inl w
    · refine .inr ⟨w, ?_⟩
      subst w
      rcases Nat.lt_or_ge j' (i + 1 + m) with q | q
      · exact absurd ⟨by omega, by rw [show i + 1 + (j' - (i + 1)) = j' by omega]; exact hp⟩ (k3 (j' - (i + 1)) (by omega))
      · exact q
    · exact absurd ⟨j' - (i' + 1), by omega, by rw [show i' + 1 + (j' - (i' + 1)) = j' by omega]; exact hp⟩ (h3 i' w)
theorem ev_spec_FirstClash (us : List S22) (h : Int) (hl : us.length ≤ 1048576) : Ev (fun k => spec_FirstClash.f k us h) (fcV us h) := by
  classical
  unfold spec_FirstClash.f
  refine Ev.ite (fun g => ev_val (fc_no (.inl fun q => by omega)).symm) (fun g1 => ?_)
  refine Ev.opt (eq_spec_l01In _ _ _) (Ev.ite (fun g2 => ?_) (fun g2 => ev_val (fc_no (.inl fun q => g2 (decide_eq_true q.2))).symm))
  have hh := of_decide_eq_true g2
  refine ev_scan2 us.length (fun i => ¬ HasP us h i) (fun _ => fcV us h) (fun k i => spec_FirstClash.l0 k us h (i : Int)) (fun _ _ _ _ => rfl) ?_ ?_
  · intro i hi hpre hn _
    refine Ev.step (fun k => by simp only [spec_FirstClash.l0]; rfl) ?_
    rw [wrap_succ hi (by omega)]
    refine Ev.pos (by omega) ?_
    refine ev_scan2 (us.length - (i + 1)) (fun m => ¬ PairP us h i (i + 1 + m)) (fun m => ((i : Int), ((i + 1 + m : Nat) : Int))) (fun k m => spec_FirstClash.l1 k us h (i : Int) ((i + 1 + m : Nat) : Int)) (fun m hm hp hq => fc_at (by omega) hh hi hm (Classical.not_not.1 hp) hpre hq) ?_ ?_
    · intro m hm _ hn2 hx2
      refine Ev.step (fun k => by simp only [spec_FirstClash.l1]; rfl) ?_
      rw [wrap_id (x := ((i + 1 + m : Nat) : Int) + 1) (by omega) (by omega), show ((i + 1 + m : Nat) : Int) + 1 = ((i + 1 + (m + 1) : Nat) : Int) by omega]
      refine Ev.pos (by omega) (Ev.pos (by omega) (Ev.pos (by omega) (Ev.pos (by omega) (Ev.ite (fun e => hn2 fun p => p.1 e) (fun e => ?_)))))
      refine Ev.bind (ev_spec_Clash _ _ h (decide (ClashP (at_ us (i : Int)) (at_ us ((i + 1 + m : Nat) : Int)) h)) decide_eq_true_iff) (Ev.ite (fun q => ev_val (hx2 fun w => w ⟨e, of_decide_eq_true q⟩).symm) (fun q => hn2 fun p => q (decide_eq_true p.2)))
    · intro hp
      refine Ev.step (fun k => by simp only [spec_FirstClash.l1]; rfl) ?_
      rw [wrap_succ hi (by omega)]
      exact Ev.neg (by omega) (hn fun ⟨m, hm, q⟩ => hp m hm q)
  · intro hp
    refine Ev.step (fun k => by simp only [spec_FirstClash.l0]; rfl) ?_
    exact Ev.neg (by omega) (ev_val (fc_no (.inr hp)).symm)
theorem ev_impl_FirstClash (us : List S22) (h : Int) (hl : us.length ≤ 1048576) : Ev (fun k => impl_FirstClash.f k us h) (fcV us h) := by
  classical
  unfold impl_FirstClash.f
  refine Ev.ite (fun g => ev_val (fc_no (.inl fun q => by omega)).symm) (fun g1 => ?_)
  refine Ev.opt (eq_impl_between _ _ _) (Ev.ite (fun g2 => ?_) (fun g2 => ev_val (fc_no (.inl fun q => g2 (decide_eq_true q.2))).symm))
  have hh := of_decide_eq_true g2
  refine ev_scan2 us.length (fun i => ¬ HasP us h i) (fun _ => fcV us h) (fun k i => impl_FirstClash.l0 k us h (i : Int)) (fun _ _ _ _ => rfl) ?_ ?_
  · intro i hi hpre hn _
    refine Ev.step (fun k => by simp only [impl_FirstClash.l0]; rfl) ?_
    rw [wrap_succ hi (by omega)]
    refine Ev.pos (by omega) (Ev.pos (by omega) ?_)
    refine ev_scan2 (us.length - (i + 1)) (fun m => ¬ PairP us h i (i + 1 + m)) (fun m => ((i : Int), ((i + 1 + m : Nat) : Int))) (fun k m => impl_FirstClash.l1 k us h (i : Int) ((i + 1 + m : Nat) : Int)) (fun m hm hp hq => fc_at (by omega) hh hi hm (Classical.not_not.1 hp) hpre hq) ?_ ?_
    · intro m hm _ hn2 hx2
      refine Ev.step (fun k => by simp only [impl_FirstClash.l1]; rfl) ?_
      rw [wrap_id (x := ((i + 1 + m : Nat) : Int) + 1) (by omega) (by omega), show ((i + 1 + m : Nat) : Int) + 1 = ((i + 1 + (m + 1) : Nat) : Int) by omega]
      refine Ev.pos (by omega) (Ev.pos (by omega) (Ev.ite (fun e => hn2 fun p => p.1 e) (fun e => ?_)))
      refine Ev.bind (ev_impl_Clash _ _ h (decide (ClashP (at_ us (i : Int)) (at_ us ((i + 1 + m : Nat) : Int)) h)) decide_eq_true_iff) (Ev.ite (fun q => ev_val (hx2 fun w => w ⟨e, of_decide_eq_true q⟩).symm) (fun q => hn2 fun p => q (decide_eq_true p.2)))
    · intro hp
      refine Ev.step (fun k => by simp only [impl_FirstClash.l1]; rfl) ?_
      rw [wrap_succ hi (by omega)]
      exact Ev.neg (by omega) (hn fun ⟨m, hm, q⟩ => hp m hm q)
  · intro hp
    refine Ev.step (fun k => by simp only [impl_FirstClash.l0]; rfl) ?_
    exact Ev.neg (by omega) (ev_val (fc_no (.inr hp)).symm)
theorem ev_spec_Uses (n : S46) (ts : List S66) (hn : n.f1.length ≤ 1048576) (hB : TableB ts) (h : RiddenP n ts) : Ev (fun k => spec_Uses.f k n ts) (usesTo n ts ts.length) := by
  classical
  obtain ⟨hN, hT, hR⟩ := h
  have h24 := hT.1
  unfold spec_Uses.f
  refine Ev.bind (ev_spec_Ridden n ts hn hB true (by simp; exact ⟨hN, hT, hR⟩)) (Ev.pos rfl ?_)
  refine ev_fold (fun k i => spec_Uses.l0 k n ts (usesTo n ts i) (i : Int)) ts.length ?_ ?_
  · intro i hi hnx
    have ht := trip_at hT (i := (i : Int)) (by omega) (by omega)
    have hl := ht.2.1
    have hul := usesTo_len hT (n := n) i (by omega)
    rw [usesTo_succ] at hnx
    refine Ev.step (fun k => by simp only [spec_Uses.l0]; rfl) ?_
    refine Ev.pos (by omega) ?_
    have key := ev_fold (fun k j => spec_Uses.l1 k n ts (i : Int) (usesTo n ts i ++ usesV n (at_ ts (i : Int)) (i : Int) j) ((j + 1 : Nat) : Int)) ((at_ ts (i : Int)).f1.length - 1) (r := usesTo n ts ts.length) ?_ ?_
    · simpa [usesV] using key
    · intro j hj hn2
      have hvl := usesV_len n (at_ ts (i : Int)) (i : Int) j
      rw [usesV_succ, ← List.append_assoc] at hn2
      refine Ev.step (fun k => by simp only [spec_Uses.l1]; rfl) ?_
      rw [wrap_id (x := ((j + 1 : Nat) : Int) - 1) (by omega) (by omega), show ((j + 1 : Nat) : Int) - 1 = (j : Int) by omega, wrap_id (x := ((j + 1 : Nat) : Int) + 1) (by omega) (by omega), show ((j + 1 : Nat) : Int) + 1 = ((j + 1 + 1 : Nat) : Int) by omega]
      refine Ev.pos (by omega) (Ev.pos (by omega) (Ev.pos (by omega) (Ev.pos (by omega) (Ev.pos (by omega) (Ev.pos (by omega) ?_)))))
      have hnd := node_ge ht j (by omega)
      have hE := hR i hi j hj
      have hE2 := (firstI_lo n.f1.length (fun q => JoinP (at_ n.f1 (q : Int)) (at_ (at_ ts (i : Int)).f1 (j : Int)).f0 (at_ (at_ ts (i : Int)).f1 ((j : Int) + 1)).f0)).2.1
      unfold legE at hE
      unfold edgeV at hE
      rw [show ((j + 1 : Nat) : Int) = (j : Int) + 1 by omega]
      refine Ev.bind (ev_spec_l09Edge n hN _ _ hnd) (Ev.pos hE (Ev.pos hE2 ?_))
      have hlen : (usesTo n ts i ++ usesV n (at_ ts (i : Int)) (i : Int) j).length = (usesTo n ts i).length + j := by rw [List.length_append, hvl]
      refine Ev.ite (fun e => ?_) (fun e => ?_)
      · refine Ev.pos (by simp only [List.length_cons, List.length_nil]; omega) ?_
        have eu : useV n (at_ ts (i : Int)) (i : Int) j = ⟨edgeV n (at_ (at_ ts (i : Int)).f1 (j : Int)).f0 (at_ (at_ ts (i : Int)).f1 ((j : Int) + 1)).f0, 0, (at_ (at_ ts (i : Int)).f1 (j : Int)).f2, (at_ (at_ ts (i : Int)).f1 ((j : Int) + 1)).f1, (i : Int)⟩ := by
          unfold useV legE dirV; rw [if_pos e]
        rw [eu] at hn2
        exact hn2
      · refine Ev.pos (by simp only [List.length_cons, List.length_nil]; omega) ?_
        have eu : useV n (at_ ts (i : Int)) (i : Int) j = ⟨edgeV n (at_ (at_ ts (i : Int)).f1 (j : Int)).f0 (at_ (at_ ts (i : Int)).f1 ((j : Int) + 1)).f0, 1, (at_ (at_ ts (i : Int)).f1 (j : Int)).f2, (at_ (at_ ts (i : Int)).f1 ((j : Int) + 1)).f1, (i : Int)⟩ := by
          unfold useV legE dirV; rw [if_neg e]
        rw [eu] at hn2
        exact hn2
    · refine Ev.step (fun k => by simp only [spec_Uses.l1]; rfl) ?_
      rw [wrap_succ hi (by omega)]
      exact Ev.pos (by omega) (Ev.pos (by omega) (Ev.neg (by omega) hnx))
  · refine Ev.step (fun k => by simp only [spec_Uses.l0]; rfl) ?_
    exact Ev.neg (by omega) (ev_val rfl)
def CleanP (n : S46) (ts : List S66) (h : Int) : Prop := RiddenP n ts ∧ (0 ≤ h ∧ h ≤ 60) ∧ ∀ i j, i < j → j < (usesTo n ts ts.length).length → ¬ PairP (usesTo n ts ts.length) h i j
theorem clean_fc {n : S46} {ts : List S66} {h : Int} (hr : RiddenP n ts) (hh : 0 ≤ h ∧ h ≤ 60) : ((fcV (usesTo n ts ts.length) h).1 < 0 ↔ CleanP n ts h) := by
  have hul := usesTo_len hr.2.1 (n := n) ts.length (Nat.le_refl _)
  have h24 := hr.2.1.1
  rcases fc_spec (us := usesTo n ts ts.length) (h := h) (by omega) hh with ⟨e, hn⟩ | ⟨i, j, h1, h2, h3, _, e⟩
  · rw [e]
    exact ⟨fun _ => ⟨hr, hh, hn⟩, fun _ => by decide⟩
  · rw [e]
    exact ⟨fun g => by dsimp only at g; omega, fun g => absurd h3 (g.2.2 i j h1 h2)⟩
theorem ev_spec_Clean (n : S46) (ts : List S66) (h : Int) (hn : n.f1.length ≤ 1048576) (hB : TableB ts) (b : Bool) (hb : b = true ↔ CleanP n ts h) : Ev (fun k => spec_Clean.f k n ts h) b := by
  classical
  unfold spec_Clean.f
  have bad : ¬ CleanP n ts h → Ev (fun _ => some false) b := fun h => ev_val (bool_not hb h).symm
  refine Ev.bind (ev_spec_Ridden n ts hn hB (decide (RiddenP n ts)) decide_eq_true_iff) (Ev.ite (fun g1 => ?_) (fun g1 => bad fun g => g1 (decide_eq_true g.1)))
  have hr := of_decide_eq_true g1
  refine Ev.opt (eq_spec_l01In _ _ _) (Ev.ite (fun g2 => ?_) (fun g2 => bad fun g => g2 (decide_eq_true g.2.1)))
  have hh := of_decide_eq_true g2
  have hul := usesTo_len hr.2.1 (n := n) ts.length (Nat.le_refl _)
  have h24 := hr.2.1.1
  refine Ev.bind (ev_spec_Uses n ts hn hB hr) (Ev.bind (ev_spec_FirstClash _ h (by omega)) (ev_val ?_))
  rw [Bool.eq_iff_iff, decide_eq_true_iff, hb, clean_fc hr hh]
theorem ev_impl_Clean (n : S46) (ts : List S66) (h : Int) (hn : n.f1.length ≤ 1048576) (hB : TableB ts) (b : Bool) (hb : b = true ↔ CleanP n ts h) : Ev (fun k => impl_Clean.f k n ts h) b := by
  classical
  unfold impl_Clean.f
  have bad : ¬ CleanP n ts h → Ev (fun _ => some false) b := fun h => ev_val (bool_not hb h).symm
  obtain ⟨r, r1, r2⟩ := allUsesR n ts
  refine Ev.bind (ev_impl_usesOfAll n ts hn hB r r1 r2) ?_
  by_cases hr : RiddenP n ts
  · have hul := usesTo_len hr.2.1 (n := n) ts.length (Nat.le_refl _)
    have h24 := hr.2.1.1
    rw [r1 hr]
    refine Ev.pos rfl (Ev.opt (eq_impl_between _ _ _) (Ev.ite (fun g2 => ?_) (fun g2 => bad fun g => g2 (decide_eq_true g.2.1))))
    have hh := of_decide_eq_true g2
    refine Ev.bind (ev_impl_FirstClash _ h (by dsimp only; omega)) (ev_val ?_)
    rw [Bool.eq_iff_iff, decide_eq_true_iff, hb, clean_fc hr hh]
  · rw [r2 hr]
    exact Ev.neg (by decide) (bad fun g => hr g.1)
def lastD (t : S66) : Int := (at_ t.f1 ((t.f1.length : Int) - 1)).f2
theorem dep_mono {t : S66} (h : TripP t) : ∀ m j, j ≤ m → m < t.f1.length → (at_ t.f1 (j : Int)).f2 ≤ (at_ t.f1 (m : Int)).f2
  | 0, j, hj, _ => by obtain rfl : j = 0 := by omega
                      exact Int.le_refl _
  | m + 1, j, hj, hm => by
    by_cases e : j = m + 1
    · rw [e]; exact Int.le_refl _
    · have ih := dep_mono h m j (by omega) (by omega)
      have h1 := h.2.2 (m + 1) hm
      unfold CallP at h1
      have h2 := (h1.2.2.2 (by omega)).1
      rw [show ((m + 1 : Nat) : Int) - 1 = (m : Int) by omega] at h2
      omega
theorem dep_last {t : S66} (h : TripP t) {i : Int} (h0 : 0 ≤ i) (h1 : i < (t.f1.length : Int)) : (at_ t.f1 i).f2 ≤ lastD t := by
  have hl := h.2.1
  have := dep_mono h (t.f1.length - 1) i.toNat (by omega) (by omega)
  rw [show ((i.toNat : Nat) : Int) = i by omega, show ((t.f1.length - 1 : Nat) : Int) = (t.f1.length : Int) - 1 by omega] at this
  exact this
theorem trip_bdd {t : S66} (h : TripP t) : TripB t := ⟨by have := h.1.1; omega, by have := h.2.1; omega⟩
theorem at_map {α β : Type} [Inhabited α] [Inhabited β] (f : α → β) {xs : List α} {i : Int} (h0 : 0 ≤ i) (h1 : i < (xs.length : Int)) : at_ (xs.map f) i = f (at_ xs i) := by
  rw [at_int h0 (by rw [List.length_map]; exact h1), at_int h0 h1, List.getElem_map]
def mvC (by_ : Int) (c : S89) : S89 := ⟨c.f0, c.f1 + by_, c.f2 + by_⟩
def movedV (t : S66) (by_ : Int) : S66 := ⟨t.f0, t.f1.map (mvC by_)⟩
theorem mv_len (t : S66) (by_ : Int) : (movedV t by_).f1.length = t.f1.length := by simp [movedV]
theorem mv_at (t : S66) (by_ : Int) {i : Int} (h0 : 0 ≤ i) (h1 : i < (t.f1.length : Int)) : at_ (movedV t by_).f1 i = mvC by_ (at_ t.f1 i) := at_map _ h0 h1
theorem mv_trip {t : S66} (h : TripP t) {by_ : Int} (h0 : 0 ≤ by_) : TripP (movedV t by_) ↔ lastD t + by_ ≤ 100000 := by
  have hl := h.2.1
  constructor
  · intro g
    have := call_bd g (i := (t.f1.length : Int) - 1) (by omega) (by rw [mv_len]; omega)
    rw [mv_at t by_ (by omega) (by omega)] at this
    have := this.2.2
    unfold lastD
    exact this
  · intro g
    refine ⟨h.1, by rw [mv_len]; exact hl, fun i hi => ?_⟩
    rw [mv_len] at hi
    have hc := h.2.2 i hi
    have hd := dep_last h (i := (i : Int)) (by omega) (by omega)
    unfold CallP at hc ⊢
    rw [mv_at t by_ (by omega) (by omega)]
    unfold mvC
    refine ⟨hc.1, by dsimp only; omega, by dsimp only; omega, fun hp => ?_⟩
    rw [mv_at t by_ (by omega) (by omega)]
    unfold mvC
    have := hc.2.2.2 hp
    exact ⟨by dsimp only; omega, this.2⟩
def noTrip : S66 := ⟨ByteArray.empty, []⟩
theorem no_trip : ¬ TripP noTrip := fun h => by
  have := h.2.1.1
  unfold noTrip at this
  simp at this
open Classical in
noncomputable def mvV (t : S66) (by_ : Int) : S66 := if lastD t + by_ ≤ 100000 then movedV t by_ else noTrip
theorem ev_spec_Moved (t : S66) (by_ : Int) (h : TripP t) (h0 : 0 ≤ by_ ∧ by_ ≤ 100000) : Ev (fun k => spec_Moved.f k t by_) (mvV t by_) := by
  classical
  have hl := h.2.1
  have hb := trip_bdd h
  unfold spec_Moved.f
  refine Ev.bind (ev_spec_TripOk t hb.1 hb.2 true (by simp [h])) (Ev.pos rfl (Ev.opt (eq_spec_l01In _ _ _) (Ev.pos (decide_eq_true (by omega)) ?_)))
  refine ev_fold (fun k i => spec_Moved.l0 k t by_ ((movedV t by_).f1.take i) (i : Int)) t.f1.length ?_ ?_
  · intro i hi hn
    have hi2 : i < (movedV t by_).f1.length := by rw [mv_len]; exact hi
    have hc := call_bd h (i := (i : Int)) (by omega) (by omega)
    rw [take_succ' hi2] at hn
    have e : (movedV t by_).f1[i] = mvC by_ (at_ t.f1 (i : Int)) := by
      rw [← mv_at t by_ (by omega) (by omega), at_nat hi2]
    rw [e] at hn
    refine Ev.step (fun k => by simp only [spec_Moved.l0]; rfl) ?_
    rw [wrap_succ hi (by omega), wrap_id (x := (at_ t.f1 (i : Int)).f1 + by_) (by omega) (by omega), wrap_id (x := (at_ t.f1 (i : Int)).f2 + by_) (by omega) (by omega)]
    exact Ev.pos (by omega) (Ev.pos (by omega) (Ev.pos (by rw [List.length_take]; simp only [List.length_cons, List.length_nil]; omega) hn))
  · refine Ev.step (fun k => by simp only [spec_Moved.l0]; rfl) ?_
    have e : (movedV t by_).f1.take t.f1.length = (movedV t by_).f1 := by rw [← mv_len t by_, List.take_length]
    rw [e]
    refine Ev.neg (by omega) (Ev.bind (ev_spec_TripOk (movedV t by_) hb.1 (by rw [mv_len]; exact hb.2) (decide (TripP (movedV t by_))) decide_eq_true_iff) ?_)
    unfold mvV
    by_cases g : lastD t + by_ ≤ 100000
    · rw [if_pos g]
      exact Ev.pos (decide_eq_true ((mv_trip h h0.1).2 g)) (ev_val rfl)
    · rw [if_neg g]
      exact Ev.neg (fun q => g ((mv_trip h h0.1).1 (of_decide_eq_true q))) (ev_val rfl)
theorem ev_spec_l09With (ts : List S66) (t : S66) (hl : ts.length ≤ 1048576) : Ev (fun k => spec_l09With.f k ts t) (ts ++ [t]) := by
  unfold spec_l09With.f
  refine ev_fold (fun k i => spec_l09With.l0 k ts t (ts.take i) (i : Int)) ts.length ?_ ?_
  · intro i hi hn
    rw [take_succ' hi] at hn
    refine Ev.step (fun k => by simp only [spec_l09With.l0]; rfl) ?_
    rw [wrap_succ hi (by omega), at_nat hi]
    exact Ev.pos (by omega) (Ev.pos (by omega) (Ev.pos (by rw [List.length_take]; simp only [List.length_cons, List.length_nil]; omega) hn))
  · refine Ev.step (fun k => by simp only [spec_l09With.l0]; rfl) ?_
    rw [List.take_length]
    exact Ev.neg (by omega) (Ev.pos (by simp only [List.length_cons, List.length_nil]; omega) (ev_val rfl))
theorem usesTo_app (n : S46) (ts : List S66) (m : S66) : ∀ i, i ≤ ts.length → usesTo n (ts ++ [m]) i = usesTo n ts i
  | 0, _ => rfl
  | i + 1, hi => by rw [usesTo_succ, usesTo_succ, usesTo_app n ts m i (by omega), at_app_left ts [m] (by omega) (by omega)]
theorem usesTo_with (n : S46) (ts : List S66) (m : S66) : usesTo n (ts ++ [m]) (ts ++ [m]).length = usesTo n ts ts.length ++ usesV n m (ts.length : Int) (m.f1.length - 1) := by
  rw [List.length_append, List.length_singleton, usesTo_succ, usesTo_app n ts m _ (Nat.le_refl _), at_app_last]
theorem use_ok {n : S46} {t : S66} (hN : NetP n) (h : TripP t) {place : Int} (hp : 0 ≤ place ∧ place ≤ 23) {j : Nat} (hj : j < t.f1.length - 1) (hr : 0 ≤ legE n t j) : UseP (useV n t place j) := by
  have hl := hN.2.1
  have h2 := (firstI_lo n.f1.length (fun q => JoinP (at_ n.f1 (q : Int)) (at_ t.f1 (j : Int)).f0 (at_ t.f1 ((j : Int) + 1)).f0)).2.1
  have hc := call_bd h (i := (j : Int)) (by omega) (by omega)
  have hc2 := call_bd h (i := (j : Int) + 1) (by omega) (by omega)
  have h3 := h.2.2 (j + 1) (by omega)
  unfold CallP at h3
  have h4 := (h3.2.2.2 (by omega)).1
  rw [show ((j + 1 : Nat) : Int) - 1 = (j : Int) by omega, show ((j + 1 : Nat) : Int) = (j : Int) + 1 by omega] at h4
  have hd : 0 ≤ dirV n (at_ t.f1 (j : Int)).f0 (at_ t.f1 ((j : Int) + 1)).f0 (legE n t j) ∧ dirV n (at_ t.f1 (j : Int)).f0 (at_ t.f1 ((j : Int) + 1)).f0 (legE n t j) ≤ 1 := by unfold dirV; split <;> omega
  have hE : legE n t j < (n.f1.length : Int) := h2
  exact ⟨⟨hr, by show legE n t j ≤ 59; omega⟩, hd, by show 0 ≤ (at_ t.f1 (j : Int)).f2; omega, h4, by show (at_ t.f1 ((j : Int) + 1)).f1 ≤ 100000; omega, hp⟩
theorem usesV_at (n : S46) (t : S66) (p : Int) {m : Nat} {i : Int} (h0 : 0 ≤ i) (h1 : i < (m : Int)) : at_ (usesV n t p m) i = useV n t p i.toNat := by
  rw [at_int h0 (by rw [usesV_len]; exact h1)]
  simp [usesV]
theorem usesTo_ok {n : S46} {ts : List S66} (h : RiddenP n ts) : ∀ m, m ≤ ts.length → ∀ i : Nat, i < (usesTo n ts m).length → UseP (at_ (usesTo n ts m) (i : Int)) ∧ 0 ≤ (at_ (usesTo n ts m) (i : Int)).f4 ∧ (at_ (usesTo n ts m) (i : Int)).f4 < (m : Int)
  | 0, _, i, hi => absurd hi (by simp [usesTo])
  | m + 1, hm, i, hi => by
    have h24 := h.2.1.1
    rw [usesTo_succ] at hi ⊢
    rcases Nat.lt_or_ge i (usesTo n ts m).length with g | g
    · rw [at_app_left _ _ (by omega) (by omega)]
      have := usesTo_ok h m (by omega) i g
      exact ⟨this.1, this.2.1, by omega⟩
    · rw [at_app_right _ _ (by omega)]
      rw [List.length_append, usesV_len] at hi
      rw [usesV_at n _ _ (by omega) (by omega)]
      refine ⟨use_ok h.1 (trip_at h.2.1 (by omega) (by omega)) (by omega) (by omega) (h.2.2 m (by omega) _ (by omega)), ?_, ?_⟩
      · show 0 ≤ (m : Int); omega
      · show (m : Int) < _; omega
def CrossP (n : S46) (ts : List S66) (m : S66) (h : Int) : Prop := ∃ i : Nat, i < (usesTo n ts ts.length).length ∧ ∃ j : Nat, j < m.f1.length - 1 ∧ MeetP (useV n m (ts.length : Int) j) (at_ (usesTo n ts ts.length) (i : Int)) h
def FreshP (ts : List S66) (s : ByteArray) : Prop := ∀ j, j < ts.length → sEq (at_ ts (j : Int)).f0 s ≠ true
theorem table_with {ts : List S66} (hT : TableP ts) (m : S66) : TableP (ts ++ [m]) ↔ ts.length < 24 ∧ TripP m ∧ FreshP ts m.f0 := by
  have new : ∀ i, i < ts.length → NewP (ts ++ [m]) i := fun i hi => by
    have h1 := hT.2 i hi
    unfold NewP at h1 ⊢
    rw [at_app_left _ _ (by omega) (by omega)]
    refine ⟨h1.1, fun j hj => ?_⟩
    rw [at_app_left _ _ (by omega) (by omega)]
    exact h1.2 j hj
  constructor
  · intro g
    have hl := g.1
    rw [List.length_append, List.length_singleton] at hl
    have h1 := g.2 ts.length (by rw [List.length_append, List.length_singleton]; omega)
    unfold NewP at h1
    rw [at_app_last] at h1
    refine ⟨by omega, h1.1, fun j hj => ?_⟩
    have := h1.2 j hj
    rwa [at_app_left _ _ (by omega) (by omega)] at this
  · rintro ⟨g1, g2, g3⟩
    refine ⟨by rw [List.length_append, List.length_singleton]; omega, fun i hi => ?_⟩
    rw [List.length_append, List.length_singleton] at hi
    rcases Nat.lt_or_ge i ts.length with w | w
    · exact new i w
    · obtain rfl : i = ts.length := by omega
      unfold NewP
      rw [at_app_last]
      refine ⟨g2, fun j hj => ?_⟩
      rw [at_app_left _ _ (by omega) (by omega)]
      exact g3 j hj
theorem clean_with {n : S46} {ts : List S66} {h : Int} (hc : CleanP n ts h) (m : S66) : CleanP n (ts ++ [m]) h ↔ ts.length < 24 ∧ TripP m ∧ FreshP ts m.f0 ∧ RidesP n m ∧ ¬ CrossP n ts m h := by
  obtain ⟨hr, hh, hp⟩ := hc
  have hR : RiddenP n (ts ++ [m]) ↔ (ts.length < 24 ∧ TripP m ∧ FreshP ts m.f0) ∧ RidesP n m := by
    unfold RiddenP
    rw [table_with hr.2.1]
    constructor
    · rintro ⟨_, g1, g2⟩
      have := g2 ts.length (by rw [List.length_append, List.length_singleton]; omega)
      rw [at_app_last] at this
      exact ⟨g1, this⟩
    · rintro ⟨g1, g2⟩
      refine ⟨hr.1, g1, fun i hi => ?_⟩
      rw [List.length_append, List.length_singleton] at hi
      rcases Nat.lt_or_ge i ts.length with w | w
      · rw [at_app_left _ _ (by omega) (by omega)]; exact hr.2.2 i w
      · obtain rfl : i = ts.length := by omega
        rw [at_app_last]; exact g2
  unfold CleanP
  rw [hR, usesTo_with]
  constructor
  · rintro ⟨⟨⟨g1, g2, g3⟩, g4⟩, _, g5⟩
    refine ⟨g1, g2, g3, g4, fun ⟨i, hi, j, hj, hm⟩ => ?_⟩
    have ho := usesTo_ok hr ts.length (Nat.le_refl _) i hi
    refine g5 i ((usesTo n ts ts.length).length + j) (by omega) (by rw [List.length_append, usesV_len]; omega) ?_
    unfold PairP
    rw [at_app_left _ _ (by omega) (by omega), at_app_right _ _ (by omega), usesV_at n m _ (by omega) (by omega), show ((((usesTo n ts ts.length).length + j : Nat) : Int) - ((usesTo n ts ts.length).length : Int)).toNat = j by omega]
    exact ⟨by show _ ≠ (ts.length : Int); omega, ho.1, use_ok hr.1 g2 (by omega) hj (g4 j hj), hh, (meet_symm _ _ h).1 hm⟩
  · rintro ⟨g1, g2, g3, g4, g5⟩
    refine ⟨⟨⟨g1, g2, g3⟩, g4⟩, hh, fun i j hij hj hpr => ?_⟩
    rw [List.length_append, usesV_len] at hj
    unfold PairP at hpr
    rcases Nat.lt_or_ge j (usesTo n ts ts.length).length with w | w
    · rw [at_app_left _ _ (by omega) (by omega), at_app_left _ _ (by omega) (by omega)] at hpr
      exact hp i j hij w hpr
    · rw [at_app_right (i := (j : Int)) _ _ (by omega), usesV_at n m _ (by omega) (by omega)] at hpr
      rcases Nat.lt_or_ge i (usesTo n ts ts.length).length with v | v
      · rw [at_app_left _ _ (by omega) (by omega)] at hpr
        exact g5 ⟨i, v, _, by omega, (meet_symm _ _ h).1 hpr.2.2.2.2⟩
      · rw [at_app_right (i := (i : Int)) _ _ (by omega), usesV_at n m _ (by omega) (by omega)] at hpr
        exact hpr.1 rfl
theorem legE_mv (n : S46) (t : S66) (by_ : Int) {j : Nat} (hj : j < t.f1.length - 1) : legE n (movedV t by_) j = legE n t j := by
  unfold legE
  rw [mv_at t by_ (by omega) (by omega), mv_at t by_ (by omega) (by omega)]
  rfl
theorem rides_mv (n : S46) (t : S66) (by_ : Int) : RidesP n (movedV t by_) ↔ RidesP n t := by
  unfold RidesP
  rw [mv_len]
  exact ⟨fun g j hj => by rw [← legE_mv n t by_ hj]; exact g j hj, fun g j hj => by rw [legE_mv n t by_ hj]; exact g j hj⟩
theorem useV_mv (n : S46) (t : S66) (by_ place : Int) {j : Nat} (hj : j < t.f1.length - 1) : useV n (movedV t by_) place j = ⟨(useV n t place j).f0, (useV n t place j).f1, (useV n t place j).f2 + by_, (useV n t place j).f3 + by_, (useV n t place j).f4⟩ := by
  unfold useV
  rw [legE_mv n t by_ hj, mv_at t by_ (by omega) (by omega), mv_at t by_ (by omega) (by omega)]
  rfl
def PushP (n : S46) (ts : List S66) (t : S66) (h : Int) (b : Nat) : Prop := lastD t + (b : Int) ≤ 100000 ∧ ¬ CrossP n ts (movedV t (b : Int)) h
open Classical in
/-- By how much a trip must be pushed. -/
noncomputable def pushV (n : S46) (ts : List S66) (t : S66) (h : Int) : Int := if CleanP n ts h ∧ TripP t ∧ ts.length < 24 ∧ FreshP ts t.f0 ∧ RidesP n t then firstI 121 (PushP n ts t h) else -1
theorem push_clean {n : S46} {ts : List S66} {t : S66} {h : Int} (hc : CleanP n ts h) (ht : TripP t) (b : Nat) : CleanP n (ts ++ [mvV t (b : Int)]) h ↔ (ts.length < 24 ∧ FreshP ts t.f0 ∧ RidesP n t) ∧ PushP n ts t h b := by
  rw [clean_with hc]
  unfold mvV PushP
  by_cases g : lastD t + (b : Int) ≤ 100000
  · rw [if_pos g, mv_trip ht (by omega), rides_mv]
    exact ⟨fun ⟨a1, _, a3, a4, a5⟩ => ⟨⟨a1, a3, a4⟩, g, a5⟩, fun ⟨⟨a1, a3, a4⟩, _, a5⟩ => ⟨a1, g, a3, a4, a5⟩⟩
  · rw [if_neg g]
    exact ⟨fun ⟨_, a2, _⟩ => absurd a2 no_trip, fun ⟨_, a2, _⟩ => absurd a2 g⟩
theorem with_bdd {ts : List S66} (hB : TableB ts) {t : S66} (ht : TripB t) (hl : ts.length ≤ 24) : TableB (ts ++ [t]) := by
  refine ⟨by rw [List.length_append, List.length_singleton]; omega, fun y hy => ?_⟩
  rcases List.mem_append.1 hy with g | g
  · exact hB.2 y g
  · rw [List.mem_singleton] at g; rw [g]; exact ht
theorem mv_bdd {t : S66} (h : TripP t) (b : Int) : TripB (mvV t b) := by
  have hb := trip_bdd h
  unfold mvV
  split
  · exact ⟨hb.1, by rw [mv_len]; exact hb.2⟩
  · exact ⟨by decide, by decide⟩
theorem ev_spec_PushOf (n : S46) (ts : List S66) (t : S66) (h : Int) (hn : n.f1.length ≤ 1048576) (hB : TableB ts) (hb : TripB t) : Ev (fun k => spec_PushOf.f k n ts t h) (pushV n ts t h) := by
  classical
  unfold spec_PushOf.f
  have bad : ¬ (CleanP n ts h ∧ TripP t ∧ ts.length < 24 ∧ FreshP ts t.f0 ∧ RidesP n t) → Ev (fun _ => some (-1)) (pushV n ts t h) := fun g => ev_val (by unfold pushV; rw [if_neg g])
  refine Ev.bind (ev_spec_Ridden n ts hn hB (decide (RiddenP n ts)) decide_eq_true_iff) (Ev.ite (fun g1 => ?_) (fun g1 => bad fun g => g1 (decide_eq_true g.1.1)))
  refine Ev.bind (ev_spec_TripOk t hb.1 hb.2 (decide (TripP t)) decide_eq_true_iff) (Ev.ite (fun g2 => ?_) (fun g2 => bad fun g => g2 (decide_eq_true g.2.1)))
  refine Ev.bind (ev_spec_Clean n ts h hn hB (decide (CleanP n ts h)) decide_eq_true_iff) (Ev.ite (fun g3 => ?_) (fun g3 => bad fun g => g3 (decide_eq_true g.1)))
  have ht := of_decide_eq_true g2
  have hc := of_decide_eq_true g3
  have h24 := hc.1.2.1.1
  refine ev_scan2 121 (fun b => ¬ CleanP n (ts ++ [mvV t (b : Int)]) h) (fun b => (b : Int)) (fun k b => spec_PushOf.l0 k n ts t h (b : Int)) ?_ ?_ ?_
  · intro b hb2 hp hq
    have hw := (push_clean hc ht b).1 (Classical.not_not.1 hp)
    unfold pushV
    rw [if_pos ⟨hc, ht, hw.1⟩]
    exact firstI_eq hb2 hw.2 fun j hj hpj => hq j hj ((push_clean hc ht j).2 ⟨hw.1, hpj⟩)
  · intro b hb2 _ hnx hx
    refine Ev.step (fun k => by simp only [spec_PushOf.l0]; rfl) ?_
    rw [wrap_succ hb2 (by omega)]
    refine Ev.pos (by omega) (Ev.bind (ev_spec_Moved t (b : Int) ht (by omega)) (Ev.bind (ev_spec_l09With ts _ (by omega)) ?_))
    refine Ev.bind (ev_spec_Clean n _ h hn (with_bdd hB (mv_bdd ht _) h24) (decide (CleanP n (ts ++ [mvV t (b : Int)]) h)) decide_eq_true_iff) ?_
    exact Ev.ite (fun g => ev_val (hx fun q => q (of_decide_eq_true g)).symm) (fun g => hnx fun q => g (decide_eq_true q))
  · intro hp
    refine Ev.step (fun k => by simp only [spec_PushOf.l0]; rfl) ?_
    refine Ev.neg (by omega) (ev_val ?_)
    unfold pushV
    by_cases g : CleanP n ts h ∧ TripP t ∧ ts.length < 24 ∧ FreshP ts t.f0 ∧ RidesP n t
    · rw [if_pos g, firstI_no fun b hb2 hpb => hp b hb2 ((push_clean hc ht b).2 ⟨g.2.2, hpb⟩)]
    · rw [if_neg g]
theorem ev_impl_meetAny (n : S46) (ts : List S66) (t : S66) (h : Int) (b : Nat) (hc : CleanP n ts h) (ht : TripP t) (h24 : ts.length < 24) (hr : RidesP n t) (hb : b ≤ 120) (q : Bool) (hq : q = true ↔ CrossP n ts (movedV t (b : Int)) h) : Ev (fun k => impl_meetAny.f k (usesV n t (ts.length : Int) (t.f1.length - 1)) (usesTo n ts ts.length) (b : Int) h) q := by
  have hl := ht.2.1
  have hul := usesTo_len hc.1.2.1 (n := n) ts.length (Nat.le_refl _)
  unfold impl_meetAny.f
  refine ev_scan (t.f1.length - 1) (fun j => ∀ i : Nat, i < (usesTo n ts ts.length).length → ¬ MeetP (useV n (movedV t (b : Int)) (ts.length : Int) j) (at_ (usesTo n ts ts.length) (i : Int)) h) true (fun k j => impl_meetAny.l0 k (usesV n t (ts.length : Int) (t.f1.length - 1)) (usesTo n ts ts.length) (b : Int) h (j : Int)) (fun ⟨j, hj, hp⟩ => hq.2 (by obtain ⟨i, hi, g⟩ := not_all hp; exact ⟨i, hi, j, by rw [mv_len]; exact hj, Classical.not_not.1 g⟩)) ?_ ?_
  · intro j hj _ hnx hx
    refine Ev.step (fun k => by simp only [impl_meetAny.l0]; rfl) ?_
    refine Ev.pos (by rw [usesV_len]; omega) (Ev.pos (by omega) ?_)
    refine ev_scan (usesTo n ts ts.length).length (fun i => ¬ MeetP (useV n (movedV t (b : Int)) (ts.length : Int) j) (at_ (usesTo n ts ts.length) (i : Int)) h) true (fun k i => impl_meetAny.l1 k (usesV n t (ts.length : Int) (t.f1.length - 1)) (usesTo n ts ts.length) (b : Int) h (j : Int) (i : Int)) (fun ⟨i, hi, hp⟩ => hx fun g => hp (g i hi)) ?_ ?_
    · intro i hi _ hn2 hx2
      have hu := use_ok hc.1.1 ht (place := (ts.length : Int)) (by omega) hj (hr j hj)
      have ho := (usesTo_ok hc.1 ts.length (Nat.le_refl _) i hi).1
      unfold UseP at hu ho
      refine Ev.step (fun k => by simp only [impl_meetAny.l1]; rfl) ?_
      rw [wrap_succ hi (by omega), usesV_at n t _ (by omega) (by omega), Int.toNat_natCast, wrap_id (x := (useV n t (ts.length : Int) j).f2 + (b : Int)) (by omega) (by omega), wrap_id (x := (useV n t (ts.length : Int) j).f3 + (b : Int)) (by omega) (by omega), ← useV_mv n t (b : Int) (ts.length : Int) hj]
      classical
      have e := useV_mv n t (b : Int) (ts.length : Int) hj
      refine Ev.pos (by omega) (Ev.pos (by omega) (Ev.bind (ev_impl_meet _ _ h (by rw [e]; dsimp only; omega) (by omega) hc.2.1 (decide (MeetP (useV n (movedV t (b : Int)) (ts.length : Int) j) (at_ (usesTo n ts ts.length) (i : Int)) h)) decide_eq_true_iff) ?_))
      exact Ev.ite (fun g => ev_val (hx2 fun w => w (of_decide_eq_true g)).symm) (fun g => hn2 fun w => g (decide_eq_true w))
    · intro hp
      refine Ev.step (fun k => by simp only [impl_meetAny.l1]; rfl) ?_
      rw [wrap_id (x := (j : Int) + 1) (by omega) (by omega)]
      refine Ev.neg (by omega) ?_
      have := hnx hp
      rwa [show ((j + 1 : Nat) : Int) = (j : Int) + 1 by omega] at this
  · intro hp
    refine Ev.step (fun k => by simp only [impl_meetAny.l0]; rfl) ?_
    refine Ev.neg (by rw [usesV_len]; omega) (ev_val (bool_not hq fun ⟨i, hi, j, hj, g⟩ => ?_).symm)
    rw [mv_len] at hj
    exact hp j hj i hi g
theorem ev_impl_PushOf (n : S46) (ts : List S66) (t : S66) (h : Int) (hn : n.f1.length ≤ 1048576) (hB : TableB ts) (hb : TripB t) : Ev (fun k => impl_PushOf.f k n ts t h) (pushV n ts t h) := by
  classical
  unfold impl_PushOf.f
  have bad : ¬ (CleanP n ts h ∧ TripP t ∧ ts.length < 24 ∧ FreshP ts t.f0 ∧ RidesP n t) → Ev (fun _ => some (-1)) (pushV n ts t h) := fun g => ev_val (by unfold pushV; rw [if_neg g])
  refine Ev.bind (ev_impl_Clean n ts h hn hB (decide (CleanP n ts h)) decide_eq_true_iff) (Ev.ite (fun g3 => ?_) (fun g3 => bad fun g => g3 (decide_eq_true g.1)))
  refine Ev.bind (ev_impl_TripOk t hb.1 hb.2 (decide (TripP t)) decide_eq_true_iff) (Ev.ite (fun g2 => ?_) (fun g2 => bad fun g => g2 (decide_eq_true g.2.1)))
  have ht := of_decide_eq_true g2
  have hc := of_decide_eq_true g3
  have hl := ht.2.1
  refine Ev.ite (fun g4 => bad fun g => by have := g.2.2.1; omega) (fun g4 => ?_)
  have h24 : ts.length < 24 := by omega
  obtain ⟨r, e1, e2⟩ := ev_impl_tripNamed ts t.f0 (by omega)
  refine Ev.bind e1 (Ev.ite (fun g5 => bad fun g => ?_) (fun g5 => ?_))
  · obtain ⟨j, hj, w⟩ := e2.1 g5
    exact g.2.2.2.1 j hj w
  have hF : FreshP ts t.f0 := fun j hj w => g5 (e2.2 ⟨j, hj, w⟩)
  obtain ⟨q, q1, q2⟩ := allUsesR n ts
  have eU : Ev (fun k => impl_Uses.f k n ts) (usesTo n ts ts.length) := by
    unfold impl_Uses.f
    exact Ev.bind (ev_impl_usesOfAll n ts hn hB q q1 q2) (ev_val (by rw [q1 hc.1]))
  refine Ev.bind eU ?_
  obtain ⟨u, u1, u2⟩ := usesR n t (ts.length : Int)
  refine Ev.bind (ev_impl_usesOf n t (ts.length : Int) hc.1.1 ht u u1 u2) ?_
  by_cases hr : RidesP n t
  · rw [u1 hr, wrap_id (x := (t.f1.length : Int) - 1) (by omega) (by omega)]
    refine Ev.pos rfl (Ev.pos (by omega) (Ev.pos (by omega) ?_))
    have hv : pushV n ts t h = firstI 121 (PushP n ts t h) := by unfold pushV; rw [if_pos ⟨hc, ht, h24, hF, hr⟩]
    rw [hv]
    have hD := (call_bd ht (i := (t.f1.length : Int) - 1) (by omega) (by omega)).2
    refine ev_scan2 121 (fun b => ¬ PushP n ts t h b) (fun b => (b : Int)) (fun k b => impl_PushOf.l0 k t h (usesTo n ts ts.length) (usesV n t (ts.length : Int) (t.f1.length - 1), true) (b : Int)) (fun b hb2 hp hq => firstI_eq hb2 (Classical.not_not.1 hp) hq) ?_ ?_
    · intro b hb2 hpre hnx hx
      refine Ev.step (fun k => by simp only [impl_PushOf.l0]; rfl) ?_
      rw [wrap_succ hb2 (by omega), wrap_id (x := (t.f1.length : Int) - 1) (by omega) (by omega), wrap_id (x := (at_ t.f1 ((t.f1.length : Int) - 1)).f2 + (b : Int)) (by omega) (by omega)]
      refine Ev.pos (by omega) (Ev.ite (fun g => ?_) (fun g => ?_))
      · refine Ev.bind (ev_impl_meetAny n ts t h b hc ht h24 hr (by omega) (decide (CrossP n ts (movedV t (b : Int)) h)) decide_eq_true_iff) ?_
        exact Ev.ite (fun w => hnx fun v => v.2 (of_decide_eq_true w)) (fun w => ev_val (hx fun v => v ⟨g, fun z => w (decide_eq_true z)⟩).symm)
      · refine ev_val (firstI_no fun j hj hpj => ?_).symm
        rcases Nat.lt_or_ge j b with w | w
        · exact hpre j w hpj
        · have h1 := hpj.1
          unfold lastD at h1
          omega
    · intro hp
      refine Ev.step (fun k => by simp only [impl_PushOf.l0]; rfl) ?_
      exact Ev.neg (by omega) (ev_val (firstI_no hp).symm)
  · rw [u2 hr]
    exact Ev.neg (by decide) (bad fun g => hr g.2.2.2.2)
theorem pushV_lo (n : S46) (ts : List S66) (t : S66) (h : Int) : -1 ≤ pushV n ts t h ∧ pushV n ts t h ≤ 120 := by
  have := firstI_lo 121 (PushP n ts t h)
  unfold pushV
  split <;> omega
theorem at_ext {α : Type} [Inhabited α] {xs ys : List α} (hl : ys.length = xs.length) (h : ∀ k : Nat, k < xs.length → at_ ys (k : Int) = at_ xs (k : Int)) : ys = xs := by
  refine List.ext_getElem hl fun k h1 h2 => ?_
  have := h k h2
  rwa [at_nat h1, at_nat h2] at this
theorem ev_impl_Moved (t : S66) (by_ : Int) (h : TripP t) (h0 : 0 ≤ by_ ∧ by_ ≤ 100000) : Ev (fun k => impl_Moved.f k t by_) (mvV t by_) := by
  classical
  have hl := h.2.1
  have hb := trip_bdd h
  unfold impl_Moved.f impl_cloneTrip.f
  refine Ev.bind (ev_impl_TripOk t hb.1 hb.2 true (by simp [h])) (Ev.pos rfl (Ev.opt (eq_impl_between _ _ _) (Ev.pos (decide_eq_true (by omega)) ?_)))
  rw [List.nil_append]
  refine Ev.bind (Ev.pos (by simp only [List.length_nil]; omega) (ev_val rfl) : Ev (fun k => if (([] : List S89).length + t.f1.length) * 24 ≤ 70368744177664 then some (⟨t.f0, t.f1⟩ : S66) else none) ⟨t.f0, t.f1⟩) (Evx.ev ?_)
  refine evx_loop (fun k i (xs : List S89) => impl_Moved.l0 k by_ ⟨t.f0, t.f1⟩ xs (i : Int)) t.f1.length (fun i xs => xs.length = t.f1.length ∧ (∀ k : Nat, k < i → at_ xs (k : Int) = mvC by_ (at_ t.f1 (k : Int))) ∧ ∀ k : Nat, i ≤ k → at_ xs (k : Int) = at_ t.f1 (k : Int)) _ ?_ ?_ t.f1 ⟨rfl, fun k hk => by omega, fun k _ => rfl⟩
  · intro i xs hi ⟨i1, i2, i3⟩ hn
    have hc := call_bd h (i := (i : Int)) (by omega) (by omega)
    have e := i3 i (Nat.le_refl _)
    refine Evx.step (fun k => by simp only [impl_Moved.l0]; rfl) ?_
    rw [e, wrap_succ hi (by omega), wrap_id (x := (at_ t.f1 (i : Int)).f1 + by_) (by omega) (by omega), wrap_id (x := (at_ t.f1 (i : Int)).f2 + by_) (by omega) (by omega), Int.toNat_natCast]
    refine Evx.pos (by omega) (Evx.pos (by omega) (Evx.pos (by omega) (hn _ ⟨by rw [List.length_set]; exact i1, fun k hk => ?_, fun k hk => ?_⟩)))
    · by_cases ek : k = i
      · rw [ek, at_set_eq (by omega)]; rfl
      · rw [at_set_ne (by omega) (by omega)]; exact i2 k (by omega)
    · rw [at_set_ne (by omega) (by omega)]; exact i3 k (by omega)
  · intro xs ⟨i1, i2, _⟩
    have e : xs = (movedV t by_).f1 := at_ext (by rw [i1, mv_len]) (fun k hk => by rw [mv_len] at hk; rw [i2 k hk, mv_at t by_ (by omega) (by omega)])
    refine Evx.step (fun k => by simp only [impl_Moved.l0]; rfl) ?_
    refine Evx.neg (by omega) ?_
    have e2 : (⟨t.f0, xs⟩ : S66) = movedV t by_ := by rw [e]; rfl
    rw [e2]
    refine Evx.bindv (ev_impl_TripOk (movedV t by_) hb.1 (by rw [mv_len]; exact hb.2) (decide (TripP (movedV t by_))) decide_eq_true_iff) (Evx.of ?_ rfl)
    unfold mvV
    by_cases g : lastD t + by_ ≤ 100000
    · rw [if_pos g]
      exact Ev.pos (decide_eq_true ((mv_trip h h0.1).2 g)) (ev_val rfl)
    · rw [if_neg g]
      exact Ev.neg (fun q => g ((mv_trip h h0.1).1 (of_decide_eq_true q))) (ev_val rfl)
open Classical in
/-- What is settled after i trips, if it can be. -/
noncomputable def setG (n : S46) (ts : List S66) (h : Int) : Nat → Option (List S66 × List Int)
  | 0 => some ([], [])
  | i + 1 => match setG n ts h i with
    | none => none
    | some r => if pushV n r.1 (at_ ts (i : Int)) h < 0 then none else some (r.1 ++ [mvV (at_ ts (i : Int)) (pushV n r.1 (at_ ts (i : Int)) h)], r.2 ++ [pushV n r.1 (at_ ts (i : Int)) h])
theorem setG_succ (n : S46) (ts : List S66) (h : Int) (i : Nat) : setG n ts h (i + 1) = match setG n ts h i with
    | none => none
    | some r => if pushV n r.1 (at_ ts (i : Int)) h < 0 then none else some (r.1 ++ [mvV (at_ ts (i : Int)) (pushV n r.1 (at_ ts (i : Int)) h)], r.2 ++ [pushV n r.1 (at_ ts (i : Int)) h]) := rfl
theorem push_ok {n : S46} {ts : List S66} {t : S66} {h : Int} (hp : ¬ pushV n ts t h < 0) : (CleanP n ts h ∧ TripP t ∧ ts.length < 24 ∧ FreshP ts t.f0 ∧ RidesP n t) ∧ 0 ≤ pushV n ts t h ∧ pushV n ts t h ≤ 120 ∧ PushP n ts t h (pushV n ts t h).toNat := by
  classical
  have hlo := pushV_lo n ts t h
  unfold pushV at hp hlo ⊢
  split at hp
  · rename_i hc
    rw [if_pos hc] at hlo ⊢
    exact ⟨hc, by omega, hlo.2, firstI_at (by omega)⟩
  · omega
/-- What is settled is clean, and each of it is pushed. -/
theorem setG_ok {n : S46} {ts : List S66} {h : Int} (hN : NetP n) (hh : 0 ≤ h ∧ h ≤ 60) : ∀ (i : Nat) (r : List S66 × List Int), setG n ts h i = some r → CleanP n r.1 h ∧ r.1.length = i ∧ r.2.length = i ∧ ∀ k : Nat, k < i → (0 ≤ at_ r.2 (k : Int) ∧ at_ r.2 (k : Int) ≤ 120) ∧ at_ r.1 (k : Int) = mvV (at_ ts (k : Int)) (at_ r.2 (k : Int))
  | 0, r, e => by
    simp only [setG, Option.some.injEq] at e
    subst e
    exact ⟨⟨⟨hN, ⟨by decide, fun i hi => absurd hi (by simp)⟩, fun i hi => absurd hi (by simp)⟩, hh, fun i j _ hj => absurd hj (by simp [usesTo])⟩, rfl, rfl, fun k hk => by omega⟩
  | i + 1, r, e => by
    rw [setG_succ] at e
    split at e
    · cases e
    · rename_i r0 e0
      obtain ⟨c1, c2, c3, c4⟩ := setG_ok hN hh i r0 e0
      split at e
      · cases e
      · rename_i hp
        have e := Option.some.inj e
        subst e
        obtain ⟨⟨_, p2, p3, p4, p5⟩, p6, p7, p8⟩ := push_ok hp
        generalize pushV n r0.1 (at_ ts (i : Int)) h = p at p6 p7 p8 ⊢
        have hcl := (push_clean c1 p2 p.toNat).2 ⟨⟨p3, p4, p5⟩, p8⟩
        rw [show ((p.toNat : Nat) : Int) = p by omega] at hcl
        refine ⟨hcl, by simp only [List.length_append, List.length_singleton]; omega, by simp only [List.length_append, List.length_singleton]; omega, fun k hk => ?_⟩
        dsimp only
        by_cases ek : k = i
        · subst ek
          rw [← c2, at_app_last, c2, ← c3, at_app_last]
          exact ⟨⟨p6, p7⟩, rfl⟩
        · rw [at_app_left _ _ (by omega) (by omega), at_app_left _ _ (by omega) (by omega)]
          exact c4 k (by omega)
theorem usesTo_congr {n : S46} {ts ts' : List S66} : ∀ i : Nat, (∀ j : Nat, j < i → at_ ts (j : Int) = at_ ts' (j : Int)) → usesTo n ts i = usesTo n ts' i
  | 0, _ => rfl
  | i + 1, h => by rw [usesTo_succ, usesTo_succ, usesTo_congr i (fun j hj => h j (by omega)), h i (by omega)]
theorem usesTo_pre (n : S46) (ts : List S66) (i : Nat) : ∀ m : Nat, i ≤ m → (usesTo n ts i).length ≤ (usesTo n ts m).length ∧ ∀ k : Nat, k < (usesTo n ts i).length → at_ (usesTo n ts m) (k : Int) = at_ (usesTo n ts i) (k : Int)
  | 0, h => by obtain rfl : i = 0 := by omega
               exact ⟨Nat.le_refl _, fun k _ => rfl⟩
  | m + 1, h => by
    by_cases e : i = m + 1
    · rw [e]; exact ⟨Nat.le_refl _, fun k _ => rfl⟩
    · obtain ⟨h1, h2⟩ := usesTo_pre n ts i m (by omega)
      rw [usesTo_succ]
      refine ⟨by rw [List.length_append]; omega, fun k hk => ?_⟩
      rw [at_app_left _ _ (by omega) (by omega)]
      exact h2 k hk
theorem clean_take {n : S46} {ts : List S66} {h : Int} (hc : CleanP n ts h) {i : Nat} (hi : i ≤ ts.length) : CleanP n (ts.take i) h := by
  obtain ⟨⟨hN, hT, hR⟩, hh, hp⟩ := hc
  have hl : (ts.take i).length = i := by rw [List.length_take]; omega
  have hat : ∀ j : Nat, j < i → at_ (ts.take i) (j : Int) = at_ ts (j : Int) := fun j hj => at_take ts (by omega) (by omega)
  have hu : usesTo n (ts.take i) (ts.take i).length = usesTo n ts i := by rw [hl]; exact usesTo_congr i hat
  refine ⟨⟨hN, ⟨by have := hT.1; omega, fun j hj => ?_⟩, fun j hj => ?_⟩, hh, fun a b hab hb => ?_⟩
  · rw [hl] at hj
    have := hT.2 j (by omega)
    unfold NewP at this ⊢
    rw [hat j hj]
    refine ⟨this.1, fun q hq => ?_⟩
    rw [hat q (by omega)]
    exact this.2 q hq
  · rw [hl] at hj
    rw [hat j hj]; exact hR j (by omega)
  · rw [hu] at hb ⊢
    obtain ⟨h1, h2⟩ := usesTo_pre n ts i ts.length hi
    have := hp a b hab (by omega)
    unfold PairP at this ⊢
    rw [h2 a (by omega), h2 b hb] at this
    exact this
theorem mv_zero (t : S66) : movedV t 0 = t := by
  unfold movedV
  have : t.f1.map (mvC 0) = t.f1 := by
    conv => rhs; rw [← List.map_id t.f1]
    refine List.map_congr_left fun c _ => ?_
    unfold mvC
    rw [Int.add_zero, Int.add_zero]
    rfl
  rw [this]
/-- Where the plan is clean it stays. -/
theorem setG_clean {n : S46} {ts : List S66} {h : Int} (hc : CleanP n ts h) : ∀ i : Nat, i ≤ ts.length → setG n ts h i = some (ts.take i, List.replicate i 0)
  | 0, _ => rfl
  | i + 1, hi => by
    classical
    rw [setG_succ, setG_clean hc i (by omega)]
    have hci := clean_take hc (i := i) (by omega)
    have hcs := clean_take hc (i := i + 1) hi
    rw [take_succ' (by omega)] at hcs
    have ea : at_ ts (i : Int) = ts[i] := at_nat (by omega)
    obtain ⟨q1, q2, q3, q4, q5⟩ := (clean_with hci _).1 hcs
    have hd := call_bd q2 (i := (ts[i].f1.length : Int) - 1) (by have := q2.2.1; omega) (by omega)
    have hP : PushP n (ts.take i) ts[i] h 0 := ⟨by unfold lastD; have := hd.2.2; omega, by rw [show ((0 : Nat) : Int) = 0 from rfl, mv_zero]; exact q5⟩
    have hv : pushV n (ts.take i) (at_ ts (i : Int)) h = 0 := by
      rw [ea]
      unfold pushV
      rw [if_pos ⟨hci, q2, q1, q3, q4⟩, firstI_eq (by omega) hP (fun j hj => by omega)]
      rfl
    dsimp only
    rw [hv, if_neg (by omega), take_succ' (by omega), ← ea, List.replicate_succ']
    have hm : mvV (at_ ts (i : Int)) 0 = at_ ts (i : Int) := by
      unfold mvV
      rw [if_pos (by rw [ea]; have := hP.1; omega), mv_zero]
    rw [hm]
noncomputable def setV (n : S46) (ts : List S66) (h : Int) : List S66 × List Int := (setG n ts h ts.length).getD ([], [])
theorem setG_none {n : S46} {ts : List S66} {h : Int} {i : Nat} (hi : setG n ts h i = none) : ∀ m, i ≤ m → setG n ts h m = none
  | 0, hm => by obtain rfl : i = 0 := by omega
                exact hi
  | m + 1, hm => by
    by_cases e : i = m + 1
    · rw [← e]; exact hi
    · rw [setG_succ, setG_none hi m (by omega)]
theorem table_bdd {ts : List S66} (h : TableP ts) : TableB ts := ⟨by have := h.1; omega, fun y hy => by
  obtain ⟨i, hi, rfl⟩ := mem_at.1 hy
  exact trip_bdd (h.2 i hi).1⟩
theorem setG_head {n : S46} {ts : List S66} {h : Int} {i : Nat} {r : List S66 × List Int} (e : setG n ts h (i + 1) = some r) : NetP n ∧ (0 ≤ h ∧ h ≤ 60) := by
  rw [setG_succ] at e
  split at e
  · cases e
  · rename_i r0 e0
    split at e
    · cases e
    · rename_i hp
      obtain ⟨⟨p1, _⟩, _⟩ := push_ok hp
      exact ⟨p1.1.1, p1.2.1⟩
theorem setG_gen {n : S46} {ts : List S66} {h : Int} : ∀ (i : Nat) (r : List S66 × List Int), setG n ts h i = some r → r.1.length = i ∧ r.2.length = i ∧ TableB r.1 ∧ (0 < i → CleanP n r.1 h) ∧ i ≤ 24
  | 0, r, e => by
    simp only [setG, Option.some.injEq] at e
    subst e
    exact ⟨rfl, rfl, ⟨by decide, fun y hy => absurd hy (by simp)⟩, fun g => absurd g (by decide), by decide⟩
  | i + 1, r, e => by
    obtain ⟨hN, hh⟩ := setG_head e
    obtain ⟨c1, c2, c3, _⟩ := setG_ok hN hh (i + 1) r e
    exact ⟨c2, c3, table_bdd c1.1.2.1, fun _ => c1, by have := c1.1.2.1.1; omega⟩
theorem setG_trips {n : S46} {ts : List S66} {h : Int} : ∀ (i : Nat) (r : List S66 × List Int), setG n ts h i = some r → ∀ k : Nat, k < i → TripP (at_ ts (k : Int)) ∧ RidesP n (at_ ts (k : Int)) ∧ (at_ r.1 (k : Int)).f0 = (at_ ts (k : Int)).f0
  | 0, _, _ => fun k hk => by omega
  | i + 1, r, e => by
    rw [setG_succ] at e
    split at e
    · cases e
    · rename_i r0 e0
      have ih := setG_trips i r0 e0
      obtain ⟨c2, c3, _⟩ := setG_gen i r0 e0
      split at e
      · cases e
      · rename_i hp
        have e := Option.some.inj e
        subst e
        obtain ⟨⟨_, p2, p3, p4, p5⟩, p6, p7, p8⟩ := push_ok hp
        generalize pushV n r0.1 (at_ ts (i : Int)) h = p at p6 p7 p8 ⊢
        intro k hk
        dsimp only
        by_cases ek : k = i
        · subst ek
          refine ⟨p2, p5, ?_⟩
          rw [← c2, at_app_last, c2]
          have hl := p8.1
          rw [show ((p.toNat : Nat) : Int) = p by omega] at hl
          unfold mvV
          rw [if_pos hl]
          rfl
        · rw [at_app_left _ _ (by omega) (by omega)]
          exact ih k (by omega)
theorem set_ridden {n : S46} {ts : List S66} {h : Int} {r : List S66 × List Int} (e : setG n ts h ts.length = some r) (h0 : 0 < ts.length) : RiddenP n ts := by
  obtain ⟨c1, c2, _, c4, _⟩ := setG_gen _ r e
  have ht := setG_trips _ r e
  obtain ⟨⟨hN, hT, hR⟩, _, _⟩ := c4 h0
  refine ⟨hN, ⟨by have := hT.1; omega, fun i hi => ⟨(ht i hi).1, fun j hj => ?_⟩⟩, fun i hi => (ht i hi).2.1⟩
  have := (hT.2 i (by omega)).2 j hj
  rwa [(ht i hi).2.2, (ht j (by omega)).2.2] at this
theorem setV_not {n : S46} {ts : List S66} {h : Int} (hr : ¬ RiddenP n ts) : setV n ts h = ([], []) := by
  unfold setV
  cases e : setG n ts h ts.length with
  | none => rfl
  | some r =>
    by_cases h0 : 0 < ts.length
    · exact absurd (set_ridden e h0) hr
    · have : ts.length = 0 := by omega
      rw [this] at e
      simp only [setG, Option.some.injEq] at e
      subst e
      rfl
theorem setV_bd (n : S46) (ts : List S66) (h : Int) : TableB (setV n ts h).1 ∧ (setV n ts h).2.length ≤ 1048576 := by
  unfold setV
  cases e : setG n ts h ts.length with
  | none => exact ⟨⟨by decide, fun y hy => absurd hy (by simp)⟩, by decide⟩
  | some r =>
    obtain ⟨_, c2, c3, _, c5⟩ := setG_gen _ r e
    exact ⟨c3, by show r.2.length ≤ _; omega⟩
theorem ev_impl_SettleA (n : S46) (ts : List S66) (h : Int) (hn : n.f1.length ≤ 1048576) (hB : TableB ts) : Ev (fun k => impl_Settle.f k n ts h) (setV n ts h) := by
  classical
  have hl1 := hB.1
  unfold impl_Settle.f
  have key := evx_loop (fun k i (s : List S66 × List Int) => impl_Settle.l0 k n ts h s.1 s.2 (i : Int)) ts.length (fun i s => setG n ts h i = some s) (fun r => r = setV n ts h) ?_ ?_ ([], []) rfl
  · exact Evx.ev key
  · intro i s hi hI hnx
    obtain ⟨c2, c3, cB, c1, c24⟩ := setG_gen i s hI
    have htB := hB.2 _ (at_mem (xs := ts) (i := (i : Int)) (by omega) (by omega))
    refine Evx.step (fun k => by simp only [impl_Settle.l0]; rfl) ?_
    rw [wrap_succ hi (by omega)]
    refine Evx.pos (by omega) (Evx.pos (by omega) (Evx.bindv (ev_impl_PushOf n s.1 (at_ ts (i : Int)) h (by omega) cB htB) (Evx.ite (fun g => ?_) (fun g => ?_))))
    · refine Evx.val ?_
      have : setG n ts h (i + 1) = none := by rw [setG_succ, hI]; dsimp only; rw [if_pos g]
      unfold setV
      rw [setG_none this ts.length hi]
      rfl
    · obtain ⟨⟨_, ht, _⟩, p6, p7, _⟩ := push_ok g
      refine Evx.bindv (ev_impl_Moved _ _ ht ⟨p6, by omega⟩) (Evx.pos (by simp only [List.length_cons, List.length_nil]; omega) (Evx.pos (by simp only [List.length_cons, List.length_nil]; omega) (hnx (_, _) ?_)))
      rw [setG_succ, hI]; dsimp only; rw [if_neg g]
  · intro s hI
    refine Evx.step (fun k => by simp only [impl_Settle.l0]; rfl) ?_
    refine Evx.neg (by omega) (Evx.val ?_)
    unfold setV
    rw [hI]
    rfl
theorem ev_spec_SettleA (n : S46) (ts : List S66) (h : Int) (hR : RiddenP n ts) : Ev (fun k => spec_Settle.f k n ts h) (setV n ts h) := by
  classical
  have hN := hR.1
  have hT := hR.2.1
  have h24 := hT.1
  have hn := hN.2.1
  unfold spec_Settle.f
  refine Ev.bind (ev_spec_Ridden n ts (by omega) (table_bdd hT) true (by simp [hR])) (Ev.pos rfl ?_)
  have key := evx_loop (fun k i (s : List S66 × List Int) => spec_Settle.l0 k n ts h s.1 s.2 (i : Int)) ts.length (fun i s => setG n ts h i = some s) (fun r => r = setV n ts h) ?_ ?_ ([], []) rfl
  · exact Evx.ev key
  · intro i s hi hI hnx
    obtain ⟨c2, c3, cB, c1, c24⟩ := setG_gen i s hI
    have htB := trip_bdd (hT.2 i hi).1
    refine Evx.step (fun k => by simp only [spec_Settle.l0]; rfl) ?_
    rw [wrap_succ hi (by omega)]
    refine Evx.pos (by omega) (Evx.pos (by omega) (Evx.bindv (ev_spec_PushOf n s.1 (at_ ts (i : Int)) h (by omega) cB htB) (Evx.ite (fun g => ?_) (fun g => ?_))))
    · refine Evx.val ?_
      have : setG n ts h (i + 1) = none := by rw [setG_succ, hI]; dsimp only; rw [if_pos g]
      unfold setV
      rw [setG_none this ts.length hi]
      rfl
    · obtain ⟨⟨_, ht, _⟩, p6, p7, _⟩ := push_ok g
      refine Evx.bindv (ev_spec_Moved _ _ ht ⟨p6, by omega⟩) (Evx.bindv (ev_spec_l09With s.1 _ (by omega)) (Evx.pos (by simp only [List.length_cons, List.length_nil]; omega) (hnx (_, _) ?_)))
      rw [setG_succ, hI]; dsimp only; rw [if_neg g]
  · intro s hI
    refine Evx.step (fun k => by simp only [spec_Settle.l0]; rfl) ?_
    refine Evx.neg (by omega) (Evx.val ?_)
    unfold setV
    rw [hI]
    rfl
-- strings as lists of bytes
def byt (s : ByteArray) : List UInt8 := s.data.toList
theorem byt_len (s : ByteArray) : (byt s).length = s.size := by unfold byt ByteArray.size; exact Array.length_toList
theorem byt_mk (l : List UInt8) : byt ⟨l.toArray⟩ = l := by simp [byt]
theorem byt_app (a b : ByteArray) : byt (a ++ b) = byt a ++ byt b := by simp [byt, ByteArray.data_append]
theorem byt_ext {a b : ByteArray} (h : byt a = byt b) : a = b := by
  cases a with | mk x => cases b with | mk y => 
  congr 1
  exact Array.toList_inj.1 h
theorem mk_byt (s : ByteArray) : (⟨(byt s).toArray⟩ : ByteArray) = s := byt_ext (byt_mk _)
theorem bt_eq (s : ByteArray) {i : Nat} (h : i < (byt s).length) : bt s (i : Int) = ((byt s)[i].toNat : Int) := by
  have h2 : i < s.size := by rw [← byt_len]; exact h
  unfold bt
  rw [dif_pos (by rw [Int.toNat_natCast]; exact h2)]
  rfl
def ChU (b : UInt8) : Prop := (97 ≤ b.toNat ∧ b.toNat ≤ 122) ∨ (48 ≤ b.toNat ∧ b.toNat ≤ 57)
theorem name_iff (s : ByteArray) : NameP s ↔ (1 ≤ (byt s).length ∧ (byt s).length ≤ 12) ∧ ∀ b, b ∈ byt s → ChU b := by
  unfold NameP
  rw [byt_len]
  refine and_congr Iff.rfl ⟨fun h b hb => ?_, fun h i hi => ?_⟩
  · obtain ⟨i, hi, rfl⟩ := List.getElem_of_mem hb
    have := h i (by rw [← byt_len]; exact hi)
    rw [bt_eq s hi] at this
    unfold ChP at this
    unfold ChU
    omega
  · have hi2 : i < (byt s).length := by rw [byt_len]; exact hi
    have := h _ (List.getElem_mem hi2)
    rw [bt_eq s hi2]
    unfold ChU at this
    unfold ChP
    omega
/-- The decimal digits. -/
def dec (n : Nat) : List UInt8 := if h : n < 10 then [UInt8.ofNat (48 + n)] else dec (n / 10) ++ [UInt8.ofNat (48 + n % 10)]
termination_by n
theorem dec_lt {n : Nat} (h : n < 10) : dec n = [UInt8.ofNat (48 + n)] := by rw [dec, dif_pos h]
theorem dec_ge {n : Nat} (h : ¬ n < 10) : dec n = dec (n / 10) ++ [UInt8.ofNat (48 + n % 10)] := by rw [dec, dif_neg h]
def decZ (n : Nat) : List UInt8 := if n = 0 then [] else dec n
theorem decZ_step {n : Nat} (h : n ≠ 0) : decZ n = decZ (n / 10) ++ [UInt8.ofNat (48 + n % 10)] := by
  unfold decZ
  rw [if_neg h]
  by_cases g : n < 10
  · rw [dec_lt g, if_pos (by omega), Nat.mod_eq_of_lt g]; rfl
  · rw [dec_ge g, if_neg (by omega)]
theorem dig_nat {d : Nat} (h : d < 10) : (UInt8.ofNat (48 + d)).toNat = 48 + d := by
  rw [UInt8.toNat_ofNat']
  omega
theorem dec_dig (n : Nat) : ∀ b, b ∈ dec n → 48 ≤ b.toNat ∧ b.toNat ≤ 57 := by
  induction n using Nat.strongRecOn with
  | ind n ih =>
    intro b hb
    by_cases g : n < 10
    · rw [dec_lt g, List.mem_singleton] at hb
      rw [hb, dig_nat g]; omega
    · rw [dec_ge g, List.mem_append, List.mem_singleton] at hb
      rcases hb with hb | hb
      · exact ih (n / 10) (by omega) b hb
      · rw [hb, dig_nat (by omega)]; omega
theorem dec_len_le : ∀ (k n : Nat), n < 10 ^ (k + 1) → (dec n).length ≤ k + 1 := by
  intro k
  induction k with
  | zero => intro n h; rw [dec_lt (by simpa using h)]; simp
  | succ k ih =>
    intro n h
    by_cases g : n < 10
    · rw [dec_lt g]; simp
    · rw [dec_ge g, List.length_append, List.length_singleton]
      have := ih (n / 10) (by rw [Nat.pow_succ] at h; omega)
      omega
theorem dec_len_pos (n : Nat) : 1 ≤ (dec n).length := by
  by_cases g : n < 10
  · rw [dec_lt g]; simp
  · rw [dec_ge g]; simp
theorem ofs_u8 {d : Int} (h0 : 0 ≤ d) (h1 : d < 10) : UInt8.ofNat (IntKind.u8.wrap (wrap64 (48 + d))).toNat = UInt8.ofNat (48 + d.toNat) := by
  rw [wrap_id (by omega) (by omega)]
  have e : IntKind.u8.wrap (48 + d) = 48 + d := by
    have h2 : d = 0 ∨ d = 1 ∨ d = 2 ∨ d = 3 ∨ d = 4 ∨ d = 5 ∨ d = 6 ∨ d = 7 ∨ d = 8 ∨ d = 9 := by omega
    rcases h2 with rfl | rfl | rfl | rfl | rfl | rfl | rfl | rfl | rfl | rfl <;> decide
  rw [e]
  congr 1
  omega
-- marks of trips
theorem ev_markText (n : Nat) (h0 : 0 < n) (hn : n < 10 ^ 17) : Ev (fun k => laws_markText.f k (n : Int)) ⟨(109 :: dec n).toArray⟩ := by
  unfold laws_markText.f
  refine Ev.neg (by omega) ?_
  have fin : ∀ s : ByteArray, s.size ≤ 1000 → Ev (fun _ => if (⟨#[109]⟩ : ByteArray).size + s.size ≤ 9223372036854775807 then some ((⟨#[109]⟩ : ByteArray) ++ s) else none) ⟨(109 :: byt s).toArray⟩ := by
    intro s hs
    refine Ev.pos (by show 1 + s.size ≤ _; omega) (ev_val (byt_ext ?_))
    rw [byt_app]; exact (byt_mk (109 :: byt s)).symm
  have key : ∀ j m : Nat, m < 10 ^ j → m < 10 ^ 17 → ∀ s : ByteArray, s.size + j ≤ 1000 → Ev (fun k => laws_markText.l0 k (m : Int) s) ⟨(109 :: (decZ m ++ byt s)).toArray⟩ := by
    intro j
    induction j with
    | zero =>
      intro m hm _ s hs
      obtain rfl : m = 0 := by simpa using hm
      refine Ev.step (fun k => by simp only [laws_markText.l0]; rfl) ?_
      exact Ev.neg (by omega) (fin s (by omega))
    | succ j ih =>
      intro m hm hm2 s hs
      refine Ev.step (fun k => by simp only [laws_markText.l0]; rfl) ?_
      refine Ev.ite (fun g => ?_) (fun g => ?_)
      · have hmod : ((m : Int).tmod 10) = ((m % 10 : Nat) : Int) := by rw [tmod_of 10 (by omega)]; omega
        have hdiv : wrap64 ((m : Int).tdiv 10) = ((m / 10 : Nat) : Int) := by rw [tdiv_of 10 (by omega), wrap_id (by omega) (by omega)]; omega
        rw [hmod, hdiv, ofs_u8 (by omega) (by omega), Int.toNat_natCast]
        refine Ev.pos (by show 1 + s.size ≤ _; omega) ?_
        have e : (decZ m ++ byt s) = decZ (m / 10) ++ byt ((⟨#[UInt8.ofNat (48 + m % 10)]⟩ : ByteArray) ++ s) := by
          rw [byt_app, decZ_step (by omega), List.append_assoc]; rfl
        rw [e]
        refine ih (m / 10) (by rw [Nat.pow_succ] at hm; omega) (by omega) _ ?_
        rw [ByteArray.size_append]
        show 1 + s.size + j ≤ _
        omega
      · obtain rfl : m = 0 := by omega
        exact fin s (by omega)
  have := key 17 n hn hn ⟨#[]⟩ (by decide)
  have e : decZ n ++ byt ⟨#[]⟩ = dec n := by unfold decZ; rw [if_neg (by omega)]; simp [byt]
  rw [e] at this
  exact this
def mkN (x : List S66) (a : Int) : Nat → Int
  | 0 => a
  | i + 1 => mkN x a i + 1 + 3 * ((at_ x (i : Int)).f1.length : Int)
def mkT (a : Int) : ByteArray := ⟨(109 :: dec a.toNat).toArray⟩
def mkE (x : List S66) (a : Int) (i : Nat) : S66 := ⟨mkT (mkN x a i), mkd_CallS (at_ x (i : Int)).f1.length (mkN x a i + 1)⟩
def mkL (x : List S66) (a : Int) : List S66 := (List.range x.length).map (mkE x a)
theorem mkL_len (x : List S66) (a : Int) : (mkL x a).length = x.length := by simp [mkL]
theorem mkL_at (x : List S66) (a : Int) {i : Nat} (h : i < x.length) : at_ (mkL x a) (i : Int) = mkE x a i := by
  rw [at_nat (by rw [mkL_len]; exact h)]
  simp [mkL]
theorem mkN_bd {x : List S66} (hb : ∀ y ∈ x, (y.f0.size ≤ 1048576 ∧ (y.f1.length ≤ 1048576))) (a : Int) : ∀ i : Nat, i ≤ x.length → a ≤ mkN x a i ∧ mkN x a i ≤ a + 3145729 * (i : Int)
  | 0, _ => ⟨Int.le_refl _, by show a ≤ _; omega⟩
  | i + 1, hi => by
    have ih := mkN_bd hb a i (by omega)
    have h1 := (hb _ (at_mem (xs := x) (i := (i : Int)) (by omega) (by omega))).2
    show a ≤ mkN x a i + 1 + 3 * ((at_ x (i : Int)).f1.length : Int) ∧ _ ≤ _
    constructor
    · omega
    · show mkN x a i + 1 + 3 * ((at_ x (i : Int)).f1.length : Int) ≤ _
      omega
theorem mk_ext {α : Type} [Inhabited α] {xs ys : List α} (hl : ys.length = xs.length) (h : ∀ k : Nat, k < xs.length → at_ ys (k : Int) = at_ xs (k : Int)) : ys = xs := by
  refine List.ext_getElem hl fun k h1 h2 => ?_
  have := h k h2
  rwa [at_nat h1, at_nat h2] at this
theorem mark_TripS (x : List S66) (hb : x.length ≤ 1048576 ∧ ∀ y ∈ x, (y.f0.size ≤ 1048576 ∧ (y.f1.length ≤ 1048576))) (a : Int) (h0 : 1 ≤ a) (h1 : a ≤ 1099511627776) : Ev (fun k => laws_markTripS.f k x a) (mkN x a x.length, mkL x a) := by
  unfold laws_markTripS.f
  refine Evx.ev (evx_loop (fun k i (xs : List S66) => laws_markTripS.l0 k xs (mkN x a i) (i : Int)) x.length (fun i xs => xs.length = x.length ∧ (∀ k : Nat, k < i → at_ xs (k : Int) = mkE x a k) ∧ ∀ k : Nat, i ≤ k → at_ xs (k : Int) = at_ x (k : Int)) _ ?_ ?_ x ⟨rfl, fun k hk => by omega, fun k _ => rfl⟩)
  · intro i xs hi ⟨i1, i2, i3⟩ hn
    have hbd := mkN_bd hb.2 a i (by omega)
    have hl := (hb.2 _ (at_mem (xs := x) (i := (i : Int)) (by omega) (by omega))).2
    have e := i3 i (Nat.le_refl _)
    have ht := ev_markText (mkN x a i).toNat (by omega) (by omega)
    rw [show (((mkN x a i).toNat : Nat) : Int) = mkN x a i by omega] at ht
    refine Evx.step (fun k => by simp only [laws_markTripS.l0]; rfl) ?_
    rw [wrap_succ hi (by omega), wrap_id (x := mkN x a i + 1) (by omega) (by omega), Int.toNat_natCast]
    refine Evx.pos (by omega) (Evx.bindv ht (Evx.pos (by omega) ?_))
    rw [at_set_eq (by omega), e]
    dsimp only
    refine Evx.bindv (mark_CallS (at_ x (i : Int)).f1 (by omega) _ (by omega) (by omega)) ?_
    have e2 : mkN x a (i + 1) = mkN x a i + 1 + 3 * ((at_ x (i : Int)).f1.length : Int) := rfl
    dsimp only
    rw [← e2, List.set_set]
    refine hn _ ⟨by rw [List.length_set]; exact i1, fun k hk => ?_, fun k hk => ?_⟩
    · by_cases ek : k = i
      · rw [ek, at_set_eq (by omega)]; rfl
      · rw [at_set_ne (by omega) (by omega)]; exact i2 k (by omega)
    · rw [at_set_ne (by omega) (by omega)]; exact i3 k (by omega)
  · intro xs ⟨i1, i2, _⟩
    have e : xs = mkL x a := mk_ext (by rw [i1, mkL_len]) (fun k hk => by rw [mkL_len] at hk; rw [i2 k hk, mkL_at x a hk])
    subst e
    refine Evx.step (fun k => by simp only [laws_markTripS.l0]; rfl) ?_
    rw [mkL_len]
    exact Evx.neg (by omega) (Evx.val rfl)
theorem mkN_nn {x : List S66} (hb : ∀ y ∈ x, (y.f0.size ≤ 1048576 ∧ (y.f1.length ≤ 1048576))) {a : Int} {i : Nat} (h : i ≤ x.length) (g : mkN x a i < 0) (h1 : 1 ≤ a) : False := by
  have := (mkN_bd hb a i h).1
  omega
theorem held_TripS (x : List S66) (hb : x.length ≤ 1048576 ∧ ∀ y ∈ x, (y.f0.size ≤ 1048576 ∧ (y.f1.length ≤ 1048576))) (a : Int) (h0 : 1 ≤ a) (h1 : a ≤ 1099511627776) : Ev (fun k => laws_heldTripS.f k (mkL x a) a) (mkN x a x.length) := by
  unfold laws_heldTripS.f
  refine ev_fold (fun k i => laws_heldTripS.l0 k (mkL x a) (mkN x a i) (i : Int)) x.length ?_ ?_
  · intro i hi hn
    have hbd := mkN_bd hb.2 a i (by omega)
    have hl := (hb.2 _ (at_mem (xs := x) (i := (i : Int)) (by omega) (by omega))).2
    have ht := ev_markText (mkN x a i).toNat (by omega) (by omega)
    rw [show (((mkN x a i).toNat : Nat) : Int) = mkN x a i by omega] at ht
    refine Ev.step (fun k => by simp only [laws_heldTripS.l0]; rfl) ?_
    rw [mkL_len, mkL_at x a hi, wrap_succ hi (by omega), wrap_id (x := mkN x a i + 1) (by omega) (by omega)]
    refine Ev.pos (by omega) (Ev.pos (by omega) (Ev.bind ht (Ev.pos ?_ ?_)))
    · unfold mkE mkT; simp [sEq]
    · have e2 : mkN x a (i + 1) = mkN x a i + 1 + 3 * ((at_ x (i : Int)).f1.length : Int) := rfl
      rw [e2] at hn
      refine Ev.bind (held_CallS (at_ x (i : Int)).f1.length (by omega) (mkN x a i + 1) (by omega) (by omega)) (Ev.neg (by omega) hn)
  · refine Ev.step (fun k => by simp only [laws_heldTripS.l0]; rfl) ?_
    rw [mkL_len]
    exact Ev.neg (by omega) (ev_val rfl)
theorem main_FnExactSettle (x0 : S39) (x1 : (List S61)) (x2 : Int) (h0 : ok39 x0) (h1 : (x1.length ≤ maxLen ∧ ∀ y ∈ x1, ok61 y)) (h2 : (Lit.int .i64 x2).wf = true) (b0 : ((x0.f1.length ≤ 1048576))) (b1 : (x1.length ≤ 1048576 ∧ ∀ y ∈ x1, (y.f0.size ≤ 1048576 ∧ (y.f1.length ≤ 1048576)))) : ∃ w, Ev (fun k => spec_Settle.f k (cv39_46 x0) (x1.map cv61_66) x2) w ∧ Ev (fun k => impl_Settle.f k (cv39_46 x0) (x1.map cv61_66) x2) w ∧ ((w.1.length ≤ 1048576 ∧ ∀ y ∈ w.1, (y.f0.size ≤ 1048576 ∧ (y.f1.length ≤ 1048576))) ∧ w.2.length ≤ 1048576) := by
  classical
  have hB := trips_bd x1 b1 cv61_66 (fun _ => ⟨rfl, rfl⟩)
  generalize x1.map cv61_66 = ts at hB
  have hn : (cv39_46 x0).f1.length ≤ 1048576 := b0
  generalize cv39_46 x0 = n at hn
  refine ⟨setV n ts x2, ?_, ev_impl_SettleA n ts x2 hn hB, setV_bd n ts x2⟩
  by_cases hR : RiddenP n ts
  · exact ev_spec_SettleA n ts x2 hR
  · rw [setV_not hR]
    unfold spec_Settle.f
    exact Ev.bind (ev_spec_Ridden n ts hn hB false (by simp [hR])) (Ev.neg (by decide) (ev_val rfl))
theorem pure_FnExactSettle : Pure := by
  intro x0 x1 x2 h0 h1 h2
  refine Ev.rounds ?_
  unfold laws_FnExactSettle.f
  obtain ⟨r0, e0, hr0⟩ := sz_Net x0 1048576 (by omega) (by omega) h0
  refine Ev.bind e0 ?_
  refine Ev.ite (fun _ => ev_val rfl) (fun g0 => ?_)
  obtain ⟨p0, q0, b0⟩ := hr0.resolve_left g0
  obtain ⟨r1, e1, hr1⟩ := sz_TripS x1 r0 (by omega) (by omega) h1
  refine Ev.bind e1 ?_
  refine Ev.ite (fun _ => ev_val rfl) (fun g1 => ?_)
  obtain ⟨p1, q1, b1⟩ := hr1.resolve_left g1
  have c0_1 : x0.f1.length ≤ 1048576 := b0
  have c1 : x1.length ≤ 1048576 := b1.1
  obtain ⟨w, es, ei, hb⟩ := main_FnExactSettle x0 x1 x2 h0 h1 h2 b0 b1
  refine Ev.bind (to_Net x0 b0) ?_
  refine Ev.bind (to_TripS x1 b1) ?_
  refine Ev.bind es ?_
  refine Ev.bind (to_Net x0 b0) ?_
  refine Ev.bind (to_TripS x1 b1) ?_
  refine Ev.bind ei ?_
  refine Ev.bind (eq_TripS _ (by first | exact hb | exact hb.1 | exact hb.2 | trivial)) ?_
  refine Ev.pos (by first | rfl | simp [sEq] | omega) ?_
  refine Ev.bind (eq_IntS _ (by first | exact hb | exact hb.1 | exact hb.2 | trivial)) ?_
  refine Ev.pos (by first | rfl | simp [sEq] | omega) ?_
  refine Ev.bind (to_Net x0 b0) ?_
  refine Ev.bind (eq_Net _ b0) ?_
  refine Ev.pos (by first | rfl | simp [sEq] | omega) ?_
  refine Ev.bind (to_TripS x1 b1) ?_
  refine Ev.bind (eq_TripS _ ⟨by rw [List.length_map]; exact b1.1, fun y hy => by obtain ⟨x, hx, rfl⟩ := List.mem_map.1 hy; exact bd_cv61_66 x (b1.2 x hx)⟩) ?_
  refine Ev.pos (by first | rfl | simp [sEq] | omega) ?_
  refine Ev.bind (mark_Net _ b0 _ (by first | omega | (dsimp only; omega)) (by first | omega | (dsimp only; omega))) ?_
  have hbT_ := (⟨by rw [List.length_map]; exact b1.1, fun y hy => by obtain ⟨x, hx, rfl⟩ := List.mem_map.1 hy; exact bd_cv61_66 x (b1.2 x hx)⟩ : (x1.map cv61_66).length ≤ 1048576 ∧ ∀ y ∈ x1.map cv61_66, (y.f0.size ≤ 1048576 ∧ (y.f1.length ≤ 1048576)))
  have hnW_ := mkN_bd hb.1.2 1 w.1.length (Nat.le_refl _)
  have hlW_ := hb.1.1
  refine Ev.bind (mark_TripS _ hbT_ _ (by first | omega | (dsimp only; omega)) (by first | omega | (dsimp only; omega))) ?_
  refine Ev.neg (fun g_ => mkN_nn hbT_.2 (Nat.le_refl _) g_ (by first | omega | (dsimp only; omega))) ?_
  refine Ev.bind (eq_TripS _ (by first | exact hb | exact hb.1 | exact hb.2 | trivial)) ?_
  refine Ev.pos (by first | rfl | simp [sEq] | omega) ?_
  refine Ev.bind (eq_IntS _ (by first | exact hb | exact hb.1 | exact hb.2 | trivial)) ?_
  refine Ev.pos (by first | rfl | simp [sEq] | omega) ?_
  refine Ev.bind (mark_TripS _ hb.1 _ (by first | omega | (dsimp only; omega)) (by first | omega | (dsimp only; omega))) ?_
  refine Ev.bind (mark_IntS _ (by first | omega | (have := hb; omega) | (have := hb.1; omega) | (have := hb.2; omega) | (rw [List.length_map]; omega)) _ (by first | omega | (dsimp only; omega)) (by first | omega | (dsimp only; omega))) ?_
  refine Ev.bind (held_TripS _ hb.1 _ (by first | omega | (dsimp only; omega)) (by first | omega | (dsimp only; omega))) ?_
  refine Ev.neg (fun g_ => mkN_nn hb.1.2 (Nat.le_refl _) g_ (by first | omega | (dsimp only; omega))) ?_
  refine Ev.bind (held_IntS _ (by first | omega | (have := hb; omega) | (have := hb.1; omega) | (have := hb.2; omega)) _ (by first | omega | (dsimp only; omega)) (by first | omega | (dsimp only; omega))) ?_
  refine Ev.neg (by first | omega | (dsimp only; omega)) ?_
  refine Ev.pos (by first | rfl | simp [sEq] | omega) ?_
  refine Ev.bind (to_Net x0 b0) ?_
  refine Ev.bind (to_TripS x1 b1) ?_
  refine Ev.bind ei ?_
  refine Ev.bind (eq_TripS _ (by first | exact hb | exact hb.1 | exact hb.2 | trivial)) ?_
  refine Ev.pos (by first | rfl | simp [sEq] | omega) ?_
  refine Ev.bind (eq_IntS _ (by first | exact hb | exact hb.1 | exact hb.2 | trivial)) ?_
  refine Ev.pos (by first | rfl | simp [sEq] | omega) ?_
  refine Ev.bind (held_TripS _ hb.1 _ (by first | omega | (dsimp only; omega)) (by first | omega | (dsimp only; omega))) ?_
  refine Ev.neg (fun g_ => mkN_nn hb.1.2 (Nat.le_refl _) g_ (by first | omega | (dsimp only; omega))) ?_
  refine Ev.bind (held_IntS _ (by first | omega | (have := hb; omega) | (have := hb.1; omega) | (have := hb.2; omega)) _ (by first | omega | (dsimp only; omega)) (by first | omega | (dsimp only; omega))) ?_
  refine Ev.neg (by first | omega | (dsimp only; omega)) ?_
  refine Ev.pos (by first | rfl | simp [sEq] | omega) ?_
  exact ev_val rfl

end Go.Proofs.Ytebgaiokpncacaa.Fns
