/- The pure statement of the law FnExactBare: its function, told by the engine, gives true for every input. -/
import Derived.Test.YtjfjifnmfnlfoaaSFnExactBare
namespace Go.Proofs.Ytjfjifnmfnlfoaa.Fns
open Go.RowKit Go.WideShapes Go.Proofs.Ytjfjifnmfnlfoaa.Eng
set_option linter.unusedVariables false
set_option linter.unusedSimpArgs false
/-- From some number of rounds on there is one answer, and C holds of it. -/
def Evx {α : Type} (g : Nat → Option α) (C : α → Prop) : Prop := ∃ r, Ev g r ∧ C r
section
variable {α β : Type}
theorem Evx.val {a : α} {C : α → Prop} (h : C a) : Evx (fun _ => some a) C := ⟨a, Ev.now a, h⟩
theorem Evx.of {g : Nat → Option α} {r : α} {C : α → Prop} (h : Ev g r) (hc : C r) : Evx g C := ⟨r, h, hc⟩
theorem Evx.bind {g : Nat → Option α} {f : Nat → α → Option β} {P : α → Prop} {C : β → Prop} (h : Evx g P) (k : ∀ a, P a → Evx (fun n => f n a) C) : Evx (fun n => (g n).bind (f n)) C := by
  obtain ⟨a, h1, h2⟩ := h
  obtain ⟨r, h3, h4⟩ := k a h2
  exact ⟨r, Ev.bind h1 h3, h4⟩
theorem Evx.bindv {g : Nat → Option α} {f : Nat → α → Option β} {a : α} {C : β → Prop} (h : Ev g a) (k : Evx (fun n => f n a) C) : Evx (fun n => (g n).bind (f n)) C := by
  obtain ⟨r, h3, h4⟩ := k
  exact ⟨r, Ev.bind h h3, h4⟩
theorem Evx.opt {g : Option α} {f : Nat → α → Option β} {a : α} {C : β → Prop} (h : g = some a) (k : Evx (fun n => f n a) C) : Evx (fun n => g.bind (f n)) C := by subst h; exact k
theorem Evx.step {g f : Nat → Option α} {C : α → Prop} (h : ∀ k, g (k + 1) = f k) (k : Evx f C) : Evx g C := by
  obtain ⟨r, h3, h4⟩ := k
  exact ⟨r, Ev.step h h3, h4⟩
theorem Evx.congr {g f : Nat → Option α} {C : α → Prop} (h : ∀ k, g k = f k) (k : Evx f C) : Evx g C := by
  obtain ⟨r, h3, h4⟩ := k
  exact ⟨r, Ev.congr h h3, h4⟩
theorem Evx.ite {c : Prop} [Decidable c] {g f : Nat → Option α} {C : α → Prop} (h : c → Evx g C) (h' : ¬ c → Evx f C) : Evx (fun k => if c then g k else f k) C := by
  by_cases hc : c
  · simp only [if_pos hc]; exact h hc
  · simp only [if_neg hc]; exact h' hc
theorem Evx.pos {c : Prop} [Decidable c] {g f : Nat → Option α} {C : α → Prop} (hc : c) (h : Evx g C) : Evx (fun k => if c then g k else f k) C := by simp only [if_pos hc]; exact h
theorem Evx.neg {c : Prop} [Decidable c] {g f : Nat → Option α} {C : α → Prop} (hc : ¬ c) (h : Evx f C) : Evx (fun k => if c then g k else f k) C := by simp only [if_neg hc]; exact h
theorem Evx.mono {g : Nat → Option α} {C D : α → Prop} (h : Evx g C) (hd : ∀ r, C r → D r) : Evx g D := by
  obtain ⟨r, h1, h2⟩ := h
  exact ⟨r, h1, hd r h2⟩
theorem Evx.ev {g : Nat → Option α} {r : α} (h : Evx g (fun x => x = r)) : Ev g r := by
  obtain ⟨a, h1, rfl⟩ := h
  exact h1
theorem Ev.uniq {g : Nat → Option α} {a b : α} (h : Ev g a) (h' : Ev g b) : a = b := by
  obtain ⟨K, hK⟩ := h
  obtain ⟨K', hK'⟩ := h'
  have e1 := hK (max K K') (by omega)
  have e2 := hK' (max K K') (by omega)
  rw [e1] at e2
  exact Option.some.inj e2
end
/-- A loop that counts up, with what holds of its state at each place. -/
theorem evx_loop {R σ : Type} (G : Nat → Nat → σ → Option R) (n : Nat) (Inv : Nat → σ → Prop) (C : R → Prop)
    (hstep : ∀ i s, i < n → Inv i s → (∀ s', Inv (i + 1) s' → Evx (fun k => G k (i + 1) s') C) → Evx (fun k => G k i s) C)
    (hend : ∀ s, Inv n s → Evx (fun k => G k n s) C) : ∀ s, Inv 0 s → Evx (fun k => G k 0 s) C := by
  have key : ∀ d i, i + d = n → ∀ s, Inv i s → Evx (fun k => G k i s) C := by
    intro d
    induction d with
    | zero => intro i hi s hs; obtain rfl : i = n := by omega
              exact hend s hs
    | succ d ih => intro i hi s hs; exact hstep i s (by omega) hs (fun s' hs' => ih (i + 1) (by omega) s' hs')
  exact fun s hs => key n 0 (by omega) s hs
-- counting, taking, placing
theorem at_getD {α : Type} [Inhabited α] (xs : List α) (i : Int) : at_ xs i = xs.getD i.toNat default := rfl
theorem at_int {α : Type} [Inhabited α] {xs : List α} {i : Int} (h0 : 0 ≤ i) (h1 : i < (xs.length : Int)) : at_ xs i = xs[i.toNat]'(by omega) := by
  have h : i.toNat < xs.length := by omega
  rw [at_getD, List.getD_eq_getElem?_getD, List.getElem?_eq_getElem h]
  rfl
theorem at_mem {α : Type} [Inhabited α] {xs : List α} {i : Int} (h0 : 0 ≤ i) (h1 : i < (xs.length : Int)) : at_ xs i ∈ xs := by
  rw [at_int h0 h1]; exact List.getElem_mem _
theorem all_at {α : Type} [Inhabited α] {xs : List α} {p : α → Prop} (h : ∀ y, y ∈ xs → p y) {i : Int} (h0 : 0 ≤ i) (h1 : i < (xs.length : Int)) : p (at_ xs i) := h _ (at_mem h0 h1)
theorem all_idx {α : Type} [Inhabited α] {xs : List α} {p : α → Prop} (h : ∀ i, i < xs.length → p (at_ xs (i : Int))) {i : Int} (h0 : 0 ≤ i) (h1 : i < (xs.length : Int)) : p (at_ xs i) := by
  have := h i.toNat (by omega)
  rwa [show ((i.toNat : Nat) : Int) = i by omega] at this
theorem all_iff {α : Type} [Inhabited α] {xs : List α} {p : α → Prop} : (∀ i, i < xs.length → p (at_ xs (i : Int))) ↔ ∀ y, y ∈ xs → p y := by
  refine ⟨fun h y hy => ?_, fun h i hi => h _ (at_mem (by omega) (by omega))⟩
  obtain ⟨i, hi, rfl⟩ := List.getElem_of_mem hy
  have := h i hi
  rwa [at_nat hi] at this
theorem take_succ' {α : Type} {xs : List α} {i : Nat} (h : i < xs.length) : xs.take (i + 1) = xs.take i ++ [xs[i]] := List.take_succ_eq_append_getElem h
theorem count_take {α : Type} (p : α → Bool) {xs : List α} {i : Nat} (h : i < xs.length) : (xs.take (i + 1)).countP p = (xs.take i).countP p + (if p xs[i] then 1 else 0) := by
  rw [take_succ' h, List.countP_append, List.countP_singleton]
theorem count_le {α : Type} (p : α → Bool) (xs : List α) : xs.countP p ≤ xs.length := List.countP_le_length
theorem set_take {α : Type} {xs : List α} {i j : Nat} (v : α) (h : j < xs.length) : (xs.set i v)[j]'(by rw [List.length_set]; exact h) = if i = j then v else xs[j] := by rw [List.getElem_set]
theorem at_set_ne {α : Type} [Inhabited α] {xs : List α} {i : Nat} {j : Int} {v : α} (h0 : 0 ≤ j) (h : (i : Int) ≠ j) : at_ (xs.set i v) j = at_ xs j := by
  rw [at_getD, at_getD, List.getD_eq_getElem?_getD, List.getD_eq_getElem?_getD, List.getElem?_set_ne (by omega)]
theorem at_set_eq {α : Type} [Inhabited α] {xs : List α} {i : Nat} {v : α} (h : i < xs.length) : at_ (xs.set i v) (i : Int) = v := by
  rw [at_getD, List.getD_eq_getElem?_getD, Int.toNat_natCast, List.getElem?_set_self h]; rfl
theorem at_app_left {α : Type} [Inhabited α] (a b : List α) {i : Int} (h0 : 0 ≤ i) (h : i < (a.length : Int)) : at_ (a ++ b) i = at_ a i := by
  rw [at_getD, at_getD, List.getD_eq_getElem?_getD, List.getD_eq_getElem?_getD, List.getElem?_append_left (by omega)]
theorem at_app_right {α : Type} [Inhabited α] (a b : List α) {i : Int} (h : (a.length : Int) ≤ i) : at_ (a ++ b) i = at_ b (i - a.length) := by
  rw [at_getD, at_getD, List.getD_eq_getElem?_getD, List.getD_eq_getElem?_getD, List.getElem?_append_right (by omega)]
  congr 2; omega
theorem at_app_last {α : Type} [Inhabited α] (a : List α) (v : α) : at_ (a ++ [v]) (a.length : Int) = v := by
  rw [at_app_right a [v] (by omega), Int.sub_self]; rfl
theorem at_take {α : Type} [Inhabited α] (xs : List α) {n : Nat} {i : Int} (h0 : 0 ≤ i) (h : i < n) : at_ (xs.take n) i = at_ xs i := by
  rw [at_getD, at_getD, List.getD_eq_getElem?_getD, List.getD_eq_getElem?_getD, List.getElem?_take_of_lt (by omega)]
theorem at_rep {α : Type} [Inhabited α] (n : Nat) (v : α) {i : Int} (h0 : 0 ≤ i) (h : i < n) : at_ (List.replicate n v) i = v := by
  rw [at_int h0 (by simpa using h)]; simp
theorem tmod_of {a : Int} (b : Int) (h : 0 ≤ a) : a.tmod b = a % b := Int.tmod_eq_emod_of_nonneg h
theorem tdiv_of {a : Int} (b : Int) (h : 0 ≤ a) : a.tdiv b = a / b := Int.tdiv_eq_ediv_of_nonneg h
theorem range_at {n : Nat} {f : Nat → Int} {i : Int} (h0 : 0 ≤ i) (h : i < n) : at_ ((List.range n).map f) i = f i.toNat := by
  rw [at_int h0 (by simpa using h)]; simp
theorem range_set {α : Type} (n : Nat) (f : Nat → α) (i : Nat) (v : α) : ((List.range n).map f).set i v = (List.range n).map (fun j => if j = i then v else f j) := by
  refine List.ext_getElem (by simp) fun j h1 h2 => ?_
  simp only [List.getElem_set, List.getElem_map, List.getElem_range]
  by_cases e : i = j
  · rw [if_pos e, if_pos e.symm]
  · rw [if_neg e, if_neg (fun g => e g.symm)]
theorem range_congr {α : Type} {n : Nat} {f g : Nat → α} (h : ∀ j, j < n → f j = g j) : (List.range n).map f = (List.range n).map g :=
  List.map_congr_left fun j hj => h j (List.mem_range.1 hj)
/-- A loop that counts up and stops where P does not hold. -/
theorem ev_scan {R : Type} (n : Nat) (P : Nat → Prop) (bad : R) (G : Nat → Nat → Option R) {r : R} (hr : (∃ i, i < n ∧ ¬ P i) → r = bad)
    (hstep : ∀ i, i < n → (∀ j, j < i → P j) → (P i → Ev (fun k => G k (i + 1)) r) → (¬ P i → r = bad) → Ev (fun k => G k i) r)
    (hend : (∀ i, i < n → P i) → Ev (fun k => G k n) r) : Ev (fun k => G k 0) r := by
  have key : ∀ d i, i + d = n → (∀ j, j < i → P j) → Ev (fun k => G k i) r := by
    intro d
    induction d with
    | zero => intro i hi hp; obtain rfl : i = n := by omega
              exact hend hp
    | succ d ih =>
      intro i hi hp
      refine hstep i (by omega) hp (fun h => ih (i + 1) (by omega) fun j hj => ?_) (fun h => hr ⟨i, by omega, h⟩)
      rcases Nat.lt_or_ge j i with g | g
      · exact hp j g
      · obtain rfl : j = i := by omega
        exact h
  exact key n 0 (by omega) (fun j hj => absurd hj (by omega))
theorem bool_eq {b : Bool} {P : Prop} (hb : b = true ↔ P) (h : P) : b = true := hb.2 h
theorem not_all {n : Nat} {P : Nat → Prop} (h : ¬ ∀ i, i < n → P i) : ∃ i, i < n ∧ ¬ P i := by
  classical
  exact Classical.byContradiction fun g => h fun i hi => Classical.byContradiction fun q => g ⟨i, hi, q⟩
theorem mem_take_iff {α : Type} [Inhabited α] {xs : List α} {n : Nat} {v : α} (h : n ≤ xs.length) : v ∈ xs.take n ↔ ∃ i, i < n ∧ at_ xs (i : Int) = v := by
  constructor
  · intro hv
    obtain ⟨i, hi, e⟩ := List.getElem_of_mem hv
    rw [List.length_take] at hi
    rw [List.getElem_take] at e
    exact ⟨i, by omega, by rw [at_nat (by omega)]; exact e⟩
  · rintro ⟨i, hi, e⟩
    rw [at_nat (by omega)] at e
    rw [← e]
    exact List.mem_take_iff_getElem.2 ⟨i, by omega, rfl⟩
theorem mem_at {α : Type} [Inhabited α] {xs : List α} {v : α} : v ∈ xs ↔ ∃ i, i < xs.length ∧ at_ xs (i : Int) = v := by
  have := mem_take_iff (xs := xs) (v := v) (Nat.le_refl _)
  rwa [List.take_length] at this
open Classical in
/-- The first place where P holds, or -1. -/
noncomputable def firstI (n : Nat) (P : Nat → Prop) : Int := if h : ∃ i, i < n ∧ P i then ((Classical.choose (least_of h) : Nat) : Int) else -1
theorem firstI_spec (n : Nat) (P : Nat → Prop) : (firstI n P = -1 ∧ ∀ i, i < n → ¬ P i) ∨ ∃ i, i < n ∧ P i ∧ (∀ j, j < i → ¬ P j) ∧ firstI n P = (i : Int) := by
  classical
  unfold firstI
  by_cases h : ∃ i, i < n ∧ P i
  · rw [dif_pos h]
    have hs := Classical.choose_spec (least_of h)
    exact .inr ⟨_, hs.1.1, hs.1.2, fun j hj hp => hs.2 j hj ⟨by have := hs.1.1; omega, hp⟩, rfl⟩
  · rw [dif_neg h]
    exact .inl ⟨rfl, fun i hi hp => h ⟨i, hi, hp⟩⟩
theorem firstI_lo (n : Nat) (P : Nat → Prop) : -1 ≤ firstI n P ∧ firstI n P < (n : Int) ∧ (0 ≤ firstI n P ↔ ∃ i, i < n ∧ P i) := by
  rcases firstI_spec n P with ⟨h, h2⟩ | ⟨i, h1, h2, _, h3⟩
  · rw [h]; exact ⟨by omega, by omega, fun g => by omega, fun ⟨i, hi, hp⟩ => absurd hp (h2 i hi)⟩
  · rw [h3]; exact ⟨by omega, by omega, fun _ => ⟨i, h1, h2⟩, fun _ => by omega⟩
theorem firstI_at {n : Nat} {P : Nat → Prop} (h : 0 ≤ firstI n P) : P (firstI n P).toNat := by
  rcases firstI_spec n P with ⟨h1, _⟩ | ⟨i, h1, h2, _, h3⟩
  · omega
  · rw [h3]; exact h2
theorem firstI_find {R : Type} (n : Nat) (P : Nat → Prop) (out : Int → R) : FindR n P (fun i => out (i : Int)) (out (-1)) (out (firstI n P)) := by
  rcases firstI_spec n P with ⟨h, h2⟩ | ⟨i, h1, h2, h4, h3⟩
  · exact .inl ⟨by rw [h], h2⟩
  · exact .inr ⟨i, h1, h2, h4, by rw [h3]⟩
theorem firstI_congr {n : Nat} {P Q : Nat → Prop} (h : ∀ i, i < n → (P i ↔ Q i)) : firstI n P = firstI n Q := by
  rcases firstI_spec n P with ⟨h1, h2⟩ | ⟨i, h1, h2, h4, h3⟩
  · rcases firstI_spec n Q with ⟨g1, g2⟩ | ⟨j, g1, g2, g4, g3⟩
    · rw [h1, g1]
    · exact absurd ((h j g1).2 g2) (h2 j g1)
  · rcases firstI_spec n Q with ⟨g1, g2⟩ | ⟨j, g1, g2, g4, g3⟩
    · exact absurd ((h i h1).1 h2) (g2 i h1)
    · rw [h3, g3]
      rcases Nat.lt_trichotomy i j with w | w | w
      · exact absurd ((h i h1).1 h2) (g4 i w)
      · rw [w]
      · exact absurd ((h j g1).2 g2) (h4 j w)
theorem firstI_eq {n : Nat} {P : Nat → Prop} {i : Nat} (h : i < n) (hp : P i) (hm : ∀ j, j < i → ¬ P j) : firstI n P = (i : Int) := by
  rcases firstI_spec n P with ⟨_, h2⟩ | ⟨j, h1, h2, h4, h3⟩
  · exact absurd hp (h2 i h)
  · rw [h3]
    rcases Nat.lt_trichotomy i j with w | w | w
    · exact absurd hp (h4 i w)
    · rw [w]
    · exact absurd h2 (hm j w)
theorem firstI_no {n : Nat} {P : Nat → Prop} (h : ∀ i, i < n → ¬ P i) : firstI n P = -1 := by
  rcases firstI_spec n P with ⟨h1, _⟩ | ⟨j, h1, h2, _, _⟩
  · exact h1
  · exact absurd h2 (h j h1)
/-- .. and what it gives hangs on where it stops. -/
theorem ev_scan2 {R : Type} (n : Nat) (P : Nat → Prop) (bad : Nat → R) (G : Nat → Nat → Option R) {r : R} (hr : ∀ i, i < n → ¬ P i → (∀ j, j < i → P j) → r = bad i)
    (hstep : ∀ i, i < n → (∀ j, j < i → P j) → (P i → Ev (fun k => G k (i + 1)) r) → (¬ P i → r = bad i) → Ev (fun k => G k i) r)
    (hend : (∀ i, i < n → P i) → Ev (fun k => G k n) r) : Ev (fun k => G k 0) r := by
  have key : ∀ d i, i + d = n → (∀ j, j < i → P j) → Ev (fun k => G k i) r := by
    intro d
    induction d with
    | zero => intro i hi hp; obtain rfl : i = n := by omega
              exact hend hp
    | succ d ih =>
      intro i hi hp
      refine hstep i (by omega) hp (fun h => ih (i + 1) (by omega) fun j hj => ?_) (fun h => hr i (by omega) h hp)
      rcases Nat.lt_or_ge j i with g | g
      · exact hp j g
      · obtain rfl : j = i := by omega
        exact h
  exact key n 0 (by omega) (fun j hj => absurd hj (by omega))
theorem eq_impl_between (a b c : Int) : impl_between.f a b c = some (decide (b ≤ a ∧ a ≤ c)) := by
  unfold impl_between.f
  by_cases h : a ≥ b
  · rw [if_pos h]; simp [show b ≤ a from h]
  · rw [if_neg h]; simp [show ¬ b ≤ a from h]
theorem eq_spec_l01In (a b c : Int) : spec_l01In.f a b c = some (decide (b ≤ a ∧ a ≤ c)) := by
  unfold spec_l01In.f
  by_cases h : b ≤ a
  · rw [if_pos h]; simp [h]
  · rw [if_neg h]; simp [h]
theorem sz_IntS (x : (List Int)) (left : Int) (h0 : 0 ≤ left) (h1 : left ≤ 1048576) (ho : (x.length ≤ maxLen ∧ ∀ y ∈ x, (Lit.int .i64 y).wf = true)) : Evx (fun k => laws_szIntS.f x left) (fun r => r < 0 ∨ (0 ≤ r ∧ r ≤ left ∧ (x.length ≤ 1048576))) := by
  have hm : maxLen = 9223372036854775807 := rfl
  unfold laws_szIntS.f
  obtain ⟨hl, hy⟩ := ho
  rw [wrap_id (by omega) (by omega)]
  refine Evx.ite (fun h => Evx.val (.inl (by decide))) (fun h => ?_)
  exact Evx.val (.inr ⟨by omega, by omega, by omega⟩)
theorem sz_NeedS (x : (List S93)) (left : Int) (h0 : 0 ≤ left) (h1 : left ≤ 1048576) (ho : (x.length ≤ maxLen ∧ ∀ y ∈ x, ok93 y)) : Evx (fun k => laws_szNeedS.f x left) (fun r => r < 0 ∨ (0 ≤ r ∧ r ≤ left ∧ (x.length ≤ 1048576))) := by
  have hm : maxLen = 9223372036854775807 := rfl
  unfold laws_szNeedS.f
  obtain ⟨hl, hy⟩ := ho
  rw [wrap_id (by omega) (by omega)]
  refine Evx.ite (fun h => Evx.val (.inl (by decide))) (fun h => ?_)
  exact Evx.val (.inr ⟨by omega, by omega, by omega⟩)
theorem sz_Route (x : S142) (left : Int) (h0 : 0 ≤ left) (h1 : left ≤ 1048576) (ho : ok142 x) : Evx (fun k => laws_szRoute.f x left) (fun r => r < 0 ∨ (0 ≤ r ∧ r ≤ left ∧ ((x.f0.length ≤ 1048576) ∧ (x.f1.length ≤ 1048576)))) := by
  have hm : maxLen = 9223372036854775807 := rfl
  unfold laws_szRoute.f
  unfold ok142 at ho
  obtain ⟨o0, o1⟩ := ho
  refine Evx.bind (sz_NeedS x.f0 left (by omega) (by omega) o0) (fun r0 hr0 => ?_)
  refine Evx.ite (fun h => Evx.val (.inl (by decide))) (fun h0_ => ?_)
  obtain ⟨p0, q0, b0⟩ := hr0.resolve_left h0_
  refine Evx.bind (sz_IntS x.f1 r0 (by omega) (by omega) o1) (fun r1 hr1 => ?_)
  refine Evx.ite (fun h => Evx.val (.inl (by decide))) (fun h1_ => ?_)
  obtain ⟨p1, q1, b1⟩ := hr1.resolve_left h1_
  exact Evx.val (.inr ⟨by omega, by omega, b0, b1⟩)
theorem sz_RouteS (x : (List S142)) (left : Int) (h0 : 0 ≤ left) (h1 : left ≤ 1048576) (ho : (x.length ≤ maxLen ∧ ∀ y ∈ x, ok142 y)) : Evx (fun k => laws_szRouteS.f k x left) (fun r => r < 0 ∨ (0 ≤ r ∧ r ≤ left ∧ (x.length ≤ 1048576 ∧ ∀ y ∈ x, ((y.f0.length ≤ 1048576) ∧ (y.f1.length ≤ 1048576))))) := by
  have hm : maxLen = 9223372036854775807 := rfl
  unfold laws_szRouteS.f
  obtain ⟨hl, hy⟩ := ho
  rw [wrap_id (by omega) (by omega)]
  refine Evx.ite (fun h => Evx.val (.inl (by decide))) (fun h => ?_)
  refine evx_loop (fun k i (l : Int) => laws_szRouteS.l0 k x l (i : Int)) x.length (fun i l => 0 ≤ l ∧ l ≤ left - x.length ∧ ∀ j (h : j < x.length), j < i → (fun y => ((y.f0.length ≤ 1048576) ∧ (y.f1.length ≤ 1048576))) x[j]) _ ?_ ?_ _ ⟨by omega, by omega, fun j _ h => absurd h (by omega)⟩
  · intro i l hi ⟨a1, a2, a3⟩ hn
    refine Evx.step (fun k => by simp only [laws_szRouteS.l0]; rfl) ?_
    refine Evx.pos (by omega) (Evx.pos (by omega) ?_)
    rw [at_nat hi]
    refine Evx.bind (sz_Route x[i] l a1 (by omega) (hy _ (List.getElem_mem hi))) (fun r hr => ?_)
    rw [wrap_succ hi (by omega)]
    refine Evx.ite (fun h => Evx.val (.inl (by decide))) (fun h => ?_)
    obtain ⟨b1, b2, b3⟩ := hr.resolve_left h
    refine hn r ⟨b1, by omega, fun j hj hij => ?_⟩
    rcases Nat.lt_or_ge j i with g | g
    · exact a3 j hj g
    · obtain rfl : j = i := by omega
      exact b3
  · intro l ⟨a1, a2, a3⟩
    refine Evx.step (fun k => by simp only [laws_szRouteS.l0]; rfl) ?_
    refine Evx.neg (by omega) (Evx.val (.inr ⟨a1, by omega, by omega, fun y hy => ?_⟩))
    obtain ⟨j, hj, rfl⟩ := List.getElem_of_mem hy
    exact a3 j hj hj
theorem sz_Plant (x : S24) (left : Int) (h0 : 0 ≤ left) (h1 : left ≤ 1048576) (ho : ok24 x) : Evx (fun k => laws_szPlant.f k x left) (fun r => r < 0 ∨ (0 ≤ r ∧ r ≤ left ∧ ((x.f0.length ≤ 1048576) ∧ (x.f2.length ≤ 1048576 ∧ ∀ y ∈ x.f2, ((y.f0.length ≤ 1048576) ∧ (y.f1.length ≤ 1048576)))))) := by
  have hm : maxLen = 9223372036854775807 := rfl
  unfold laws_szPlant.f
  unfold ok24 at ho
  obtain ⟨o0, o1, o2⟩ := ho
  refine Evx.bind (sz_IntS x.f0 left (by omega) (by omega) o0) (fun r0 hr0 => ?_)
  refine Evx.ite (fun h => Evx.val (.inl (by decide))) (fun h0_ => ?_)
  obtain ⟨p0, q0, b0⟩ := hr0.resolve_left h0_
  refine Evx.bind (sz_RouteS x.f2 r0 (by omega) (by omega) o2) (fun r2 hr2 => ?_)
  refine Evx.ite (fun h => Evx.val (.inl (by decide))) (fun h2_ => ?_)
  obtain ⟨p2, q2, b2⟩ := hr2.resolve_left h2_
  exact Evx.val (.inr ⟨by omega, by omega, b0, b2⟩)
theorem to_IntS (x : (List Int)) (hb : (x.length ≤ 1048576)) : Ev (fun k => laws_toIntS.f k x) x := by
  unfold laws_toIntS.f
  have hl := hb
  refine Ev.pos (by omega) (Ev.pos (by omega) ?_)
  rw [Int.toNat_natCast]
  refine ev_fill x id _ (fun k s i => laws_toIntS.l0 k x s (i : Int)) ?_ ?_
  · intro i hi s hs hn
    refine Ev.step (fun k => by simp only [laws_toIntS.l0]; rfl) ?_
    refine Ev.pos (by omega) (Ev.pos (by omega) ?_)
    rw [at_nat hi]
    refine Ev.pos (by omega) ?_
    rw [Int.toNat_natCast, wrap_succ hi (by omega)]
    exact hn
  · refine Ev.step (fun k => by simp only [laws_toIntS.l0]; rfl) ?_
    refine Ev.neg (by omega) (ev_val (List.map_id x))
theorem to_Need (x : S93) (hb : True) : Ev (fun k => laws_toNeed.f x) x := by
  unfold laws_toNeed.f
  exact ev_val rfl
theorem to_NeedS (x : (List S93)) (hb : (x.length ≤ 1048576)) : Ev (fun k => laws_toNeedS.f k x) x := by
  unfold laws_toNeedS.f
  have hl := hb
  refine Ev.pos (by omega) (Ev.pos (by omega) ?_)
  rw [Int.toNat_natCast]
  refine ev_fill x id _ (fun k s i => laws_toNeedS.l0 k x s (i : Int)) ?_ ?_
  · intro i hi s hs hn
    refine Ev.step (fun k => by simp only [laws_toNeedS.l0]; rfl) ?_
    refine Ev.pos (by omega) (Ev.pos (by omega) ?_)
    rw [at_nat hi]
    refine Ev.bind (to_Need x[i] trivial) ?_
    refine Ev.pos (by omega) ?_
    rw [Int.toNat_natCast, wrap_succ hi (by omega)]
    exact hn
  · refine Ev.step (fun k => by simp only [laws_toNeedS.l0]; rfl) ?_
    refine Ev.neg (by omega) (ev_val (List.map_id x))
abbrev cv142_83 (x : S142) : S83 := ⟨x.f0, x.f1⟩
theorem bd_cv142_83 (x : S142) (h : ((x.f0.length ≤ 1048576) ∧ (x.f1.length ≤ 1048576))) : (((cv142_83 x).f0.length ≤ 1048576) ∧ ((cv142_83 x).f1.length ≤ 1048576)) := ⟨h.1, h.2⟩
theorem to_Route (x : S142) (hb : ((x.f0.length ≤ 1048576) ∧ (x.f1.length ≤ 1048576))) : Ev (fun k => laws_toRoute.f k x) (cv142_83 x) := by
  unfold laws_toRoute.f
  refine Ev.bind (to_NeedS x.f0 hb.1) ?_
  refine Ev.bind (to_IntS x.f1 hb.2) ?_
  exact ev_val rfl
theorem to_RouteS (x : (List S142)) (hb : (x.length ≤ 1048576 ∧ ∀ y ∈ x, ((y.f0.length ≤ 1048576) ∧ (y.f1.length ≤ 1048576)))) : Ev (fun k => laws_toRouteS.f k x) (x.map cv142_83) := by
  unfold laws_toRouteS.f
  obtain ⟨hl, hy⟩ := hb
  refine Ev.pos (by omega) (Ev.pos (by omega) ?_)
  rw [Int.toNat_natCast]
  refine ev_fill x cv142_83 _ (fun k s i => laws_toRouteS.l0 k x s (i : Int)) ?_ ?_
  · intro i hi s hs hn
    refine Ev.step (fun k => by simp only [laws_toRouteS.l0]; rfl) ?_
    refine Ev.pos (by omega) (Ev.pos (by omega) ?_)
    rw [at_nat hi]
    refine Ev.bind (to_Route x[i] (hy _ (List.getElem_mem hi))) ?_
    refine Ev.pos (by omega) ?_
    rw [Int.toNat_natCast, wrap_succ hi (by omega)]
    exact hn
  · refine Ev.step (fun k => by simp only [laws_toRouteS.l0]; rfl) ?_
    refine Ev.neg (by omega) (ev_val rfl)
abbrev cv24_29 (x : S24) : S29 := ⟨x.f0, x.f1, (x.f2.map cv142_83)⟩
theorem bd_cv24_29 (x : S24) (h : ((x.f0.length ≤ 1048576) ∧ (x.f2.length ≤ 1048576 ∧ ∀ y ∈ x.f2, ((y.f0.length ≤ 1048576) ∧ (y.f1.length ≤ 1048576))))) : (((cv24_29 x).f0.length ≤ 1048576) ∧ ((cv24_29 x).f2.length ≤ 1048576 ∧ ∀ y ∈ (cv24_29 x).f2, ((y.f0.length ≤ 1048576) ∧ (y.f1.length ≤ 1048576)))) := ⟨h.1, ⟨by rw [List.length_map]; exact h.2.1, fun y hy => by obtain ⟨x, hx, rfl⟩ := List.mem_map.1 hy; exact bd_cv142_83 x (h.2.2 x hx)⟩⟩
theorem to_Plant (x : S24) (hb : ((x.f0.length ≤ 1048576) ∧ (x.f2.length ≤ 1048576 ∧ ∀ y ∈ x.f2, ((y.f0.length ≤ 1048576) ∧ (y.f1.length ≤ 1048576))))) : Ev (fun k => laws_toPlant.f k x) (cv24_29 x) := by
  unfold laws_toPlant.f
  refine Ev.bind (to_IntS x.f0 hb.1) ?_
  refine Ev.bind (to_RouteS x.f2 hb.2) ?_
  exact ev_val rfl
theorem eq_IntS (x : (List Int)) (hb : (x.length ≤ 1048576)) : Ev (fun k => laws_eqIntS.f k x x) true := by
  unfold laws_eqIntS.f
  have hl := hb
  refine Ev.pos rfl ?_
  refine ev_fold (fun k i => laws_eqIntS.l0 k x x (i : Int)) x.length ?_ ?_
  · intro i hi hn
    refine Ev.step (fun k => by simp only [laws_eqIntS.l0]; rfl) ?_
    refine Ev.pos (by omega) (Ev.pos (by omega) ?_)
    try refine Ev.pos (by omega) ?_
    refine Ev.pos (by first | rfl | simp) ?_
    rw [wrap_succ hi (by omega)]
    exact hn
  · refine Ev.step (fun k => by simp only [laws_eqIntS.l0]; rfl) ?_
    exact Ev.neg (by omega) (ev_val rfl)
theorem eq_BoolS (x : (List Bool)) (hb : (x.length ≤ 1048576)) : Ev (fun k => laws_eqBoolS.f k x x) true := by
  unfold laws_eqBoolS.f
  have hl := hb
  refine Ev.pos rfl ?_
  refine ev_fold (fun k i => laws_eqBoolS.l0 k x x (i : Int)) x.length ?_ ?_
  · intro i hi hn
    refine Ev.step (fun k => by simp only [laws_eqBoolS.l0]; rfl) ?_
    refine Ev.pos (by omega) (Ev.pos (by omega) ?_)
    try refine Ev.pos (by omega) ?_
    refine Ev.pos (by first | rfl | simp) ?_
    rw [wrap_succ hi (by omega)]
    exact hn
  · refine Ev.step (fun k => by simp only [laws_eqBoolS.l0]; rfl) ?_
    exact Ev.neg (by omega) (ev_val rfl)
theorem eq_Locking (x : S37) (hb : ((x.f0.length ≤ 1048576) ∧ (x.f1.length ≤ 1048576) ∧ (x.f2.length ≤ 1048576))) : Ev (fun k => laws_eqLocking.f k x x) true := by
  unfold laws_eqLocking.f
  refine Ev.bind (eq_IntS x.f0 hb.1) ?_
  refine Ev.pos rfl ?_
  refine Ev.bind (eq_BoolS x.f1 hb.2.1) ?_
  refine Ev.pos rfl ?_
  refine Ev.bind (eq_BoolS x.f2 hb.2.2) ?_
  refine Ev.pos rfl ?_
  exact ev_val rfl
theorem eq_Need (x : S93) (hb : True) : Ev (fun k => laws_eqNeed.f x x) true := by
  unfold laws_eqNeed.f
  refine Ev.pos rfl ?_
  refine Ev.pos rfl ?_
  exact ev_val rfl
theorem eq_NeedS (x : (List S93)) (hb : (x.length ≤ 1048576)) : Ev (fun k => laws_eqNeedS.f k x x) true := by
  unfold laws_eqNeedS.f
  have hl := hb
  refine Ev.pos rfl ?_
  refine ev_fold (fun k i => laws_eqNeedS.l0 k x x (i : Int)) x.length ?_ ?_
  · intro i hi hn
    refine Ev.step (fun k => by simp only [laws_eqNeedS.l0]; rfl) ?_
    refine Ev.pos (by omega) (Ev.pos (by omega) ?_)
    try refine Ev.pos (by omega) ?_
    rw [at_nat hi]
    refine Ev.bind (eq_Need x[i] trivial) ?_
    refine Ev.pos (by first | rfl | simp) ?_
    rw [wrap_succ hi (by omega)]
    exact hn
  · refine Ev.step (fun k => by simp only [laws_eqNeedS.l0]; rfl) ?_
    exact Ev.neg (by omega) (ev_val rfl)
theorem eq_Route (x : S83) (hb : ((x.f0.length ≤ 1048576) ∧ (x.f1.length ≤ 1048576))) : Ev (fun k => laws_eqRoute.f k x x) true := by
  unfold laws_eqRoute.f
  refine Ev.bind (eq_NeedS x.f0 hb.1) ?_
  refine Ev.pos rfl ?_
  refine Ev.bind (eq_IntS x.f1 hb.2) ?_
  refine Ev.pos rfl ?_
  exact ev_val rfl
theorem eq_RouteS (x : (List S83)) (hb : (x.length ≤ 1048576 ∧ ∀ y ∈ x, ((y.f0.length ≤ 1048576) ∧ (y.f1.length ≤ 1048576)))) : Ev (fun k => laws_eqRouteS.f k x x) true := by
  unfold laws_eqRouteS.f
  obtain ⟨hl, hy⟩ := hb
  refine Ev.pos rfl ?_
  refine ev_fold (fun k i => laws_eqRouteS.l0 k x x (i : Int)) x.length ?_ ?_
  · intro i hi hn
    refine Ev.step (fun k => by simp only [laws_eqRouteS.l0]; rfl) ?_
    refine Ev.pos (by omega) (Ev.pos (by omega) ?_)
    try refine Ev.pos (by omega) ?_
    rw [at_nat hi]
    refine Ev.bind (eq_Route x[i] (hy _ (List.getElem_mem hi))) ?_
    refine Ev.pos (by first | rfl | simp) ?_
    rw [wrap_succ hi (by omega)]
    exact hn
  · refine Ev.step (fun k => by simp only [laws_eqRouteS.l0]; rfl) ?_
    exact Ev.neg (by omega) (ev_val rfl)
theorem eq_Plant (x : S29) (hb : ((x.f0.length ≤ 1048576) ∧ (x.f2.length ≤ 1048576 ∧ ∀ y ∈ x.f2, ((y.f0.length ≤ 1048576) ∧ (y.f1.length ≤ 1048576))))) : Ev (fun k => laws_eqPlant.f k x x) true := by
  unfold laws_eqPlant.f
  refine Ev.bind (eq_IntS x.f0 hb.1) ?_
  refine Ev.pos rfl ?_
  refine Ev.pos rfl ?_
  refine Ev.bind (eq_RouteS x.f2 hb.2) ?_
  refine Ev.pos rfl ?_
  exact ev_val rfl
def mk_IntS (a : Int) (i : Nat) : Int := (a + (i : Int))
def mkd_IntS (m : Nat) (a : Int) : List Int := (List.range m).map (mk_IntS a)
theorem mkl_IntS (m : Nat) (a : Int) : (mkd_IntS m a).length = m := by simp [mkd_IntS]
theorem mks_IntS (i : Nat) (a : Int) (x : (List Int)) (hi : i < x.length) : (mkd_IntS i a ++ x.drop i).set i (mk_IntS a i) = mkd_IntS (i + 1) a ++ x.drop (i + 1) := by
  rw [List.set_append_right _ _ (by rw [mkl_IntS]; omega), mkl_IntS, Nat.sub_self, List.drop_eq_getElem_cons hi, List.set_cons_zero]
  simp [mkd_IntS, List.range_succ]
theorem mark_IntS (x : (List Int)) (hl : x.length ≤ 4194304) (a : Int) (h0 : 0 ≤ a) (h1 : a ≤ 1152921504606846976) : Ev (fun k => laws_markIntS.f k x a) (a + (x.length : Int), mkd_IntS x.length a) := by
  unfold laws_markIntS.f
  have hlen : ∀ i, i < x.length → (mkd_IntS i a ++ x.drop i).length = x.length := by
    intro i hi
    rw [List.length_append, mkl_IntS, List.length_drop]; omega
  have key := ev_fold (fun k i => laws_markIntS.l0 k (mkd_IntS i a ++ x.drop i) (a + (i : Int)) (i : Int)) x.length (r := (a + (x.length : Int), mkd_IntS x.length a)) ?_ ?_
  · have e : a + 0 = a := by omega
    simpa [mkd_IntS] using key
  · intro i hi hn
    refine Ev.step (fun k => by simp only [laws_markIntS.l0]; rfl) ?_
    refine Ev.pos (by rw [hlen i hi]; omega) (Ev.pos (by omega) ?_)
    try simp only [if_pos (show (i : Int) < ((mkd_IntS i a ++ x.drop i).length : Int) by rw [hlen i hi]; omega)]
    rw [Int.toNat_natCast]
    rw [wrap_id (x := a + (i : Int) + 1) (by omega) (by omega)]
    have e := mks_IntS i a x hi
    unfold mk_IntS at e
    rw [e, wrap_succ hi (by omega), show a + (i : Int) + 1 = a + ((i + 1 : Nat) : Int) by omega]
    exact hn
  · refine Ev.step (fun k => by simp only [laws_markIntS.l0]; rfl) ?_
    have e : mkd_IntS x.length a ++ x.drop x.length = mkd_IntS x.length a := by simp
    rw [e]
    exact Ev.neg (by rw [mkl_IntS]; omega) (ev_val rfl)
def mk_NeedS (a : Int) (i : Nat) : S93 := (⟨a + 2 * (i : Int), a + 2 * (i : Int) + 1⟩ : S93)
def mkd_NeedS (m : Nat) (a : Int) : List S93 := (List.range m).map (mk_NeedS a)
theorem mkl_NeedS (m : Nat) (a : Int) : (mkd_NeedS m a).length = m := by simp [mkd_NeedS]
theorem mks_NeedS (i : Nat) (a : Int) (x : (List S93)) (hi : i < x.length) : (mkd_NeedS i a ++ x.drop i).set i (mk_NeedS a i) = mkd_NeedS (i + 1) a ++ x.drop (i + 1) := by
  rw [List.set_append_right _ _ (by rw [mkl_NeedS]; omega), mkl_NeedS, Nat.sub_self, List.drop_eq_getElem_cons hi, List.set_cons_zero]
  simp [mkd_NeedS, List.range_succ]
theorem mark_NeedS (x : (List S93)) (hl : x.length ≤ 4194304) (a : Int) (h0 : 0 ≤ a) (h1 : a ≤ 1152921504606846976) : Ev (fun k => laws_markNeedS.f k x a) (a + 2 * (x.length : Int), mkd_NeedS x.length a) := by
  unfold laws_markNeedS.f
  have hlen : ∀ i, i < x.length → (mkd_NeedS i a ++ x.drop i).length = x.length := by
    intro i hi
    rw [List.length_append, mkl_NeedS, List.length_drop]; omega
  have key := ev_fold (fun k i => laws_markNeedS.l0 k (mkd_NeedS i a ++ x.drop i) (a + 2 * (i : Int)) (i : Int)) x.length (r := (a + 2 * (x.length : Int), mkd_NeedS x.length a)) ?_ ?_
  · have e : a + 2 * 0 = a := by omega
    simpa [mkd_NeedS] using key
  · intro i hi hn
    refine Ev.step (fun k => by simp only [laws_markNeedS.l0]; rfl) ?_
    refine Ev.pos (by rw [hlen i hi]; omega) (Ev.pos (by omega) ?_)
    try simp only [if_pos (show (i : Int) < ((mkd_NeedS i a ++ x.drop i).length : Int) by rw [hlen i hi]; omega)]
    rw [Int.toNat_natCast]
    rw [wrap_id (x := a + 2 * (i : Int) + 1) (by omega) (by omega)]
    rw [wrap_id (x := a + 2 * (i : Int) + 1 + 1) (by omega) (by omega)]
    have e := mks_NeedS i a x hi
    unfold mk_NeedS at e
    rw [e, wrap_succ hi (by omega), show a + 2 * (i : Int) + 1 + 1 = a + 2 * ((i + 1 : Nat) : Int) by omega]
    exact hn
  · refine Ev.step (fun k => by simp only [laws_markNeedS.l0]; rfl) ?_
    have e : mkd_NeedS x.length a ++ x.drop x.length = mkd_NeedS x.length a := by simp
    rw [e]
    exact Ev.neg (by rw [mkl_NeedS]; omega) (ev_val rfl)
def mk_BoolS (a : Int) (i : Nat) : Bool := (((a + (i : Int)).tmod 3) == 0)
def mkd_BoolS (m : Nat) (a : Int) : List Bool := (List.range m).map (mk_BoolS a)
theorem mkl_BoolS (m : Nat) (a : Int) : (mkd_BoolS m a).length = m := by simp [mkd_BoolS]
theorem mks_BoolS (i : Nat) (a : Int) (x : (List Bool)) (hi : i < x.length) : (mkd_BoolS i a ++ x.drop i).set i (mk_BoolS a i) = mkd_BoolS (i + 1) a ++ x.drop (i + 1) := by
  rw [List.set_append_right _ _ (by rw [mkl_BoolS]; omega), mkl_BoolS, Nat.sub_self, List.drop_eq_getElem_cons hi, List.set_cons_zero]
  simp [mkd_BoolS, List.range_succ]
theorem mark_BoolS (x : (List Bool)) (hl : x.length ≤ 4194304) (a : Int) (h0 : 0 ≤ a) (h1 : a ≤ 1152921504606846976) : Ev (fun k => laws_markBoolS.f k x a) (a + (x.length : Int), mkd_BoolS x.length a) := by
  unfold laws_markBoolS.f
  have hlen : ∀ i, i < x.length → (mkd_BoolS i a ++ x.drop i).length = x.length := by
    intro i hi
    rw [List.length_append, mkl_BoolS, List.length_drop]; omega
  have key := ev_fold (fun k i => laws_markBoolS.l0 k (mkd_BoolS i a ++ x.drop i) (a + (i : Int)) (i : Int)) x.length (r := (a + (x.length : Int), mkd_BoolS x.length a)) ?_ ?_
  · have e : a + 0 = a := by omega
    simpa [mkd_BoolS] using key
  · intro i hi hn
    refine Ev.step (fun k => by simp only [laws_markBoolS.l0]; rfl) ?_
    refine Ev.pos (by rw [hlen i hi]; omega) (Ev.pos (by omega) ?_)
    try simp only [if_pos (show (i : Int) < ((mkd_BoolS i a ++ x.drop i).length : Int) by rw [hlen i hi]; omega)]
    rw [Int.toNat_natCast]
    rw [wrap_id (x := a + (i : Int) + 1) (by omega) (by omega)]
    have e := mks_BoolS i a x hi
    unfold mk_BoolS at e
    rw [e, wrap_succ hi (by omega), show a + (i : Int) + 1 = a + ((i + 1 : Nat) : Int) by omega]
    exact hn
  · refine Ev.step (fun k => by simp only [laws_markBoolS.l0]; rfl) ?_
    have e : mkd_BoolS x.length a ++ x.drop x.length = mkd_BoolS x.length a := by simp
    rw [e]
    exact Ev.neg (by rw [mkl_BoolS]; omega) (ev_val rfl)
theorem mark_Locking (x : S37) (hb : ((x.f0.length ≤ 1048576) ∧ (x.f1.length ≤ 1048576) ∧ (x.f2.length ≤ 1048576))) (a : Int) (h0 : 0 ≤ a) (h1 : a ≤ 1073741824) : Ev (fun k => laws_markLocking.f k x a) (a + (x.f0.length : Int) + (x.f1.length : Int) + (x.f2.length : Int), mkd_IntS x.f0.length (a), mkd_BoolS x.f1.length (a + (x.f0.length : Int)), mkd_BoolS x.f2.length (a + (x.f0.length : Int) + (x.f1.length : Int))) := by
  unfold laws_markLocking.f
  have l0 := hb.1
  refine Ev.bind (mark_IntS x.f0 (by omega) (a) (by omega) (by omega)) ?_
  have l1 := hb.2.1
  refine Ev.bind (mark_BoolS x.f1 (by omega) (a + (x.f0.length : Int)) (by omega) (by omega)) ?_
  have l2 := hb.2.2
  refine Ev.bind (mark_BoolS x.f2 (by omega) (a + (x.f0.length : Int) + (x.f1.length : Int)) (by omega) (by omega)) ?_
  exact ev_val rfl
theorem held_IntS (m : Nat) (hl : m ≤ 4194304) (a : Int) (h0 : 0 ≤ a) (h1 : a ≤ 1152921504606846976) : Ev (fun k => laws_heldIntS.f k (mkd_IntS m a) a) (a + (m : Int)) := by
  unfold laws_heldIntS.f
  have e : ∀ i (hi : i < m), (mkd_IntS m a)[i]'(by rw [mkl_IntS]; exact hi) = mk_IntS a i := by
    intro i hi
    simp [mkd_IntS]
  have key := ev_fold (fun k i => laws_heldIntS.l0 k (mkd_IntS m a) (a + (i : Int)) (i : Int)) m (r := a + (m : Int)) ?_ ?_
  · simpa using key
  · intro i hi hn
    refine Ev.step (fun k => by simp only [laws_heldIntS.l0]; rfl) ?_
    refine Ev.pos (by rw [mkl_IntS]; omega) (Ev.pos (by omega) ?_)
    rw [at_nat (show i < (mkd_IntS m a).length by rw [mkl_IntS]; exact hi), e i hi]
    unfold mk_IntS
    refine Ev.pos rfl ?_
    rw [wrap_id (x := a + (i : Int) + 1) (by omega) (by omega)]
    rw [wrap_succ hi (by omega), show a + (i : Int) + 1 = a + ((i + 1 : Nat) : Int) by omega]
    exact hn
  · refine Ev.step (fun k => by simp only [laws_heldIntS.l0]; rfl) ?_
    exact Ev.neg (by rw [mkl_IntS]; omega) (ev_val rfl)
theorem held_BoolS (m : Nat) (hl : m ≤ 4194304) (a : Int) (h0 : 0 ≤ a) (h1 : a ≤ 1152921504606846976) : Ev (fun k => laws_heldBoolS.f k (mkd_BoolS m a) a) (a + (m : Int)) := by
  unfold laws_heldBoolS.f
  have e : ∀ i (hi : i < m), (mkd_BoolS m a)[i]'(by rw [mkl_BoolS]; exact hi) = mk_BoolS a i := by
    intro i hi
    simp [mkd_BoolS]
  have key := ev_fold (fun k i => laws_heldBoolS.l0 k (mkd_BoolS m a) (a + (i : Int)) (i : Int)) m (r := a + (m : Int)) ?_ ?_
  · simpa using key
  · intro i hi hn
    refine Ev.step (fun k => by simp only [laws_heldBoolS.l0]; rfl) ?_
    refine Ev.pos (by rw [mkl_BoolS]; omega) (Ev.pos (by omega) ?_)
    rw [at_nat (show i < (mkd_BoolS m a).length by rw [mkl_BoolS]; exact hi), e i hi]
    unfold mk_BoolS
    refine Ev.pos (by first | rfl | (dsimp only; omega) | simp) ?_
    rw [wrap_id (x := a + (i : Int) + 1) (by omega) (by omega)]
    rw [wrap_succ hi (by omega), show a + (i : Int) + 1 = a + ((i + 1 : Nat) : Int) by omega]
    exact hn
  · refine Ev.step (fun k => by simp only [laws_heldBoolS.l0]; rfl) ?_
    exact Ev.neg (by rw [mkl_BoolS]; omega) (ev_val rfl)
theorem held_Locking (y : S37) (a : Int) (h0 : 0 ≤ a) (h1 : a ≤ 1073741824) (m0 : Nat) (l0 : m0 ≤ 1048576) (e0 : y.f0 = mkd_IntS m0 (a)) (m1 : Nat) (l1 : m1 ≤ 1048576) (e1 : y.f1 = mkd_BoolS m1 (a + (m0 : Int))) (m2 : Nat) (l2 : m2 ≤ 1048576) (e2 : y.f2 = mkd_BoolS m2 (a + (m0 : Int) + (m1 : Int))) : Ev (fun k => laws_heldLocking.f k y a) (a + (m0 : Int) + (m1 : Int) + (m2 : Int)) := by
  unfold laws_heldLocking.f
  rw [e0]
  refine Ev.bind (held_IntS m0 (by omega) (a) (by omega) (by omega)) ?_
  refine Ev.neg (by omega) ?_
  rw [e1]
  refine Ev.bind (held_BoolS m1 (by omega) (a + (m0 : Int)) (by omega) (by omega)) ?_
  refine Ev.neg (by omega) ?_
  rw [e2]
  refine Ev.bind (held_BoolS m2 (by omega) (a + (m0 : Int) + (m1 : Int)) (by omega) (by omega)) ?_
  refine Ev.neg (by omega) ?_
  exact ev_val rfl
theorem ev_spec_l01Has (xs : List Int) (v : Int) (hl : xs.length ≤ 1048576) (b : Bool) (hb : b = true ↔ v ∈ xs) : Ev (fun k => spec_l01Has.f k xs v) b := by
  unfold spec_l01Has.f
  refine ev_scan xs.length (fun i => at_ xs (i : Int) ≠ v) true (fun k i => spec_l01Has.l0 k xs v (i : Int)) (fun ⟨i, hi, h⟩ => hb.2 (mem_at.2 ⟨i, hi, Classical.not_not.1 h⟩)) ?_ ?_
  · intro i hi _ hn hx
    refine Ev.step (fun k => by simp only [spec_l01Has.l0]; rfl) ?_
    rw [wrap_succ hi (by omega)]
    exact Ev.pos (by omega) (Ev.pos (by omega) (Ev.ite (fun h => ev_val (hx fun g => g h).symm) (fun h => hn h)))
  · intro hp
    refine Ev.step (fun k => by simp only [spec_l01Has.l0]; rfl) ?_
    exact Ev.neg (by omega) (ev_val (bool_not hb fun g => by obtain ⟨i, hi, e⟩ := mem_at.1 g; exact hp i hi e).symm)
theorem ev_impl_has (xs : List Int) (v : Int) (hl : xs.length ≤ 1048576) (b : Bool) (hb : b = true ↔ v ∈ xs) : Ev (fun k => impl_has.f k xs v) b := by
  unfold impl_has.f
  refine ev_scan xs.length (fun i => at_ xs (i : Int) ≠ v) true (fun k i => impl_has.l0 k xs v (i : Int)) (fun ⟨i, hi, h⟩ => hb.2 (mem_at.2 ⟨i, hi, Classical.not_not.1 h⟩)) ?_ ?_
  · intro i hi _ hn hx
    refine Ev.step (fun k => by simp only [impl_has.l0]; rfl) ?_
    rw [wrap_succ hi (by omega)]
    exact Ev.pos (by omega) (Ev.pos (by omega) (Ev.ite (fun h => ev_val (hx fun g => g h).symm) (fun h => hn h)))
  · intro hp
    refine Ev.step (fun k => by simp only [impl_has.l0]; rfl) ?_
    exact Ev.neg (by omega) (ev_val (bool_not hb fun g => by obtain ⟨i, hi, e⟩ := mem_at.1 g; exact hp i hi e).symm)
/-- A route is right in a plant with so many points and blocks. -/
def NeedsP (u : Int) (r : S83) : Prop := ∀ i, i < r.f0.length → (0 ≤ (at_ r.f0 (i : Int)).f0 ∧ (at_ r.f0 (i : Int)).f0 ≤ u - 1) ∧ (0 ≤ (at_ r.f0 (i : Int)).f1 ∧ (at_ r.f0 (i : Int)).f1 ≤ 1) ∧ (0 < i → (at_ r.f0 ((i : Int) - 1)).f0 < (at_ r.f0 (i : Int)).f0)
def BlocksP (n : Int) (r : S83) : Prop := ∀ i, i < r.f1.length → (0 ≤ at_ r.f1 (i : Int) ∧ at_ r.f1 (i : Int) ≤ n - 1) ∧ at_ r.f1 (i : Int) ∉ r.f1.take i
def RouteP (u n : Int) (r : S83) : Prop := NeedsP u r ∧ BlocksP n r ∧ 1 ≤ r.f1.length
theorem needs_len {u : Int} {r : S83} (h : NeedsP u r) (hu : 0 ≤ u) : (r.f0.length : Int) ≤ u := by
  have key : ∀ i, i < r.f0.length → (i : Int) ≤ (at_ r.f0 (i : Int)).f0 := by
    intro i
    induction i with
    | zero => intro hi; exact (h 0 hi).1.1
    | succ i ih =>
      intro hi
      have h1 := ih (by omega)
      have h2 := (h (i + 1) hi).2.2 (by omega)
      rw [show ((i + 1 : Nat) : Int) - 1 = (i : Int) by omega] at h2
      omega
  rcases Nat.eq_zero_or_pos r.f0.length with h0 | h0
  · omega
  · have h1 := key (r.f0.length - 1) (by omega)
    have h2 := (h (r.f0.length - 1) (by omega)).1.2
    omega
theorem count_one {xs : List Int} (v : Int) (h : ∀ i, i < xs.length → at_ xs (i : Int) ∉ xs.take i) : ∀ i, i ≤ xs.length → (xs.take i).countP (fun y => y == v) ≤ 1 := by
  intro i
  induction i with
  | zero => intro _; simp
  | succ i ih =>
    intro hi
    have h1 := ih (by omega)
    rw [count_take _ (by omega : i < xs.length)]
    by_cases e : xs[i] = v
    · have h2 := h i (by omega)
      rw [at_nat (by omega : i < xs.length), e] at h2
      have : (xs.take i).countP (fun y => y == v) = 0 := by
        rw [List.countP_eq_zero]
        intro y hy g
        rw [beq_iff_eq] at g
        exact h2 (g ▸ hy)
      rw [this]
      split <;> omega
    · rw [if_neg (by simpa using e)]; omega
theorem pigeon : ∀ (n : Nat) (xs : List Int), (∀ y, y ∈ xs → 0 ≤ y ∧ y < (n : Int)) → (∀ v, xs.countP (fun y => y == v) ≤ 1) → xs.length ≤ n
  | 0, xs, h, _ => by
    cases xs with
    | nil => simp
    | cons y r => have := h y (by simp); omega
  | n + 1, xs, h, hc => by
    have e := List.length_eq_countP_add_countP (fun y : Int => y == (n : Int)) (l := xs)
    have h1 := hc (n : Int)
    have e2 : xs.countP (fun y => ¬ (y == (n : Int)) = true) = (xs.filter (fun y => !(y == (n : Int)))).length := by
      rw [List.countP_eq_length_filter]
      congr 1
      refine List.filter_congr fun y _ => ?_
      cases (y == (n : Int)) <;> rfl
    have ih := pigeon n (xs.filter (fun y => !(y == (n : Int)))) (fun y hy => by
      rw [List.mem_filter] at hy
      have h2 := h y hy.1
      have h3 : y ≠ (n : Int) := by simpa using hy.2
      omega) (fun v => by
      have := hc v
      rw [List.countP_filter]
      refine Nat.le_trans (List.countP_mono_left fun y _ g => ?_) this
      rw [Bool.and_eq_true] at g
      exact g.1)
    omega
theorem blocks_len {n : Int} {r : S83} (h : BlocksP n r) (hn : 0 ≤ n) : (r.f1.length : Int) ≤ n := by
  have h1 : ∀ y, y ∈ r.f1 → 0 ≤ y ∧ y < (n.toNat : Int) := fun y hy => by
    obtain ⟨i, hi, rfl⟩ := mem_at.1 hy
    have := (h i hi).1
    omega
  have h2 : ∀ v, r.f1.countP (fun y => y == v) ≤ 1 := fun v => by
    have := count_one v (fun i hi => (h i hi).2) r.f1.length (Nat.le_refl _)
    rwa [List.take_length] at this
  have := pigeon n.toNat r.f1 h1 h2
  omega
theorem ev_spec_l06Route (p : S29) (r : S83) (hp : p.f0.length ≤ 1048576) (hn : 1 ≤ p.f1 ∧ p.f1 ≤ 24) (h0 : r.f0.length ≤ 1048576) (h1 : r.f1.length ≤ 1048576) (b : Bool) (hb : b = true ↔ RouteP p.f0.length p.f1 r) : Ev (fun k => spec_l06Route.f k p r) b := by
  unfold spec_l06Route.f
  have bad : ¬ RouteP p.f0.length p.f1 r → b = false := bool_not hb
  refine ev_scan r.f0.length _ false (fun k i => spec_l06Route.l0 k p r (i : Int)) (fun ⟨i, hi, h⟩ => bad fun g => h (g.1 i hi)) ?_ ?_
  · intro i hi _ hnx hx
    refine Ev.step (fun k => by simp only [spec_l06Route.l0]; rfl) ?_
    rw [wrap_succ hi (by omega), wrap_id (x := (p.f0.length : Int) - 1) (by omega) (by omega), wrap_id (x := (i : Int) - 1) (by omega) (by omega)]
    refine Ev.pos (by omega) (Ev.pos (by omega) (Ev.opt (eq_spec_l01In _ _ _) (Ev.ite (fun g1 => ?_) (fun g1 => ev_val (hx fun g => g1 (decide_eq_true g.1)).symm))))
    have g1 := of_decide_eq_true g1
    refine Ev.opt (eq_spec_l01In _ _ _) (Ev.ite (fun g2 => ?_) (fun g2 => ev_val (hx fun g => g2 (decide_eq_true g.2.1)).symm))
    have g2 := of_decide_eq_true g2
    refine Ev.ite (fun g3 => ?_) (fun g3 => hnx ⟨g1, g2, fun g => by omega⟩)
    refine Ev.pos (by omega) (Ev.pos (by omega) (Ev.ite (fun g4 => ev_val (hx fun g => by have := g.2.2 (by omega); omega).symm) (fun g4 => hnx ⟨g1, g2, fun _ => by omega⟩)))
  · intro hN
    refine Ev.step (fun k => by simp only [spec_l06Route.l0]; rfl) ?_
    refine Ev.neg (by omega) ?_
    refine ev_scan r.f1.length _ false (fun k i => spec_l06Route.l1 k p r (i : Int)) (fun ⟨i, hi, h⟩ => bad fun g => h (g.2.1 i hi)) ?_ ?_
    · intro i hi _ hnx hx
      refine Ev.step (fun k => by simp only [spec_l06Route.l1]; rfl) ?_
      rw [wrap_succ hi (by omega), wrap_id (x := p.f1 - 1) (by omega) (by omega)]
      refine Ev.pos (by omega) (Ev.pos (by omega) (Ev.opt (eq_spec_l01In _ _ _) (Ev.ite (fun g1 => ?_) (fun g1 => ev_val (hx fun g => g1 (decide_eq_true g.1)).symm))))
      have g1 := of_decide_eq_true g1
      classical
      refine Ev.pos (by omega) ?_
      rw [Int.toNat_natCast, show (0 : Int).toNat = 0 from rfl, List.drop_zero, Nat.sub_zero]
      refine Ev.bind (ev_spec_l01Has _ _ (by rw [List.length_take]; omega) (decide (at_ r.f1 (i : Int) ∈ r.f1.take i)) decide_eq_true_iff) ?_
      exact Ev.ite (fun g2 => ev_val (hx fun g => g.2 (of_decide_eq_true g2)).symm) (fun g2 => hnx ⟨g1, fun g => g2 (decide_eq_true g)⟩)
    · intro hB
      refine Ev.step (fun k => by simp only [spec_l06Route.l1]; rfl) ?_
      refine Ev.neg (by omega) (ev_val ?_)
      rw [Bool.eq_iff_iff, decide_eq_true_iff, hb]
      exact ⟨fun g => ⟨hN, hB, by omega⟩, fun g => by have := g.2.2; omega⟩
theorem ev_impl_routeOk (p : S29) (r : S83) (hp : p.f0.length ≤ 1048576) (hn : 1 ≤ p.f1 ∧ p.f1 ≤ 24) (h0 : r.f0.length ≤ 1048576) (h1 : r.f1.length ≤ 1048576) (b : Bool) (hb : b = true ↔ RouteP p.f0.length p.f1 r) : Ev (fun k => impl_routeOk.f k p r) b := by
  unfold impl_routeOk.f
  have bad : ¬ RouteP p.f0.length p.f1 r → b = false := bool_not hb
  refine ev_scan r.f0.length _ false (fun k i => impl_routeOk.l0 k p r (i : Int)) (fun ⟨i, hi, h⟩ => bad fun g => h (g.1 i hi)) ?_ ?_
  · intro i hi _ hnx hx
    refine Ev.step (fun k => by simp only [impl_routeOk.l0]; rfl) ?_
    rw [wrap_succ hi (by omega), wrap_id (x := (p.f0.length : Int) - 1) (by omega) (by omega), wrap_id (x := (i : Int) - 1) (by omega) (by omega)]
    refine Ev.pos (by omega) (Ev.pos (by omega) (Ev.opt (eq_impl_between _ _ _) (Ev.ite (fun g1 => ?_) (fun g1 => ev_val (hx fun g => g1 (decide_eq_true g.1)).symm))))
    have g1 := of_decide_eq_true g1
    refine Ev.opt (eq_impl_between _ _ _) (Ev.ite (fun g2 => ?_) (fun g2 => ev_val (hx fun g => g2 (decide_eq_true g.2.1)).symm))
    have g2 := of_decide_eq_true g2
    refine Ev.ite (fun g3 => ?_) (fun g3 => hnx ⟨g1, g2, fun g => by omega⟩)
    refine Ev.pos (by omega) (Ev.pos (by omega) (Ev.ite (fun g4 => ev_val (hx fun g => by have := g.2.2 (by omega); omega).symm) (fun g4 => hnx ⟨g1, g2, fun _ => by omega⟩)))
  · intro hN
    refine Ev.step (fun k => by simp only [impl_routeOk.l0]; rfl) ?_
    refine Ev.neg (by omega) (Ev.ite (fun g => ev_val (bad fun q => by have := q.2.2; omega).symm) (fun g0 => Ev.ite (fun g => ev_val (bad fun q => by have := blocks_len q.2.1 (by omega); omega).symm) (fun _ => ?_)))
    refine ev_scan r.f1.length _ false (fun k i => impl_routeOk.l1 k p r (i : Int)) (fun ⟨i, hi, h⟩ => bad fun g => h (g.2.1 i hi)) ?_ ?_
    · intro i hi _ hnx hx
      refine Ev.step (fun k => by simp only [impl_routeOk.l1]; rfl) ?_
      rw [wrap_succ hi (by omega), wrap_id (x := p.f1 - 1) (by omega) (by omega)]
      refine Ev.pos (by omega) (Ev.pos (by omega) (Ev.opt (eq_impl_between _ _ _) (Ev.ite (fun g1 => ?_) (fun g1 => ev_val (hx fun g => g1 (decide_eq_true g.1)).symm))))
      have g1 := of_decide_eq_true g1
      classical
      refine Ev.pos (by omega) ?_
      rw [Int.toNat_natCast, show (0 : Int).toNat = 0 from rfl, List.drop_zero, Nat.sub_zero]
      refine Ev.bind (ev_impl_has _ _ (by rw [List.length_take]; omega) (decide (at_ r.f1 (i : Int) ∈ r.f1.take i)) decide_eq_true_iff) ?_
      exact Ev.ite (fun g2 => ev_val (hx fun g => g.2 (of_decide_eq_true g2)).symm) (fun g2 => hnx ⟨g1, fun g => g2 (decide_eq_true g)⟩)
    · intro hB
      refine Ev.step (fun k => by simp only [impl_routeOk.l1]; rfl) ?_
      exact Ev.neg (by omega) (ev_val (hb.2 ⟨hN, hB, by omega⟩).symm)
def PlantP (p : S29) : Prop := (p.f0.length ≤ 16 ∧ (1 ≤ p.f1 ∧ p.f1 ≤ 24) ∧ p.f2.length ≤ 12) ∧ (∀ i, i < p.f0.length → 0 ≤ at_ p.f0 (i : Int) ∧ at_ p.f0 (i : Int) ≤ p.f1 - 1) ∧ ∀ i, i < p.f2.length → RouteP p.f0.length p.f1 (at_ p.f2 (i : Int))
def PlantB (p : S29) : Prop := p.f0.length ≤ 1048576 ∧ p.f2.length ≤ 1048576 ∧ ∀ y, y ∈ p.f2 → y.f0.length ≤ 1048576 ∧ y.f1.length ≤ 1048576
theorem ev_spec_PlantOk (p : S29) (hB : PlantB p) (b : Bool) (hb : b = true ↔ PlantP p) : Ev (fun k => spec_PlantOk.f k p) b := by
  classical
  obtain ⟨B0, B1, B2⟩ := hB
  unfold spec_PlantOk.f
  have bad : ¬ PlantP p → b = false := bool_not hb
  refine Ev.ite (fun h => ev_val (bad fun g => by have := g.1.1; omega).symm) (fun g1 => ?_)
  refine Ev.opt (eq_spec_l01In _ _ _) (Ev.ite (fun h => ?_) (fun h => ev_val (bad fun g => h (decide_eq_true g.1.2.1)).symm))
  have g2 := of_decide_eq_true h
  refine Ev.ite (fun h => ev_val (bad fun g => by have := g.1.2.2; omega).symm) (fun g3 => ?_)
  refine ev_scan p.f0.length _ false (fun k i => spec_PlantOk.l0 k p (i : Int)) (fun ⟨i, hi, h⟩ => bad fun g => h (g.2.1 i hi)) ?_ ?_
  · intro i hi _ hnx hx
    refine Ev.step (fun k => by simp only [spec_PlantOk.l0]; rfl) ?_
    rw [wrap_succ hi (by omega), wrap_id (x := p.f1 - 1) (by omega) (by omega)]
    exact Ev.pos (by omega) (Ev.pos (by omega) (Ev.opt (eq_spec_l01In _ _ _) (Ev.ite (fun h => hnx (of_decide_eq_true h)) (fun h => ev_val (hx fun g => h (decide_eq_true g)).symm))))
  · intro hU
    refine Ev.step (fun k => by simp only [spec_PlantOk.l0]; rfl) ?_
    refine Ev.neg (by omega) ?_
    refine ev_scan p.f2.length _ false (fun k i => spec_PlantOk.l1 k p (i : Int)) (fun ⟨i, hi, h⟩ => bad fun g => h (g.2.2 i hi)) ?_ ?_
    · intro i hi _ hnx hx
      have hy := B2 _ (at_mem (xs := p.f2) (i := (i : Int)) (by omega) (by omega))
      refine Ev.step (fun k => by simp only [spec_PlantOk.l1]; rfl) ?_
      rw [wrap_succ hi (by omega)]
      refine Ev.pos (by omega) (Ev.pos (by omega) (Ev.ite (fun h => ev_val (hx fun g => by have := blocks_len g.2.1 (by omega); omega).symm) (fun _ => Ev.ite (fun h => ev_val (hx fun g => by have := needs_len g.1 (by omega); omega).symm) (fun _ => ?_))))
      refine Ev.bind (ev_spec_l06Route p _ B0 g2 hy.1 hy.2 (decide (RouteP p.f0.length p.f1 (at_ p.f2 (i : Int)))) decide_eq_true_iff) ?_
      exact Ev.ite (fun h => hnx (of_decide_eq_true h)) (fun h => ev_val (hx fun g => h (decide_eq_true g)).symm)
    · intro hR
      refine Ev.step (fun k => by simp only [spec_PlantOk.l1]; rfl) ?_
      exact Ev.neg (by omega) (ev_val (hb.2 ⟨⟨by omega, g2, by omega⟩, hU, hR⟩).symm)
theorem ev_impl_PlantOk (p : S29) (hB : PlantB p) (b : Bool) (hb : b = true ↔ PlantP p) : Ev (fun k => impl_PlantOk.f k p) b := by
  classical
  obtain ⟨B0, B1, B2⟩ := hB
  unfold impl_PlantOk.f
  have bad : ¬ PlantP p → b = false := bool_not hb
  refine Ev.opt (eq_impl_between _ _ _) (Ev.ite (fun h => ?_) (fun h => ev_val (bad fun g => h (decide_eq_true g.1.2.1)).symm))
  have g2 := of_decide_eq_true h
  refine Ev.ite (fun h => ev_val (bad fun g => by have := g.1.1; omega).symm) (fun g1 => ?_)
  refine Ev.ite (fun h => ev_val (bad fun g => by have := g.1.2.2; omega).symm) (fun g3 => ?_)
  refine ev_scan p.f0.length _ false (fun k i => impl_PlantOk.l0 k p (i : Int)) (fun ⟨i, hi, h⟩ => bad fun g => h (g.2.1 i hi)) ?_ ?_
  · intro i hi _ hnx hx
    refine Ev.step (fun k => by simp only [impl_PlantOk.l0]; rfl) ?_
    rw [wrap_succ hi (by omega), wrap_id (x := p.f1 - 1) (by omega) (by omega)]
    exact Ev.pos (by omega) (Ev.pos (by omega) (Ev.opt (eq_impl_between _ _ _) (Ev.ite (fun h => hnx (of_decide_eq_true h)) (fun h => ev_val (hx fun g => h (decide_eq_true g)).symm))))
  · intro hU
    refine Ev.step (fun k => by simp only [impl_PlantOk.l0]; rfl) ?_
    refine Ev.neg (by omega) ?_
    refine ev_scan p.f2.length _ false (fun k i => impl_PlantOk.l1 k p (i : Int)) (fun ⟨i, hi, h⟩ => bad fun g => h (g.2.2 i hi)) ?_ ?_
    · intro i hi _ hnx hx
      have hy := B2 _ (at_mem (xs := p.f2) (i := (i : Int)) (by omega) (by omega))
      refine Ev.step (fun k => by simp only [impl_PlantOk.l1]; rfl) ?_
      rw [wrap_succ hi (by omega)]
      refine Ev.pos (by omega) (Ev.pos (by omega) ?_)
      refine Ev.bind (ev_impl_routeOk p _ B0 g2 hy.1 hy.2 (decide (RouteP p.f0.length p.f1 (at_ p.f2 (i : Int)))) decide_eq_true_iff) ?_
      exact Ev.ite (fun h => hnx (of_decide_eq_true h)) (fun h => ev_val (hx fun g => h (decide_eq_true g)).symm)
    · intro hR
      refine Ev.step (fun k => by simp only [impl_PlantOk.l1]; rfl) ?_
      exact Ev.neg (by omega) (ev_val (hb.2 ⟨⟨by omega, g2, by omega⟩, hU, hR⟩).symm)
-- marks of a plant
theorem markx_RouteS (x : List S83) (hb : x.length ≤ 1048576 ∧ ∀ y ∈ x, ((y.f0.length ≤ 1048576) ∧ (y.f1.length ≤ 1048576))) (a : Int) (h0 : 0 ≤ a) (h1 : a ≤ 1099511627776) : Evx (fun k => laws_markRouteS.f k x a) (fun r => a ≤ r.1) := by
  unfold laws_markRouteS.f
  refine evx_loop (fun k i (s : List S83 × Int) => laws_markRouteS.l0 k s.1 s.2 (i : Int)) x.length (fun i s => s.1.length = x.length ∧ (∀ k : Nat, i ≤ k → at_ s.1 (k : Int) = at_ x (k : Int)) ∧ a ≤ s.2 ∧ s.2 ≤ a + 3145728 * (i : Int)) _ ?_ ?_ (x, a) ⟨rfl, fun k _ => rfl, Int.le_refl _, by dsimp only; omega⟩
  · rintro i ⟨xs, n⟩ hi ⟨i1, i2, i3, i4⟩ hn
    dsimp only at i1 i2 i3 i4
    have hl := hb.2 _ (at_mem (xs := x) (i := (i : Int)) (by omega) (by omega))
    have e := i2 i (Nat.le_refl _)
    refine Evx.step (fun k => by simp only [laws_markRouteS.l0]; rfl) ?_
    rw [wrap_succ hi (by omega), Int.toNat_natCast, e]
    refine Evx.pos (by omega) (Evx.pos (by omega) (Evx.bindv (mark_NeedS (at_ x (i : Int)).f0 (by omega) n (by omega) (by omega)) ?_))
    rw [at_set_eq (by omega)]
    dsimp only
    refine Evx.bindv (mark_IntS (at_ x (i : Int)).f1 (by omega) _ (by omega) (by omega)) ?_
    dsimp only
    rw [List.set_set]
    refine hn (_, _) ⟨by dsimp only; rw [List.length_set]; exact i1, fun k hk => ?_, by dsimp only; omega, by dsimp only; omega⟩
    dsimp only
    rw [at_set_ne (by omega) (by omega)]
    exact i2 k (by omega)
  · rintro ⟨xs, n⟩ ⟨i1, i2, i3, i4⟩
    dsimp only at i1 i2 i3 i4
    refine Evx.step (fun k => by simp only [laws_markRouteS.l0]; rfl) ?_
    exact Evx.neg (by omega) (Evx.val i3)
theorem markx_Plant (p : S29) (hb : (p.f0.length ≤ 1048576) ∧ (p.f2.length ≤ 1048576 ∧ ∀ y ∈ p.f2, ((y.f0.length ≤ 1048576) ∧ (y.f1.length ≤ 1048576)))) (a : Int) (h0 : 0 ≤ a) (h1 : a ≤ 1073741824) : Evx (fun k => laws_markPlant.f k p a) (fun r => a ≤ r.1) := by
  unfold laws_markPlant.f
  refine Evx.bindv (mark_IntS p.f0 (by omega) a h0 (by omega)) ?_
  refine Evx.bind (markx_RouteS p.f2 hb.2 _ (by dsimp only; omega) (by dsimp only; omega)) (fun r hr => Evx.val ?_)
  dsimp only at hr ⊢
  omega
theorem main_FnExactBare (x0 : S24) (h0 : ok24 x0) (b0 : ((x0.f0.length ≤ 1048576) ∧ (x0.f2.length ≤ 1048576 ∧ ∀ y ∈ x0.f2, ((y.f0.length ≤ 1048576) ∧ (y.f1.length ≤ 1048576))))) : ∃ w, Ev (fun k => spec_Bare.f k (cv24_29 x0)) w ∧ Ev (fun k => impl_Bare.f k (cv24_29 x0)) w ∧ ((w.f0.length ≤ 1048576) ∧ (w.f1.length ≤ 1048576) ∧ (w.f2.length ≤ 1048576)) := by
  classical
  have hB : PlantB (cv24_29 x0) := bd_cv24_29 x0 b0
  generalize cv24_29 x0 = p at hB
  unfold spec_Bare.f impl_Bare.f
  by_cases h : PlantP p
  · have hp := h
    unfold PlantP at hp
    have hf1 : 1 ≤ p.f1 ∧ p.f1 ≤ 24 := by omega
    obtain ⟨B0, B1, _⟩ := id hB
    refine ⟨⟨List.replicate p.f0.length 0, List.replicate p.f2.length false, List.replicate p.f1.toNat false⟩, Ev.bind (ev_spec_PlantOk p hB true (by simp [h])) (Ev.pos rfl ?_), Ev.bind (ev_impl_PlantOk p hB true (by simp [h])) (Ev.pos rfl ?_), by simp; omega⟩
    · have e0 : ([] : List Int) = List.replicate 0 0 := rfl
      rw [e0]
      refine ev_fold (fun k i => spec_Bare.l0 k p (List.replicate i 0) (i : Int)) p.f0.length ?_ ?_
      · intro i hi hn
        refine Ev.step (fun k => by simp only [spec_Bare.l0]; rfl) ?_
        rw [wrap_succ hi (by omega)]
        refine Ev.pos (by omega) (Ev.pos (by rw [List.length_replicate]; simp only [List.length_cons, List.length_nil]; omega) ?_)
        rw [← List.replicate_succ']; exact hn
      · refine Ev.step (fun k => by simp only [spec_Bare.l0]; rfl) (Ev.neg (by omega) ?_)
        have e1 : ([] : List Bool) = List.replicate 0 false := rfl
        rw [e1]
        refine ev_fold (fun k i => spec_Bare.l1 k p (List.replicate p.f0.length 0) (List.replicate i false) (i : Int)) p.f2.length ?_ ?_
        · intro i hi hn
          refine Ev.step (fun k => by simp only [spec_Bare.l1]; rfl) ?_
          rw [wrap_succ hi (by omega)]
          refine Ev.pos (by omega) (Ev.pos (by rw [List.length_replicate]; simp only [List.length_cons, List.length_nil]; omega) ?_)
          rw [← List.replicate_succ']; exact hn
        · refine Ev.step (fun k => by simp only [spec_Bare.l1]; rfl) (Ev.neg (by omega) ?_)
          rw [e1]
          refine ev_fold (fun k i => spec_Bare.l2 k p (List.replicate p.f0.length 0) (List.replicate p.f2.length false) (List.replicate i false) (i : Int)) p.f1.toNat ?_ ?_
          · intro i hi hn
            refine Ev.step (fun k => by simp only [spec_Bare.l2]; rfl) ?_
            rw [wrap_succ hi (by omega)]
            refine Ev.pos (by omega) (Ev.pos (by rw [List.length_replicate]; simp only [List.length_cons, List.length_nil]; omega) ?_)
            rw [← List.replicate_succ']; exact hn
          · refine Ev.step (fun k => by simp only [spec_Bare.l2]; rfl) (Ev.neg (by omega) (ev_val rfl))
    · rw [Int.toNat_natCast, Int.toNat_natCast]
      exact Ev.pos (by omega) (Ev.pos (by omega) (Ev.pos (by omega) (Ev.pos (by omega) (Ev.pos (by omega) (Ev.pos (by omega) (ev_val rfl))))))
  · exact ⟨⟨[], [], []⟩, Ev.bind (ev_spec_PlantOk p hB false (by simp [h])) (Ev.neg (by decide) (ev_val rfl)), Ev.bind (ev_impl_PlantOk p hB false (by simp [h])) (Ev.neg (by decide) (ev_val rfl)), by decide, by decide, by decide⟩
theorem pure_FnExactBare : Pure := by
  intro x0 h0
  refine Ev.rounds ?_
  unfold laws_FnExactBare.f
  obtain ⟨r0, e0, hr0⟩ := sz_Plant x0 1048576 (by omega) (by omega) h0
  refine Ev.bind e0 ?_
  refine Ev.ite (fun _ => ev_val rfl) (fun g0 => ?_)
  obtain ⟨p0, q0, b0⟩ := hr0.resolve_left g0
  have c0_0 : x0.f0.length ≤ 1048576 := b0.1
  have c0_2 : x0.f2.length ≤ 1048576 := b0.2.1
  obtain ⟨w, es, ei, hb⟩ := main_FnExactBare x0 h0 b0
  refine Ev.bind (to_Plant x0 b0) ?_
  refine Ev.bind es ?_
  refine Ev.bind (to_Plant x0 b0) ?_
  refine Ev.bind ei ?_
  refine Ev.bind (eq_Locking _ (by first | exact hb | exact hb.1 | exact hb.2 | trivial)) ?_
  refine Ev.pos (by first | rfl | simp [sEq] | omega) ?_
  refine Ev.bind (to_Plant x0 b0) ?_
  refine Ev.bind (eq_Plant _ ⟨b0.1, ⟨by rw [List.length_map]; exact b0.2.1, fun y hy => by obtain ⟨x, hx, rfl⟩ := List.mem_map.1 hy; exact bd_cv142_83 x (b0.2.2 x hx)⟩⟩) ?_
  refine Ev.pos (by first | rfl | simp [sEq] | omega) ?_
  obtain ⟨rp_, ep_, hp_⟩ := markx_Plant (cv24_29 x0) ⟨b0.1, ⟨by rw [List.length_map]; exact b0.2.1, fun y hy => by obtain ⟨x, hx, rfl⟩ := List.mem_map.1 hy; exact bd_cv142_83 x (b0.2.2 x hx)⟩⟩ 1 (by omega) (by omega)
  refine Ev.bind ep_ ?_
  refine Ev.neg (by omega) ?_
  refine Ev.bind (eq_Locking _ (by first | exact hb | exact hb.1 | exact hb.2 | trivial)) ?_
  refine Ev.pos (by first | rfl | simp [sEq] | omega) ?_
  refine Ev.bind (mark_Locking _ (by first | exact hb | exact hb.1 | exact hb.2) _ (by first | omega | (dsimp only; omega)) (by first | omega | (dsimp only; omega))) ?_
  refine Ev.bind (held_Locking _ _ (by omega) (by omega) _ (by have := hb; omega) rfl _ (by have := hb; omega) rfl _ (by have := hb; omega) rfl) ?_
  refine Ev.neg (by first | omega | simp [sEq]) ?_
  refine Ev.pos (by first | rfl | simp [sEq] | omega) ?_
  refine Ev.bind (to_Plant x0 b0) ?_
  refine Ev.bind ei ?_
  refine Ev.bind (eq_Locking _ (by first | exact hb | exact hb.1 | exact hb.2 | trivial)) ?_
  refine Ev.pos (by first | rfl | simp [sEq] | omega) ?_
  refine Ev.bind (held_Locking _ _ (by omega) (by omega) _ (by have := hb; omega) rfl _ (by have := hb; omega) rfl _ (by have := hb; omega) rfl) ?_
  refine Ev.neg (by first | omega | simp [sEq]) ?_
  refine Ev.pos (by first | rfl | simp [sEq] | omega) ?_
  exact ev_val rfl

end Go.Proofs.Ytjfjifnmfnlfoaa.Fns
