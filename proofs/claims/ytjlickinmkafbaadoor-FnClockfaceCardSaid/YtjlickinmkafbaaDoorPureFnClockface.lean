/- The pure statement of the law FnClockface: its function, told by the engine, gives true for every input. -/
import Derived.Test.YtjlickinmkafbaaDoorSFnClockface
namespace Go.Proofs.YtjlickinmkafbaaDoor.Fns
open Go.RowKit Go.WideShapes Go.Proofs.YtjlickinmkafbaaDoor.Eng
set_option linter.unusedVariables false
set_option linter.unusedSimpArgs false
/-- From some number of rounds on there is one answer, and C holds of it. -/
def Evx {α : Type} (g : Nat → Option α) (C : α → Prop) : Prop := ∃ r, Ev g r ∧ C r
section
variable {α β : Type}
theorem Evx.val {a : α} {C : α → Prop} (h : C a) : Evx (fun _ => some a) C := ⟨a, Ev.now a, h⟩
theorem Evx.of {g : Nat → Option α} {r : α} {C : α → Prop} (h : Ev g r) (hc : C r) : Evx g C := ⟨r, h, hc⟩
theorem Evx.bind {g : Nat → Option α} {f : Nat → α → Option β} {P : α → Prop} {C : β → Prop} (h : Evx g P) (k : ∀ a, P a → Evx (fun n => f n a) C) : Evx (fun n => (g n).bind (f n)) C := by
  obtain ⟨a, h1, h2⟩ := h
  obtain ⟨r, h3, h4⟩ := k a h2
  exact ⟨r, Ev.bind h1 h3, h4⟩
theorem Evx.bindv {g : Nat → Option α} {f : Nat → α → Option β} {a : α} {C : β → Prop} (h : Ev g a) (k : Evx (fun n => f n a) C) : Evx (fun n => (g n).bind (f n)) C := by
  obtain ⟨r, h3, h4⟩ := k
  exact ⟨r, Ev.bind h h3, h4⟩
theorem Evx.opt {g : Option α} {f : Nat → α → Option β} {a : α} {C : β → Prop} (h : g = some a) (k : Evx (fun n => f n a) C) : Evx (fun n => g.bind (f n)) C := by subst h; exact k
theorem Evx.step {g f : Nat → Option α} {C : α → Prop} (h : ∀ k, g (k + 1) = f k) (k : Evx f C) : Evx g C := by
  obtain ⟨r, h3, h4⟩ := k
  exact ⟨r, Ev.step h h3, h4⟩
theorem Evx.congr {g f : Nat → Option α} {C : α → Prop} (h : ∀ k, g k = f k) (k : Evx f C) : Evx g C := by
  obtain ⟨r, h3, h4⟩ := k
  exact ⟨r, Ev.congr h h3, h4⟩
theorem Evx.ite {c : Prop} [Decidable c] {g f : Nat → Option α} {C : α → Prop} (h : c → Evx g C) (h' : ¬ c → Evx f C) : Evx (fun k => if c then g k else f k) C := by
  by_cases hc : c
  · simp only [if_pos hc]; exact h hc
  · simp only [if_neg hc]; exact h' hc
theorem Evx.pos {c : Prop} [Decidable c] {g f : Nat → Option α} {C : α → Prop} (hc : c) (h : Evx g C) : Evx (fun k => if c then g k else f k) C := by simp only [if_pos hc]; exact h
theorem Evx.neg {c : Prop} [Decidable c] {g f : Nat → Option α} {C : α → Prop} (hc : ¬ c) (h : Evx f C) : Evx (fun k => if c then g k else f k) C := by simp only [if_neg hc]; exact h
theorem Evx.mono {g : Nat → Option α} {C D : α → Prop} (h : Evx g C) (hd : ∀ r, C r → D r) : Evx g D := by
  obtain ⟨r, h1, h2⟩ := h
  exact ⟨r, h1, hd r h2⟩
theorem Evx.ev {g : Nat → Option α} {r : α} (h : Evx g (fun x => x = r)) : Ev g r := by
  obtain ⟨a, h1, rfl⟩ := h
  exact h1
theorem Ev.uniq {g : Nat → Option α} {a b : α} (h : Ev g a) (h' : Ev g b) : a = b := by
  obtain ⟨K, hK⟩ := h
  obtain ⟨K', hK'⟩ := h'
  have e1 := hK (max K K') (by omega)
  have e2 := hK' (max K K') (by omega)
  rw [e1] at e2
  exact Option.some.inj e2
end
/-- A loop that counts up, with what holds of its state at each place. -/
theorem evx_loop {R σ : Type} (G : Nat → Nat → σ → Option R) (n : Nat) (Inv : Nat → σ → Prop) (C : R → Prop)
    (hstep : ∀ i s, i < n → Inv i s → (∀ s', Inv (i + 1) s' → Evx (fun k => G k (i + 1) s') C) → Evx (fun k => G k i s) C)
    (hend : ∀ s, Inv n s → Evx (fun k => G k n s) C) : ∀ s, Inv 0 s → Evx (fun k => G k 0 s) C := by
  have key : ∀ d i, i + d = n → ∀ s, Inv i s → Evx (fun k => G k i s) C := by
    intro d
    induction d with
    | zero => intro i hi s hs; obtain rfl : i = n := by omega
              exact hend s hs
    | succ d ih => intro i hi s hs; exact hstep i s (by omega) hs (fun s' hs' => ih (i + 1) (by omega) s' hs')
  exact fun s hs => key n 0 (by omega) s hs
-- counting, taking, placing
theorem at_getD {α : Type} [Inhabited α] (xs : List α) (i : Int) : at_ xs i = xs.getD i.toNat default := rfl
theorem at_int {α : Type} [Inhabited α] {xs : List α} {i : Int} (h0 : 0 ≤ i) (h1 : i < (xs.length : Int)) : at_ xs i = xs[i.toNat]'(by omega) := by
  have h : i.toNat < xs.length := by omega
  rw [at_getD, List.getD_eq_getElem?_getD, List.getElem?_eq_getElem h]
  rfl
theorem at_mem {α : Type} [Inhabited α] {xs : List α} {i : Int} (h0 : 0 ≤ i) (h1 : i < (xs.length : Int)) : at_ xs i ∈ xs := by
  rw [at_int h0 h1]; exact List.getElem_mem _
theorem all_at {α : Type} [Inhabited α] {xs : List α} {p : α → Prop} (h : ∀ y, y ∈ xs → p y) {i : Int} (h0 : 0 ≤ i) (h1 : i < (xs.length : Int)) : p (at_ xs i) := h _ (at_mem h0 h1)
theorem all_idx {α : Type} [Inhabited α] {xs : List α} {p : α → Prop} (h : ∀ i, i < xs.length → p (at_ xs (i : Int))) {i : Int} (h0 : 0 ≤ i) (h1 : i < (xs.length : Int)) : p (at_ xs i) := by
  have := h i.toNat (by omega)
  rwa [show ((i.toNat : Nat) : Int) = i by omega] at this
theorem all_iff {α : Type} [Inhabited α] {xs : List α} {p : α → Prop} : (∀ i, i < xs.length → p (at_ xs (i : Int))) ↔ ∀ y, y ∈ xs → p y := by
  refine ⟨fun h y hy => ?_, fun h i hi => h _ (at_mem (by omega) (by omega))⟩
  obtain ⟨i, hi, rfl⟩ := List.getElem_of_mem hy
  have := h i hi
  rwa [at_nat hi] at this
theorem take_succ' {α : Type} {xs : List α} {i : Nat} (h : i < xs.length) : xs.take (i + 1) = xs.take i ++ [xs[i]] := List.take_succ_eq_append_getElem h
theorem count_take {α : Type} (p : α → Bool) {xs : List α} {i : Nat} (h : i < xs.length) : (xs.take (i + 1)).countP p = (xs.take i).countP p + (if p xs[i] then 1 else 0) := by
  rw [take_succ' h, List.countP_append, List.countP_singleton]
theorem count_le {α : Type} (p : α → Bool) (xs : List α) : xs.countP p ≤ xs.length := List.countP_le_length
theorem set_take {α : Type} {xs : List α} {i j : Nat} (v : α) (h : j < xs.length) : (xs.set i v)[j]'(by rw [List.length_set]; exact h) = if i = j then v else xs[j] := by rw [List.getElem_set]
theorem at_set_ne {α : Type} [Inhabited α] {xs : List α} {i : Nat} {j : Int} {v : α} (h0 : 0 ≤ j) (h : (i : Int) ≠ j) : at_ (xs.set i v) j = at_ xs j := by
  rw [at_getD, at_getD, List.getD_eq_getElem?_getD, List.getD_eq_getElem?_getD, List.getElem?_set_ne (by omega)]
theorem at_set_eq {α : Type} [Inhabited α] {xs : List α} {i : Nat} {v : α} (h : i < xs.length) : at_ (xs.set i v) (i : Int) = v := by
  rw [at_getD, List.getD_eq_getElem?_getD, Int.toNat_natCast, List.getElem?_set_self h]; rfl
theorem at_app_left {α : Type} [Inhabited α] (a b : List α) {i : Int} (h0 : 0 ≤ i) (h : i < (a.length : Int)) : at_ (a ++ b) i = at_ a i := by
  rw [at_getD, at_getD, List.getD_eq_getElem?_getD, List.getD_eq_getElem?_getD, List.getElem?_append_left (by omega)]
theorem at_app_right {α : Type} [Inhabited α] (a b : List α) {i : Int} (h : (a.length : Int) ≤ i) : at_ (a ++ b) i = at_ b (i - a.length) := by
  rw [at_getD, at_getD, List.getD_eq_getElem?_getD, List.getD_eq_getElem?_getD, List.getElem?_append_right (by omega)]
  congr 2; omega
theorem at_app_last {α : Type} [Inhabited α] (a : List α) (v : α) : at_ (a ++ [v]) (a.length : Int) = v := by
  rw [at_app_right a [v] (by omega), Int.sub_self]; rfl
theorem at_take {α : Type} [Inhabited α] (xs : List α) {n : Nat} {i : Int} (h0 : 0 ≤ i) (h : i < n) : at_ (xs.take n) i = at_ xs i := by
  rw [at_getD, at_getD, List.getD_eq_getElem?_getD, List.getD_eq_getElem?_getD, List.getElem?_take_of_lt (by omega)]
theorem at_rep {α : Type} [Inhabited α] (n : Nat) (v : α) {i : Int} (h0 : 0 ≤ i) (h : i < n) : at_ (List.replicate n v) i = v := by
  rw [at_int h0 (by simpa using h)]; simp
theorem tmod_of {a : Int} (b : Int) (h : 0 ≤ a) : a.tmod b = a % b := Int.tmod_eq_emod_of_nonneg h
theorem tdiv_of {a : Int} (b : Int) (h : 0 ≤ a) : a.tdiv b = a / b := Int.tdiv_eq_ediv_of_nonneg h
theorem range_at {n : Nat} {f : Nat → Int} {i : Int} (h0 : 0 ≤ i) (h : i < n) : at_ ((List.range n).map f) i = f i.toNat := by
  rw [at_int h0 (by simpa using h)]; simp
theorem range_set {α : Type} (n : Nat) (f : Nat → α) (i : Nat) (v : α) : ((List.range n).map f).set i v = (List.range n).map (fun j => if j = i then v else f j) := by
  refine List.ext_getElem (by simp) fun j h1 h2 => ?_
  simp only [List.getElem_set, List.getElem_map, List.getElem_range]
  by_cases e : i = j
  · rw [if_pos e, if_pos e.symm]
  · rw [if_neg e, if_neg (fun g => e g.symm)]
theorem range_congr {α : Type} {n : Nat} {f g : Nat → α} (h : ∀ j, j < n → f j = g j) : (List.range n).map f = (List.range n).map g :=
  List.map_congr_left fun j hj => h j (List.mem_range.1 hj)
/-- A loop that counts up and stops where P does not hold. -/
theorem ev_scan {R : Type} (n : Nat) (P : Nat → Prop) (bad : R) (G : Nat → Nat → Option R) {r : R} (hr : (∃ i, i < n ∧ ¬ P i) → r = bad)
    (hstep : ∀ i, i < n → (∀ j, j < i → P j) → (P i → Ev (fun k => G k (i + 1)) r) → (¬ P i → r = bad) → Ev (fun k => G k i) r)
    (hend : (∀ i, i < n → P i) → Ev (fun k => G k n) r) : Ev (fun k => G k 0) r := by
  have key : ∀ d i, i + d = n → (∀ j, j < i → P j) → Ev (fun k => G k i) r := by
    intro d
    induction d with
    | zero => intro i hi hp; obtain rfl : i = n := by omega
              exact hend hp
    | succ d ih =>
      intro i hi hp
      refine hstep i (by omega) hp (fun h => ih (i + 1) (by omega) fun j hj => ?_) (fun h => hr ⟨i, by omega, h⟩)
      rcases Nat.lt_or_ge j i with g | g
      · exact hp j g
      · obtain rfl : j = i := by omega
        exact h
  exact key n 0 (by omega) (fun j hj => absurd hj (by omega))
theorem bool_eq {b : Bool} {P : Prop} (hb : b = true ↔ P) (h : P) : b = true := hb.2 h
theorem not_all {n : Nat} {P : Nat → Prop} (h : ¬ ∀ i, i < n → P i) : ∃ i, i < n ∧ ¬ P i := by
  classical
  exact Classical.byContradiction fun g => h fun i hi => Classical.byContradiction fun q => g ⟨i, hi, q⟩
theorem mem_take_iff {α : Type} [Inhabited α] {xs : List α} {n : Nat} {v : α} (h : n ≤ xs.length) : v ∈ xs.take n ↔ ∃ i, i < n ∧ at_ xs (i : Int) = v := by
  constructor
  · intro hv
    obtain ⟨i, hi, e⟩ := List.getElem_of_mem hv
    rw [List.length_take] at hi
    rw [List.getElem_take] at e
    exact ⟨i, by omega, by rw [at_nat (by omega)]; exact e⟩
  · rintro ⟨i, hi, e⟩
    rw [at_nat (by omega)] at e
    rw [← e]
    exact List.mem_take_iff_getElem.2 ⟨i, by omega, rfl⟩
theorem mem_at {α : Type} [Inhabited α] {xs : List α} {v : α} : v ∈ xs ↔ ∃ i, i < xs.length ∧ at_ xs (i : Int) = v := by
  have := mem_take_iff (xs := xs) (v := v) (Nat.le_refl _)
  rwa [List.take_length] at this
open Classical in
/-- The first place where P holds, or -1. -/
noncomputable def firstI (n : Nat) (P : Nat → Prop) : Int := if h : ∃ i, i < n ∧ P i then ((Classical.choose (least_of h) : Nat) : Int) else -1
theorem firstI_spec (n : Nat) (P : Nat → Prop) : (firstI n P = -1 ∧ ∀ i, i < n → ¬ P i) ∨ ∃ i, i < n ∧ P i ∧ (∀ j, j < i → ¬ P j) ∧ firstI n P = (i : Int) := by
  classical
  unfold firstI
  by_cases h : ∃ i, i < n ∧ P i
  · rw [dif_pos h]
    have hs := Classical.choose_spec (least_of h)
    exact .inr ⟨_, hs.1.1, hs.1.2, fun j hj hp => hs.2 j hj ⟨by have := hs.1.1; omega, hp⟩, rfl⟩
  · rw [dif_neg h]
    exact .inl ⟨rfl, fun i hi hp => h ⟨i, hi, hp⟩⟩
theorem firstI_lo (n : Nat) (P : Nat → Prop) : -1 ≤ firstI n P ∧ firstI n P < (n : Int) ∧ (0 ≤ firstI n P ↔ ∃ i, i < n ∧ P i) := by
  rcases firstI_spec n P with ⟨h, h2⟩ | ⟨i, h1, h2, _, h3⟩
  · rw [h]; exact ⟨by omega, by omega, fun g => by omega, fun ⟨i, hi, hp⟩ => absurd hp (h2 i hi)⟩
  · rw [h3]; exact ⟨by omega, by omega, fun _ => ⟨i, h1, h2⟩, fun _ => by omega⟩
theorem firstI_at {n : Nat} {P : Nat → Prop} (h : 0 ≤ firstI n P) : P (firstI n P).toNat := by
  rcases firstI_spec n P with ⟨h1, _⟩ | ⟨i, h1, h2, _, h3⟩
  · omega
  · rw [h3]; exact h2
theorem firstI_find {R : Type} (n : Nat) (P : Nat → Prop) (out : Int → R) : FindR n P (fun i => out (i : Int)) (out (-1)) (out (firstI n P)) := by
  rcases firstI_spec n P with ⟨h, h2⟩ | ⟨i, h1, h2, h4, h3⟩
  · exact .inl ⟨by rw [h], h2⟩
  · exact .inr ⟨i, h1, h2, h4, by rw [h3]⟩
theorem firstI_congr {n : Nat} {P Q : Nat → Prop} (h : ∀ i, i < n → (P i ↔ Q i)) : firstI n P = firstI n Q := by
  rcases firstI_spec n P with ⟨h1, h2⟩ | ⟨i, h1, h2, h4, h3⟩
  · rcases firstI_spec n Q with ⟨g1, g2⟩ | ⟨j, g1, g2, g4, g3⟩
    · rw [h1, g1]
    · exact absurd ((h j g1).2 g2) (h2 j g1)
  · rcases firstI_spec n Q with ⟨g1, g2⟩ | ⟨j, g1, g2, g4, g3⟩
    · exact absurd ((h i h1).1 h2) (g2 i h1)
    · rw [h3, g3]
      rcases Nat.lt_trichotomy i j with w | w | w
      · exact absurd ((h i h1).1 h2) (g4 i w)
      · rw [w]
      · exact absurd ((h j g1).2 g2) (h4 j w)
theorem firstI_eq {n : Nat} {P : Nat → Prop} {i : Nat} (h : i < n) (hp : P i) (hm : ∀ j, j < i → ¬ P j) : firstI n P = (i : Int) := by
  rcases firstI_spec n P with ⟨_, h2⟩ | ⟨j, h1, h2, h4, h3⟩
  · exact absurd hp (h2 i h)
  · rw [h3]
    rcases Nat.lt_trichotomy i j with w | w | w
    · exact absurd hp (h4 i w)
    · rw [w]
    · exact absurd h2 (hm j w)
theorem firstI_no {n : Nat} {P : Nat → Prop} (h : ∀ i, i < n → ¬ P i) : firstI n P = -1 := by
  rcases firstI_spec n P with ⟨h1, _⟩ | ⟨j, h1, h2, _, _⟩
  · exact h1
  · exact absurd h2 (h j h1)
/-- .. and what it gives hangs on where it stops. -/
theorem ev_scan2 {R : Type} (n : Nat) (P : Nat → Prop) (bad : Nat → R) (G : Nat → Nat → Option R) {r : R} (hr : ∀ i, i < n → ¬ P i → (∀ j, j < i → P j) → r = bad i)
    (hstep : ∀ i, i < n → (∀ j, j < i → P j) → (P i → Ev (fun k => G k (i + 1)) r) → (¬ P i → r = bad i) → Ev (fun k => G k i) r)
    (hend : (∀ i, i < n → P i) → Ev (fun k => G k n) r) : Ev (fun k => G k 0) r := by
  have key : ∀ d i, i + d = n → (∀ j, j < i → P j) → Ev (fun k => G k i) r := by
    intro d
    induction d with
    | zero => intro i hi hp; obtain rfl : i = n := by omega
              exact hend hp
    | succ d ih =>
      intro i hi hp
      refine hstep i (by omega) hp (fun h => ih (i + 1) (by omega) fun j hj => ?_) (fun h => hr i (by omega) h hp)
      rcases Nat.lt_or_ge j i with g | g
      · exact hp j g
      · obtain rfl : j = i := by omega
        exact h
  exact key n 0 (by omega) (fun j hj => absurd hj (by omega))
theorem eq_impl_between (a b c : Int) : impl_between.f a b c = some (decide (b ≤ a ∧ a ≤ c)) := by
  unfold impl_between.f
  by_cases h : a ≥ b
  · rw [if_pos h]; simp [show b ≤ a from h]
  · rw [if_neg h]; simp [show ¬ b ≤ a from h]
def ChP (b : Int) : Prop := (97 ≤ b ∧ b ≤ 122) ∨ (48 ≤ b ∧ b ≤ 57)
def NameP (s : ByteArray) : Prop := (1 ≤ s.size ∧ s.size ≤ 12) ∧ ∀ i, i < s.size → ChP (bt s (i : Int))
def CallP (cs : List S48) (i : Nat) : Prop := (0 ≤ (at_ cs (i : Int)).f0 ∧ (at_ cs (i : Int)).f0 ≤ 29) ∧ (0 ≤ (at_ cs (i : Int)).f1 ∧ (at_ cs (i : Int)).f1 ≤ (at_ cs (i : Int)).f2) ∧ (at_ cs (i : Int)).f2 ≤ 100000 ∧ (0 < i → (at_ cs ((i : Int) - 1)).f2 < (at_ cs (i : Int)).f1 ∧ (at_ cs ((i : Int) - 1)).f0 ≠ (at_ cs (i : Int)).f0)
def TripP (t : S28) : Prop := NameP t.f0 ∧ (2 ≤ t.f1.length ∧ t.f1.length ≤ 12) ∧ ∀ i, i < t.f1.length → CallP t.f1 i
def TripB (t : S28) : Prop := t.f0.size ≤ 1048576 ∧ t.f1.length ≤ 1048576
theorem eq_impl_isMinute (a : Int) : impl_isMinute.f a = some (decide (0 ≤ a ∧ a ≤ 100000)) := by
  unfold impl_isMinute.f
  rw [eq_impl_between]
  rfl
theorem ev_impl_nameOk (s : ByteArray) (hs : s.size ≤ 1048576) (b : Bool) (hb : b = true ↔ NameP s) : Ev (fun k => impl_nameOk.f k s) b := by
  unfold impl_nameOk.f
  have bad : ¬ NameP s → b = false := bool_not hb
  refine Ev.ite (fun h => ev_val (bad fun g => by have := g.1; omega).symm) (fun g1 => Ev.ite (fun h => ev_val (bad fun g => by have := g.1; omega).symm) (fun g2 => ?_))
  refine ev_scan s.size (fun i => ChP (bt s (i : Int))) false (fun k i => impl_nameOk.l0 k s (i : Int)) (fun ⟨i, hi, h⟩ => bool_not hb fun g => h (g.2 i hi)) ?_ ?_
  · intro i hi _ hn hx
    refine Ev.step (fun k => by simp only [impl_nameOk.l0]; rfl) ?_
    rw [wrap_succ hi (by omega)]
    unfold ChP at hn hx
    have no : ¬ (97 ≤ bt s (i : Int) ∧ bt s (i : Int) ≤ 122 ∨ 48 ≤ bt s (i : Int) ∧ bt s (i : Int) ≤ 57) → Ev (fun _ => some false) b := fun h => ev_val (hx h).symm
    refine Ev.pos (by omega) (Ev.pos (by omega) (Ev.ite (fun h1 => ?_) (fun h1 => ?_)))
    · exact Ev.ite (fun h => no (by omega)) (fun h3 => Ev.ite (fun h => no (by omega)) (fun h4 => hn (.inr (by omega))))
    · exact Ev.ite (fun h2 => Ev.ite (fun h => no (by omega)) (fun h3 => Ev.ite (fun h => no (by omega)) (fun h4 => hn (.inr (by omega))))) (fun h2 => hn (.inl (by omega)))
  · intro hp
    refine Ev.step (fun k => by simp only [impl_nameOk.l0]; rfl) ?_
    exact Ev.neg (by omega) (ev_val (hb.2 ⟨by omega, hp⟩).symm)
theorem ev_impl_TripOk (t : S28) (hs : t.f0.size ≤ 1048576) (hl : t.f1.length ≤ 1048576) (b : Bool) (hb : b = true ↔ TripP t) : Ev (fun k => impl_TripOk.f k t) b := by
  classical
  unfold impl_TripOk.f
  have bad : ¬ TripP t → b = false := bool_not hb
  refine Ev.bind (ev_impl_nameOk t.f0 hs (decide (NameP t.f0)) decide_eq_true_iff) (Ev.ite (fun g1 => ?_) (fun h => ev_val (bad fun g => h (decide_eq_true g.1)).symm))
  refine Ev.opt (eq_impl_between _ _ _) (Ev.ite (fun g2 => ?_) (fun h => ev_val (bad fun g => h (decide_eq_true (by have := g.2.1; omega))).symm))
  have g2 := of_decide_eq_true g2
  refine ev_scan t.f1.length (CallP t.f1) false (fun k i => impl_TripOk.l0 k t (i : Int)) (fun ⟨i, hi, h⟩ => bad fun g => h (g.2.2 i hi)) ?_ ?_
  · intro i hi _ hn hx
    refine Ev.step (fun k => by simp only [impl_TripOk.l0]; rfl) ?_
    rw [wrap_succ hi (by omega), wrap_id (x := (i : Int) - 1) (by omega) (by omega)]
    unfold CallP at hn hx
    refine Ev.pos (by omega) (Ev.pos (by omega) (Ev.opt (eq_impl_between _ _ _) (Ev.ite (fun q1 => ?_) (fun h => ev_val (hx fun g => h (decide_eq_true g.1)).symm))))
    have q1 := of_decide_eq_true q1
    refine Ev.opt (eq_impl_isMinute _) (Ev.ite (fun q2 => ?_) (fun h => ev_val (hx fun g => h (decide_eq_true (by omega))).symm))
    have q2 := of_decide_eq_true q2
    refine Ev.opt (eq_impl_isMinute _) (Ev.ite (fun q3 => ?_) (fun h => ev_val (hx fun g => h (decide_eq_true (by omega))).symm))
    have q3 := of_decide_eq_true q3
    refine Ev.ite (fun h => ev_val (hx fun g => by omega).symm) (fun h4 => Ev.ite (fun h0 => ?_) (fun h0 => hn ⟨q1, by omega, by omega, fun g => by omega⟩))
    refine Ev.pos (by omega) (Ev.pos (by omega) (Ev.ite (fun h => ev_val (hx fun g => by have := g.2.2.2 (by omega); omega).symm) (fun h1 => Ev.ite (fun h => ev_val (hx fun g => (g.2.2.2 (by omega)).2 h.symm).symm) (fun h2 => hn ⟨q1, by omega, by omega, fun _ => ⟨by omega, fun g => h2 g.symm⟩⟩))))
  · intro hp
    refine Ev.step (fun k => by simp only [impl_TripOk.l0]; rfl) ?_
    exact Ev.neg (by omega) (ev_val (hb.2 ⟨of_decide_eq_true g1, by omega, hp⟩).symm)
theorem ev_impl_tripNamed (ts : List S28) (s : ByteArray) (hl : ts.length ≤ 1048576) : Evx (fun k => impl_tripNamed.f k ts s) (fun r => (0 ≤ r ↔ ∃ j, j < ts.length ∧ sEq (at_ ts (j : Int)).f0 s = true)) := by
  classical
  unfold impl_tripNamed.f slices_IndexFunc_1.f
  obtain ⟨r, hr⟩ := FindR.exists ts.length (fun j => sEq (at_ ts (j : Int)).f0 s = true) (fun j => ((j : Int), s)) (((-1 : Int)), s)
  refine Evx.bind (P := fun x => x = r) (Evx.of ?_ rfl) (fun x hx => ?_)
  · refine ev_find ts.length (fun j => sEq (at_ ts (j : Int)).f0 s = true) (fun j => ((j : Int), s)) ((-1 : Int), s) r (fun k i => slices_IndexFunc_1.l0 k ts s (i : Int)) hr ?_ ?_ ?_
    · intro i hi hc hn
      refine Ev.step (fun k => by simp only [slices_IndexFunc_1.l0, impl_tripNamed_1.f, Option.bind_some]; rfl) ?_
      rw [wrap_succ hi (by omega)]
      exact Ev.pos (by omega) (Ev.pos (by omega) (Ev.neg hc hn))
    · intro i hi hc _
      refine Ev.step (fun k => by simp only [slices_IndexFunc_1.l0, impl_tripNamed_1.f, Option.bind_some]; rfl) ?_
      exact Ev.pos (by omega) (Ev.pos (by omega) (Ev.pos hc (ev_val rfl)))
    · intro _
      refine Ev.step (fun k => by simp only [slices_IndexFunc_1.l0]; rfl) ?_
      exact Ev.neg (by omega) (ev_val rfl)
  · subst hx
    refine Evx.val ?_
    rcases hr with ⟨rfl, h⟩ | ⟨i, h1, h2, _, rfl⟩
    · exact ⟨fun g => absurd g (by show ¬ (0 ≤ (-1 : Int)); omega), fun ⟨j, hj, g⟩ => absurd g (h j hj)⟩
    · exact ⟨fun _ => ⟨i, h1, h2⟩, fun _ => by show 0 ≤ (i : Int); omega⟩
def NewP (ts : List S28) (i : Nat) : Prop := TripP (at_ ts (i : Int)) ∧ ∀ j, j < i → sEq (at_ ts (j : Int)).f0 (at_ ts (i : Int)).f0 ≠ true
def TableP (ts : List S28) : Prop := ts.length ≤ 24 ∧ ∀ i, i < ts.length → NewP ts i
def TableB (ts : List S28) : Prop := ts.length ≤ 1048576 ∧ ∀ y, y ∈ ts → TripB y
theorem ev_impl_TableOk (ts : List S28) (hB : TableB ts) (b : Bool) (hb : b = true ↔ TableP ts) : Ev (fun k => impl_TableOk.f k ts) b := by
  classical
  obtain ⟨B0, B1⟩ := hB
  unfold impl_TableOk.f
  have bad : ¬ TableP ts → b = false := bool_not hb
  refine Ev.ite (fun h => ev_val (bad fun g => by have := g.1; omega).symm) (fun g1 => ?_)
  refine ev_scan ts.length (NewP ts) false (fun k i => impl_TableOk.l0 k ts (i : Int)) (fun ⟨i, hi, h⟩ => bad fun g => h (g.2 i hi)) ?_ ?_
  · intro i hi _ hn hx
    have hy := B1 _ (at_mem (xs := ts) (i := (i : Int)) (by omega) (by omega))
    refine Ev.step (fun k => by simp only [impl_TableOk.l0]; rfl) ?_
    refine Ev.pos (by omega) (Ev.pos (by omega) (Ev.bind (ev_impl_TripOk _ hy.1 hy.2 (decide (TripP (at_ ts (i : Int)))) decide_eq_true_iff) (Ev.ite (fun g => ?_) (fun h => ev_val (hx fun g => h (decide_eq_true g.1)).symm))))
    refine Ev.pos (by omega) ?_
    rw [Int.toNat_natCast, show (0 : Int).toNat = 0 from rfl, List.drop_zero, Nat.sub_zero, wrap_succ hi (by omega)]
    have hlt : (ts.take i).length = i := by rw [List.length_take]; omega
    obtain ⟨r, e1, e2⟩ := ev_impl_tripNamed (ts.take i) (at_ ts (i : Int)).f0 (by omega)
    have e3 : 0 ≤ r ↔ ∃ j, j < i ∧ sEq (at_ ts (j : Int)).f0 (at_ ts (i : Int)).f0 = true := by
      rw [e2, hlt]
      exact ⟨fun ⟨j, hj, g⟩ => ⟨j, hj, by rw [at_take ts (by omega) (by omega)] at g; exact g⟩, fun ⟨j, hj, g⟩ => ⟨j, hj, by rw [at_take ts (by omega) (by omega)]; exact g⟩⟩
    refine Ev.bind e1 (Ev.ite (fun h => ev_val (hx fun q => ?_).symm) (fun h => hn ⟨of_decide_eq_true g, fun j hj q => h (e3.2 ⟨j, hj, q⟩)⟩))
    obtain ⟨j, hj, w⟩ := e3.1 h
    exact q.2 j hj w
  · intro hp
    refine Ev.step (fun k => by simp only [impl_TableOk.l0]; rfl) ?_
    exact Ev.neg (by omega) (ev_val (hb.2 ⟨by omega, hp⟩).symm)
theorem call_bd {t : S28} (h : TripP t) {i : Int} (h0 : 0 ≤ i) (h1 : i < (t.f1.length : Int)) : (0 ≤ (at_ t.f1 i).f0 ∧ (at_ t.f1 i).f0 ≤ 29) ∧ (0 ≤ (at_ t.f1 i).f1 ∧ (at_ t.f1 i).f1 ≤ (at_ t.f1 i).f2) ∧ (at_ t.f1 i).f2 ≤ 100000 := by
  have h2 := h.2.2 i.toNat (by omega)
  unfold CallP at h2
  rw [show ((i.toNat : Nat) : Int) = i by omega] at h2
  exact ⟨h2.1, h2.2.1, h2.2.2.1⟩
-- strings as lists of bytes
def byt (s : ByteArray) : List UInt8 := s.data.toList
theorem byt_len (s : ByteArray) : (byt s).length = s.size := by unfold byt ByteArray.size; exact Array.length_toList
theorem byt_mk (l : List UInt8) : byt ⟨l.toArray⟩ = l := by simp [byt]
theorem byt_app (a b : ByteArray) : byt (a ++ b) = byt a ++ byt b := by simp [byt, ByteArray.data_append]
theorem byt_ext {a b : ByteArray} (h : byt a = byt b) : a = b := by
  cases a with | mk x => cases b with | mk y => 
  congr 1
  exact Array.toList_inj.1 h
theorem mk_byt (s : ByteArray) : (⟨(byt s).toArray⟩ : ByteArray) = s := byt_ext (byt_mk _)
theorem bt_eq (s : ByteArray) {i : Nat} (h : i < (byt s).length) : bt s (i : Int) = ((byt s)[i].toNat : Int) := by
  have h2 : i < s.size := by rw [← byt_len]; exact h
  unfold bt
  rw [dif_pos (by rw [Int.toNat_natCast]; exact h2)]
  rfl
def ChU (b : UInt8) : Prop := (97 ≤ b.toNat ∧ b.toNat ≤ 122) ∨ (48 ≤ b.toNat ∧ b.toNat ≤ 57)
theorem name_iff (s : ByteArray) : NameP s ↔ (1 ≤ (byt s).length ∧ (byt s).length ≤ 12) ∧ ∀ b, b ∈ byt s → ChU b := by
  unfold NameP
  rw [byt_len]
  refine and_congr Iff.rfl ⟨fun h b hb => ?_, fun h i hi => ?_⟩
  · obtain ⟨i, hi, rfl⟩ := List.getElem_of_mem hb
    have := h i (by rw [← byt_len]; exact hi)
    rw [bt_eq s hi] at this
    unfold ChP at this
    unfold ChU
    omega
  · have hi2 : i < (byt s).length := by rw [byt_len]; exact hi
    have := h _ (List.getElem_mem hi2)
    rw [bt_eq s hi2]
    unfold ChU at this
    unfold ChP
    omega
/-- The decimal digits. -/
def dec (n : Nat) : List UInt8 := if h : n < 10 then [UInt8.ofNat (48 + n)] else dec (n / 10) ++ [UInt8.ofNat (48 + n % 10)]
termination_by n
theorem dec_lt {n : Nat} (h : n < 10) : dec n = [UInt8.ofNat (48 + n)] := by rw [dec, dif_pos h]
theorem dec_ge {n : Nat} (h : ¬ n < 10) : dec n = dec (n / 10) ++ [UInt8.ofNat (48 + n % 10)] := by rw [dec, dif_neg h]
def decZ (n : Nat) : List UInt8 := if n = 0 then [] else dec n
theorem decZ_step {n : Nat} (h : n ≠ 0) : decZ n = decZ (n / 10) ++ [UInt8.ofNat (48 + n % 10)] := by
  unfold decZ
  rw [if_neg h]
  by_cases g : n < 10
  · rw [dec_lt g, if_pos (by omega), Nat.mod_eq_of_lt g]; rfl
  · rw [dec_ge g, if_neg (by omega)]
theorem dig_nat {d : Nat} (h : d < 10) : (UInt8.ofNat (48 + d)).toNat = 48 + d := by
  rw [UInt8.toNat_ofNat']
  omega
theorem dec_dig (n : Nat) : ∀ b, b ∈ dec n → 48 ≤ b.toNat ∧ b.toNat ≤ 57 := by
  induction n using Nat.strongRecOn with
  | ind n ih =>
    intro b hb
    by_cases g : n < 10
    · rw [dec_lt g, List.mem_singleton] at hb
      rw [hb, dig_nat g]; omega
    · rw [dec_ge g, List.mem_append, List.mem_singleton] at hb
      rcases hb with hb | hb
      · exact ih (n / 10) (by omega) b hb
      · rw [hb, dig_nat (by omega)]; omega
theorem dec_len_le : ∀ (k n : Nat), n < 10 ^ (k + 1) → (dec n).length ≤ k + 1 := by
  intro k
  induction k with
  | zero => intro n h; rw [dec_lt (by simpa using h)]; simp
  | succ k ih =>
    intro n h
    by_cases g : n < 10
    · rw [dec_lt g]; simp
    · rw [dec_ge g, List.length_append, List.length_singleton]
      have := ih (n / 10) (by rw [Nat.pow_succ] at h; omega)
      omega
theorem dec_len_pos (n : Nat) : 1 ≤ (dec n).length := by
  by_cases g : n < 10
  · rw [dec_lt g]; simp
  · rw [dec_ge g]; simp
theorem ofs_u8 {d : Int} (h0 : 0 ≤ d) (h1 : d < 10) : UInt8.ofNat (IntKind.u8.wrap (wrap64 (48 + d))).toNat = UInt8.ofNat (48 + d.toNat) := by
  rw [wrap_id (by omega) (by omega)]
  have e : IntKind.u8.wrap (48 + d) = 48 + d := by
    have h2 : d = 0 ∨ d = 1 ∨ d = 2 ∨ d = 3 ∨ d = 4 ∨ d = 5 ∨ d = 6 ∨ d = 7 ∨ d = 8 ∨ d = 9 := by omega
    rcases h2 with rfl | rfl | rfl | rfl | rfl | rfl | rfl | rfl | rfl | rfl <;> decide
  rw [e]
  congr 1
  omega
theorem ev_spec_l01Num (n : Nat) (hn : n < 10 ^ 15) : Ev (fun k => spec_l01Num.f k (n : Int)) ⟨(dec n).toArray⟩ := by
  unfold spec_l01Num.f
  refine Ev.ite (fun h => ev_val ?_) (fun h0 => ?_)
  · obtain rfl : n = 0 := by omega
    rw [dec_lt (by omega)]; rfl
  have key : ∀ j m : Nat, m < 10 ^ j → m < 10 ^ 15 → ∀ s : ByteArray, s.size + j ≤ 1000 → Ev (fun k => spec_l01Num.l0 k (n : Int) (m : Int) s) ⟨(decZ m ++ byt s).toArray⟩ := by
    intro j
    induction j with
    | zero =>
      intro m hm _ s hs
      obtain rfl : m = 0 := by simpa using hm
      refine Ev.step (fun k => by simp only [spec_l01Num.l0]; rfl) ?_
      refine Ev.pos rfl (Ev.neg (by omega) (ev_val (byt_ext ?_)))
      rw [byt_mk]; rfl
    | succ j ih =>
      intro m hm hm2 s hs
      refine Ev.step (fun k => by simp only [spec_l01Num.l0]; rfl) ?_
      refine Ev.ite (fun g => ?_) (fun g => ?_)
      · obtain rfl : m = 0 := by omega
        refine Ev.neg (by omega) (ev_val (byt_ext ?_))
        rw [byt_mk]; rfl
      · have hmod : ((m : Int).tmod 10) = ((m % 10 : Nat) : Int) := by rw [tmod_of 10 (by omega)]; omega
        have hdiv : wrap64 ((m : Int).tdiv 10) = ((m / 10 : Nat) : Int) := by rw [tdiv_of 10 (by omega), wrap_id (by omega) (by omega)]; omega
        rw [hmod, hdiv]
        refine Ev.neg (by omega) ?_
        rw [ofs_u8 (by omega) (by omega), Int.toNat_natCast]
        refine Ev.pos (by show 1 + s.size ≤ _; omega) ?_
        have e : (decZ m ++ byt s) = decZ (m / 10) ++ byt ((⟨#[UInt8.ofNat (48 + m % 10)]⟩ : ByteArray) ++ s) := by
          rw [byt_app, decZ_step (by omega), List.append_assoc]; rfl
        rw [e]
        refine ih (m / 10) (by rw [Nat.pow_succ] at hm; omega) (by omega) _ ?_
        rw [ByteArray.size_append]
        show 1 + s.size + j ≤ _
        omega
  have := key 15 n hn hn ⟨#[]⟩ (by decide)
  have e : decZ n ++ byt ⟨#[]⟩ = dec n := by unfold decZ; rw [if_neg (by omega)]; simp [byt]
  rw [e] at this
  exact this
-- times and trips as texts
def bs (l : List UInt8) : ByteArray := ⟨l.toArray⟩
theorem bs_app (a b : List UInt8) : bs a ++ bs b = bs (a ++ b) := byt_ext (by unfold bs; rw [byt_app, byt_mk, byt_mk, byt_mk])
theorem bs_size (a : List UInt8) : (bs a).size = a.length := by rw [← byt_len]; unfold bs; rw [byt_mk]
theorem bs_byt (s : ByteArray) : bs (byt s) = s := mk_byt s
/-- Two digits at least. -/
def two (n : Nat) : List UInt8 := if n < 10 then 48 :: dec n else dec n
def timeL (m : Nat) : List UInt8 := two (m / 60) ++ 58 :: two (m % 60)
def callL (c : S48) : List UInt8 := 32 :: dec c.f0.toNat ++ 64 :: timeL c.f1.toNat ++ 45 :: timeL c.f2.toNat
def callsL (cs : List S48) : List UInt8 := cs.flatMap callL
theorem decDigits_eq (n : Nat) : Go.Lib.decDigits n = dec n := by
  induction n using Nat.strongRecOn with
  | ind n ih =>
    rw [Go.Lib.decDigits]
    by_cases g : n < 10
    · rw [dif_pos g, dec_lt g]
    · rw [dif_neg g, dec_ge g, ih (n / 10) (by omega)]
theorem itoa_nat (n : Nat) : Go.Lib.itoa (n : Int) = dec n := by
  unfold Go.Lib.itoa
  rw [if_neg (by omega), Int.toNat_natCast, decDigits_eq]
theorem ev_Itoa (n : Nat) (h : n < 1000000) : strconv_Itoa.f (n : Int) = some (bs (dec n)) := by
  unfold strconv_Itoa.f
  rw [if_pos (by omega), if_pos (by omega), itoa_nat]
  rfl
theorem dec_len2 (n : Nat) : (dec n).length < 2 ↔ n < 10 := by
  by_cases g : n < 10
  · rw [dec_lt g]; simp [g]
  · rw [dec_ge g, List.length_append, List.length_singleton]
    have := dec_len_pos (n / 10)
    omega
theorem dec_len7 {n : Nat} (h : n < 1000000) : (dec n).length ≤ 6 := dec_len_le 5 n (by omega)
theorem two_len {n : Nat} (h : n < 1000000) : (two n).length ≤ 7 := by
  unfold two
  have := dec_len7 h
  split
  · simp only [List.length_cons]; omega
  · omega
theorem timeL_len {m : Nat} (h : m ≤ 100000) : (timeL m).length ≤ 15 := by
  unfold timeL
  rw [List.length_append, List.length_cons]
  have h1 := two_len (n := m / 60) (by omega)
  have h2 := two_len (n := m % 60) (by omega)
  omega
theorem eq_twoDigits (n : Nat) (h : n < 1000000) : impl_twoDigits.f (n : Int) = some (bs (two n)) := by
  unfold impl_twoDigits.f two
  rw [ev_Itoa n h]
  have h7 := dec_len7 h
  by_cases g : n < 10
  · rw [if_pos (by omega), if_pos g, Option.bind_some, if_pos (by rw [bs_size]; show 1 + _ ≤ _; omega)]
    exact congrArg some (bs_app [48] (dec n))
  · rw [if_neg (by omega), if_neg g, Option.bind_some]
theorem eq_impl_TimeText (m : Nat) (h : m ≤ 100000) : impl_TimeText.f (m : Int) = some (bs (timeL m)) := by
  unfold impl_TimeText.f timeL
  have l1 := two_len (n := m / 60) (by omega)
  have l2 := two_len (n := m % 60) (by omega)
  rw [eq_impl_isMinute, Option.bind_some, if_pos (decide_eq_true (by omega)), tdiv_of 60 (by omega), tmod_of 60 (by omega), wrap_id (by omega) (by omega), show (m : Int) / 60 = ((m / 60 : Nat) : Int) by omega, show (m : Int) % 60 = ((m % 60 : Nat) : Int) by omega, eq_twoDigits _ (by omega), eq_twoDigits _ (by omega), Option.bind_some, Option.bind_some]
  have e1 : bs (two (m / 60)) ++ (⟨#[58]⟩ : ByteArray) = bs (two (m / 60) ++ [58]) := bs_app _ [58]
  rw [e1, bs_size, bs_size, bs_size, if_pos (by show _ + 1 ≤ _; omega), if_pos (by rw [List.length_append]; show _ + 1 + _ ≤ _; omega), bs_app, List.append_assoc]
  rfl
theorem callL_len {c : S48} (h : c.f0.toNat < 1000000) (h1 : c.f1.toNat ≤ 100000) (h2 : c.f2.toNat ≤ 100000) : (callL c).length ≤ 39 := by
  unfold callL
  have a := dec_len7 h
  have b := timeL_len h1
  have d := timeL_len h2
  simp only [List.length_append, List.length_cons]
  omega
def tripL (t : S28) : List UInt8 := byt t.f0 ++ callsL t.f1
theorem callsL_succ (cs : List S48) {i : Nat} (h : i < cs.length) : callsL (cs.take (i + 1)) = callsL (cs.take i) ++ callL (at_ cs (i : Int)) := by
  unfold callsL
  rw [take_succ' h, List.flatMap_append, at_nat h]
  simp
theorem callsL_len {t : S28} (ht : TripP t) : ∀ i : Nat, i ≤ t.f1.length → (callsL (t.f1.take i)).length ≤ 39 * i
  | 0, _ => by simp [callsL]
  | i + 1, hi => by
    have ih := callsL_len ht i (by omega)
    have hc := call_bd ht (i := (i : Int)) (by omega) (by omega)
    have hl := callL_len (c := at_ t.f1 (i : Int)) (by omega) (by omega) (by omega)
    rw [callsL_succ _ (by omega), List.length_append]
    omega
theorem ev_impl_TripText {t : S28} (ht : TripP t) : Ev (fun k => impl_TripText.l0 k t t.f0 0) (bs (tripL t)) := by
  have hl := ht.2.1
  have hn := ht.1.1
  have hb := byt_len t.f0
  have key := ev_fold (fun k i => impl_TripText.l0 k t (bs (byt t.f0 ++ callsL (t.f1.take i))) (i : Int)) t.f1.length (r := bs (tripL t)) ?_ ?_
  · simpa [callsL, bs_byt] using key
  · intro i hi hnx
    have hc := call_bd ht (i := (i : Int)) (by omega) (by omega)
    have hcl := callsL_len ht i (by omega)
    rw [callsL_succ _ hi] at hnx
    refine Ev.step (fun k => by simp only [impl_TripText.l0]; rfl) ?_
    rw [wrap_succ hi (by omega)]
    have e0 : (at_ t.f1 (i : Int)).f0 = (((at_ t.f1 (i : Int)).f0.toNat : Nat) : Int) := by omega
    have e1 : (at_ t.f1 (i : Int)).f1 = (((at_ t.f1 (i : Int)).f1.toNat : Nat) : Int) := by omega
    have e2 : (at_ t.f1 (i : Int)).f2 = (((at_ t.f1 (i : Int)).f2.toNat : Nat) : Int) := by omega
    have n0 := ev_Itoa (at_ t.f1 (i : Int)).f0.toNat (by omega)
    have n1 := eq_impl_TimeText (at_ t.f1 (i : Int)).f1.toNat (by omega)
    have n2 := eq_impl_TimeText (at_ t.f1 (i : Int)).f2.toNat (by omega)
    rw [← e0] at n0
    rw [← e1] at n1
    rw [← e2] at n2
    have l0 := dec_len7 (n := (at_ t.f1 (i : Int)).f0.toNat) (by omega)
    have l1 := timeL_len (m := (at_ t.f1 (i : Int)).f1.toNat) (by omega)
    have l2 := timeL_len (m := (at_ t.f1 (i : Int)).f2.toNat) (by omega)
    have e32 : (⟨#[32]⟩ : ByteArray) = bs [32] := rfl
    have e64 : (⟨#[64]⟩ : ByteArray) = bs [64] := rfl
    have e45 : (⟨#[45]⟩ : ByteArray) = bs [45] := rfl
    rw [e32, e64, e45]
    refine Ev.pos (by omega) (Ev.pos (by omega) (Ev.opt n0 (Ev.pos ?_ (Ev.pos ?_ (Ev.opt n1 (Ev.pos ?_ (Ev.pos ?_ (Ev.opt n2 (Ev.pos ?_ (Ev.pos ?_ ?_))))))))))
    all_goals simp only [bs_app, bs_size, List.length_append, List.length_cons, List.length_nil]
    iterate 6 (first | omega | skip)
    have ef : byt t.f0 ++ callsL (List.take i t.f1) ++ ([32] ++ dec (at_ t.f1 (i : Int)).f0.toNat ++ [64] ++ timeL (at_ t.f1 (i : Int)).f1.toNat ++ [45] ++ timeL (at_ t.f1 (i : Int)).f2.toNat) = byt t.f0 ++ (callsL (List.take i t.f1) ++ callL (at_ t.f1 (i : Int))) := by
      unfold callL
      simp
    rw [ef]
    exact hnx
  · refine Ev.step (fun k => by simp only [impl_TripText.l0]; rfl) ?_
    rw [List.take_length]
    exact Ev.neg (by omega) (ev_val rfl)
theorem at_ext {α : Type} [Inhabited α] {xs ys : List α} (hl : ys.length = xs.length) (h : ∀ k : Nat, k < xs.length → at_ ys (k : Int) = at_ xs (k : Int)) : ys = xs := by
  refine List.ext_getElem hl fun k h1 h2 => ?_
  have := h k h2
  rwa [at_nat h1, at_nat h2] at this
-- pieces of texts
theorem ext_bs (s : ByteArray) (a b : Nat) : s.extract a b = bs (((byt s).drop a).take (b - a)) := by
  refine byt_ext ?_
  unfold bs
  rw [byt_mk]
  exact Go.Lib.extract_data s a b
/-- The pieces between the bytes of one kind. -/
def pcs (c : UInt8) : List UInt8 → List (List UInt8)
  | [] => [[]]
  | b :: l => if b = c then [] :: pcs c l else match pcs c l with
    | [] => [[b]]
    | p :: r => (b :: p) :: r
theorem pcs_no {c : UInt8} : ∀ {a : List UInt8}, c ∉ a → pcs c a = [a]
  | [], _ => rfl
  | b :: a, h => by
    rw [List.mem_cons, not_or] at h
    rw [pcs, if_neg (fun e => h.1 e.symm), pcs_no h.2]
theorem pcs_app {c : UInt8} {l : List UInt8} : ∀ {a : List UInt8}, c ∉ a → pcs c (a ++ c :: l) = a :: pcs c l
  | [], _ => by rw [List.nil_append, pcs, if_pos rfl]
  | b :: a, h => by
    rw [List.mem_cons, not_or] at h
    rw [List.cons_append, pcs, if_neg (fun e => h.1 e.symm), pcs_app h.2]
theorem cut_at (c : UInt8) : ∀ l : List UInt8, c ∉ l ∨ ∃ a r, l = a ++ c :: r ∧ c ∉ a
  | [] => .inl (by simp)
  | b :: l => by
    by_cases e : b = c
    · exact .inr ⟨[], l, by rw [e]; rfl, by simp⟩
    · rcases cut_at c l with h | ⟨a, r, h1, h2⟩
      · exact .inl (by rw [List.mem_cons, not_or]; exact ⟨fun g => e g.symm, h⟩)
      · exact .inr ⟨b :: a, r, by rw [h1]; rfl, by rw [List.mem_cons, not_or]; exact ⟨fun g => e g.symm, h2⟩⟩
theorem pcs_len (c : UInt8) : ∀ (n : Nat) (l : List UInt8), l.length ≤ n → 1 ≤ (pcs c l).length ∧ (pcs c l).length ≤ l.length + 1 ∧ ∀ p, p ∈ pcs c l → p.length ≤ l.length := by
  intro n
  induction n with
  | zero =>
    intro l hl
    obtain rfl : l = [] := List.eq_nil_of_length_eq_zero (by omega)
    exact ⟨by simp [pcs], by simp [pcs], fun p hp => by simp [pcs] at hp; subst hp; simp⟩
  | succ n ih =>
    intro l hl
    rcases cut_at c l with h | ⟨a, r, h1, h2⟩
    · rw [pcs_no h]
      exact ⟨by simp, by simp, fun p hp => by rw [List.mem_singleton] at hp; rw [hp]; omega⟩
    · subst h1
      rw [pcs_app h2]
      simp only [List.length_append, List.length_cons] at hl ⊢
      have := ih r (by omega)
      refine ⟨by omega, by omega, fun p hp => ?_⟩
      rcases List.mem_cons.1 hp with e | e
      · rw [e]; omega
      · have := this.2.2 p e; omega
theorem index_no {c : UInt8} : ∀ {a : List UInt8}, c ∉ a → Go.Lib.index a [c] = -1
  | [], _ => by simp [Go.Lib.index]
  | b :: a, h => by
    rw [List.mem_cons, not_or] at h
    have hp : ([c] : List UInt8).isPrefixOf (b :: a) = false := by simp [List.isPrefixOf, h.1]
    rw [Go.Lib.index, hp, index_no h.2]
    rfl
theorem index_app {c : UInt8} {r : List UInt8} : ∀ {a : List UInt8}, c ∉ a → Go.Lib.index (a ++ c :: r) [c] = (a.length : Int)
  | [], _ => by rw [List.nil_append, Go.Lib.index]; simp [List.isPrefixOf]
  | b :: a, h => by
    rw [List.mem_cons, not_or] at h
    have hp : ([c] : List UInt8).isPrefixOf (b :: (a ++ c :: r)) = false := by simp [List.isPrefixOf, h.1]
    have hne : ¬ ((a.length : Int) == -1) = true := fun e => by have := beq_iff_eq.1 e; omega
    rw [List.cons_append, Go.Lib.index, hp, index_app h.2, if_neg (by simp), if_neg hne, List.length_cons]
    omega
theorem splitK_pcs (c : UInt8) : ∀ (n : Nat) (l : List UInt8), l.length ≤ n → Go.Lib.splitK [c] 0 (l.count c) l = pcs c l := by
  intro n
  induction n with
  | zero =>
    intro l hl
    obtain rfl : l = [] := List.eq_nil_of_length_eq_zero (by omega)
    rfl
  | succ n ih =>
    intro l hl
    rcases cut_at c l with h | ⟨a, r, h1, h2⟩
    · rw [pcs_no h, List.count_eq_zero.2 h]; rfl
    · subst h1
      have hc : (a ++ c :: r).count c = r.count c + 1 := by rw [List.count_append, List.count_eq_zero.2 h2, List.count_cons_self]; omega
      have hix := index_app (r := r) h2
      have hne : ¬ ((a.length : Int) == -1) = true := fun e => by have := beq_iff_eq.1 e; omega
      rw [pcs_app h2, hc, Go.Lib.splitK, hix, if_neg hne]
      simp only [List.length_append, List.length_cons] at hl
      have e1 : (a ++ c :: r).take ((a.length : Int).toNat + 0) = a := by rw [Int.toNat_natCast, Nat.add_zero, List.take_left]
      have e2 : (a ++ c :: r).drop ((a.length : Int).toNat + ([c] : List UInt8).length) = r := by
        rw [Int.toNat_natCast, List.length_singleton, ← List.drop_drop, List.drop_left]; rfl
      rw [e1, e2, ih r (by omega)]
theorem split_pcs (s : ByteArray) (c : UInt8) : Go.Lib.splitB ⟨#[c]⟩ 0 (Go.Lib.countB s ⟨#[c]⟩) s = (pcs c (byt s)).map bs := by
  have hk : Go.Lib.countB s ⟨#[c]⟩ = (byt s).count c := Go.Lib.count_one c (byt s)
  have h := Go.Lib.splitB_data ⟨#[c]⟩ 0 (Go.Lib.countB s ⟨#[c]⟩) s
  rw [hk] at h ⊢
  have h2 : (Go.Lib.splitB ⟨#[c]⟩ 0 ((byt s).count c) s).map byt = pcs c (byt s) := h.trans (splitK_pcs c _ (byt s) (Nat.le_refl _))
  rw [← h2, List.map_map]
  conv => lhs; rw [← List.map_id (Go.Lib.splitB ⟨#[c]⟩ 0 ((byt s).count c) s)]
  exact List.map_congr_left fun x _ => (bs_byt x).symm
theorem eq_strings_Split (s : ByteArray) (hs : s.size ≤ 1048576) (c : UInt8) : strings_Split.f s ⟨#[c]⟩ = some ((pcs c (byt s)).map bs) := by
  unfold strings_Split.f
  rw [if_pos (by omega), if_pos (by show 1 ≤ 1; omega), split_pcs]
theorem eq_strings_Cut (s : ByteArray) (hs : s.size ≤ 1048576) (c : UInt8) : ∃ a b f, strings_Cut.f s ⟨#[c]⟩ = some (a, b, f) ∧ a.size ≤ s.size ∧ b.size ≤ s.size ∧ ∀ p r, byt s = p ++ c :: r → c ∉ p → a = bs p ∧ b = bs r := by
  unfold strings_Cut.f
  rw [if_pos (by omega)]
  have hl := byt_len s
  have e : Go.Lib.cut s.data.toList (⟨#[c]⟩ : ByteArray).data.toList = Go.Lib.cut (byt s) [c] := rfl
  rw [e]
  refine ⟨_, _, _, rfl, ?_, ?_, ?_⟩
  · rw [← byt_len, byt_mk]
    unfold Go.Lib.cut
    split
    · rw [List.length_take]; omega
    · show (byt s).length ≤ _; omega
  · rw [← byt_len, byt_mk]
    unfold Go.Lib.cut
    split
    · rw [List.length_drop]; omega
    · simp
  · intro p r hp hc
    have hix := index_app (r := r) hc
    have e2 : Go.Lib.cut (byt s) [c] = (p, r, true) := by
      unfold Go.Lib.cut
      rw [hp, hix, if_pos (by omega), Int.toNat_natCast, List.take_left, List.length_singleton, ← List.drop_drop, List.drop_left]
      rfl
    rw [e2]
    exact ⟨rfl, rfl⟩
-- numbers and times, read
def numS (x : Int) (b : UInt8) : Int := 10 * x + ((b.toNat : Int) - 48)
def numL (l : List UInt8) : Int := l.foldl numS 0
theorem numL_app (l : List UInt8) (b : UInt8) : numL (l ++ [b]) = 10 * numL l + ((b.toNat : Int) - 48) := by unfold numL; rw [List.foldl_append]; rfl
theorem numL_dec (n : Nat) : numL (dec n) = (n : Int) := by
  induction n using Nat.strongRecOn with
  | ind n ih =>
    by_cases g : n < 10
    · rw [dec_lt g]
      show 10 * 0 + (((UInt8.ofNat (48 + n)).toNat : Int) - 48) = _
      rw [dig_nat g]; omega
    · rw [dec_ge g, numL_app, ih (n / 10) (by omega), dig_nat (by omega)]; omega
theorem numL_two (n : Nat) : numL (two n) = (n : Int) := by
  unfold two
  by_cases g : n < 10
  · rw [if_pos g, dec_lt g]
    show 10 * (10 * 0 + (((48 : UInt8).toNat : Int) - 48)) + (((UInt8.ofNat (48 + n)).toNat : Int) - 48) = _
    rw [dig_nat g]
    have : ((48 : UInt8).toNat : Int) = 48 := rfl
    omega
  · rw [if_neg g]; exact numL_dec n
def DigU (b : UInt8) : Prop := 48 ≤ b.toNat ∧ b.toNat ≤ 57
theorem two_dig (n : Nat) : ∀ b, b ∈ two n → DigU b := by
  unfold two
  intro b hb
  split at hb
  · rcases List.mem_cons.1 hb with e | e
    · rw [e]; exact ⟨by decide, by decide⟩
    · exact dec_dig n b e
  · exact dec_dig n b hb
theorem numL_take {l : List UInt8} {i : Nat} (h : i < l.length) : numL (l.take (i + 1)) = 10 * numL (l.take i) + ((l[i].toNat : Int) - 48) := by rw [take_succ' h, numL_app]
theorem numL_bd (l : List UInt8) : ∀ i : Nat, i ≤ l.length → i ≤ 8 → -(10 ^ i * 60) + 60 ≤ numL (l.take i) ∧ numL (l.take i) ≤ 10 ^ i * 300 - 300
  | 0, _, _ => by simp [numL]
  | i + 1, hi, h8 => by
    have ih := numL_bd l i (by omega) (by omega)
    have hb := (l[i]'(by omega)).toNat_lt
    rw [numL_take (by omega), Int.pow_succ]
    have hp : (1 : Int) ≤ 10 ^ i := by exact_mod_cast Nat.one_le_pow _ _ (by omega)
    omega
theorem p10_le : ∀ i : Nat, i ≤ 8 → (10 : Int) ^ i ≤ 100000000 := by decide
theorem u8_dig {x : Int} (h0 : 48 ≤ x) (h1 : x ≤ 57) : IntKind.i64.wrap (IntKind.u8.wrap (x - (48 : Int))) = x - 48 := by
  have h2 : x = 48 ∨ x = 49 ∨ x = 50 ∨ x = 51 ∨ x = 52 ∨ x = 53 ∨ x = 54 ∨ x = 55 ∨ x = 56 ∨ x = 57 := by omega
  rcases h2 with rfl | rfl | rfl | rfl | rfl | rfl | rfl | rfl | rfl | rfl <;> decide
theorem i64_byte (b : UInt8) : IntKind.i64.wrap ((b.toNat : Nat) : Int) = (b.toNat : Int) := by
  have := b.toNat_lt
  rw [i64w]
  exact wrap_id (x := (b.toNat : Int)) (by omega) (by omega)
/-- What digits reads: some number; of digits alone, their number. -/
theorem evx_digits (s : ByteArray) (hs : s.size ≤ 1048576) (most : Int) (hm : most ≤ 8) : Evx (fun k => impl_digits.f k s most) (fun v => (-1 ≤ v ∧ v ≤ 30000000000) ∧ (1 ≤ s.size → (s.size : Int) ≤ most → (∀ b, b ∈ byt s → DigU b) → v = numL (byt s))) := by
  have hl := byt_len s
  unfold impl_digits.f
  refine Evx.ite (fun g => Evx.val ⟨by omega, fun h => by omega⟩) (fun g0 => Evx.ite (fun g => Evx.val ⟨by omega, fun _ h => by omega⟩) (fun g1 => ?_))
  have key : ∀ d i : Nat, i + d = s.size → Evx (fun k => impl_digits.l0 k s (numL ((byt s).take i)) (i : Int)) (fun v => (-1 ≤ v ∧ v ≤ 30000000000) ∧ (1 ≤ s.size → (s.size : Int) ≤ most → (∀ b, b ∈ byt s → DigU b) → v = numL (byt s))) ∨ (∃ b, b ∈ (byt s).take i ∧ ¬ DigU b) := by
    intro d
    induction d with
    | zero =>
      intro i hi
      obtain rfl : i = s.size := by omega
      by_cases hd : ∃ b, b ∈ (byt s).take s.size ∧ ¬ DigU b
      · exact .inr hd
      refine .inl (Evx.step (fun k => by simp only [impl_digits.l0]; rfl) (Evx.neg (by omega) (Evx.val ?_)))
      have hb := numL_bd (byt s) s.size (by omega) (by omega)
      have hp := p10_le s.size (by omega)
      have e : (byt s).take s.size = byt s := List.take_of_length_le (by omega)
      rw [e] at hb hd ⊢
      have h0 : 0 ≤ numL (byt s) := by
        have : ∀ l : List UInt8, (∀ b, b ∈ l → DigU b) → ∀ x : Int, 0 ≤ x → 0 ≤ l.foldl numS x := by
          intro l
          induction l with
          | nil => intro _ x hx; exact hx
          | cons b r ih =>
            intro hb x hx
            have := hb b (by simp)
            unfold DigU at this
            exact ih (fun c hc => hb c (by simp [hc])) _ (by unfold numS; omega)
        exact this (byt s) (fun b hb => Classical.byContradiction fun q => hd ⟨b, hb, q⟩) 0 (by omega)
      exact ⟨by omega, fun _ _ _ => rfl⟩
    | succ d ih =>
      intro i hi
      have hi' : i < (byt s).length := by omega
      by_cases hd : ∃ b, b ∈ (byt s).take i ∧ ¬ DigU b
      · exact .inr hd
      have hcc : bt s (i : Int) = (((byt s)[i]).toNat : Int) := bt_eq s hi'
      refine .inl (Evx.step (fun k => by simp only [impl_digits.l0]; rfl) ?_)
      rw [hcc]
      have bad : ¬ DigU (byt s)[i] → Evx (fun _ => some (-1 : Int)) (fun v => (-1 ≤ v ∧ v ≤ 30000000000) ∧ (1 ≤ s.size → (s.size : Int) ≤ most → (∀ b, b ∈ byt s → DigU b) → v = numL (byt s))) := fun h => Evx.val ⟨by omega, fun _ _ g => absurd (g _ (List.getElem_mem hi')) h⟩
      refine Evx.pos (by omega) (Evx.pos (by omega) (Evx.ite (fun g => bad (by unfold DigU; omega)) (fun g2 => Evx.ite (fun g => bad (by unfold DigU; omega)) (fun g3 => ?_))))
      have hb := numL_bd (byt s) i (by omega) (by omega)
      have hp := p10_le i (by omega)
      rw [u8_dig (by omega) (by omega), wrap_id (x := 10 * _) (by omega) (by omega), wrap_id (x := (i : Int) + 1) (by omega) (by omega), wrap_id (by omega) (by omega), ← numL_take hi', show (i : Int) + 1 = ((i + 1 : Nat) : Int) by omega]
      rcases ih (i + 1) (by omega) with h | ⟨b, h1, h2⟩
      · exact h
      · rw [take_succ' hi', List.mem_append, List.mem_singleton] at h1
        rcases h1 with h1 | h1
        · exact absurd ⟨b, h1, h2⟩ hd
        · subst h1; exact absurd ⟨by omega, by omega⟩ h2
  rcases key s.size 0 (by omega) with h | ⟨b, h1, _⟩
  · exact h
  · simp at h1
theorem two_len2 {n : Nat} (h : n < 100) : (two n).length = 2 := by
  unfold two
  by_cases g : n < 10
  · rw [if_pos g, dec_lt g]; rfl
  · rw [if_neg g, dec_ge g, dec_lt (by omega)]; rfl
theorem two_pos (n : Nat) : 2 ≤ (two n).length := by
  unfold two
  have h0 := dec_len_pos n
  split
  · rw [List.length_cons]; omega
  · have := (dec_len2 n).1; omega
theorem two_le4 {n : Nat} (h : n < 10000) : (two n).length ≤ 4 := by
  unfold two
  have := dec_len_le 3 n (by omega)
  split
  · rename_i g; rw [List.length_cons, dec_lt g]; simp
  · exact this
theorem timeL_mid {m : Nat} {s : ByteArray} (h : byt s = timeL m) (hm : m ≤ 100000) : 5 ≤ s.size ∧ s.size ≤ 7 ∧ s.size = (two (m / 60)).length + 3 ∧ (byt s).take (s.size - 3) = two (m / 60) ∧ (byt s).drop (s.size - 2) = two (m % 60) ∧ (byt s)[s.size - 3]? = some 58 := by
  have h1 := two_len2 (n := m % 60) (by omega)
  have h2 := two_pos (m / 60)
  have h3 := two_le4 (n := m / 60) (by omega)
  have hl := byt_len s
  rw [h] at hl
  unfold timeL at hl h
  simp only [List.length_append, List.length_cons] at hl
  have e : s.size = (two (m / 60)).length + 3 := by omega
  refine ⟨by omega, by omega, e, ?_, ?_, ?_⟩
  · rw [h, e, Nat.add_sub_cancel, List.take_left]
  · rw [h, show s.size - 2 = (two (m / 60)).length + 1 by omega, ← List.drop_drop, List.drop_left]; rfl
  · rw [h, e, Nat.add_sub_cancel, List.getElem?_append_right (Nat.le_refl _), Nat.sub_self]; rfl
theorem sEq_iff (a b : ByteArray) : sEq a b = true ↔ byt a = byt b := by
  unfold sEq byt
  rw [beq_iff_eq, ByteArray.toList_eq, ByteArray.toList_eq]
theorem ext_size (s : ByteArray) (a b : Nat) : (s.extract a b).size ≤ s.size := by
  rw [ext_bs, bs_size, List.length_take, List.length_drop, byt_len]; omega
theorem opt_impl_TimeText (x : Int) (h0 : 0 ≤ x) : ∃ r, impl_TimeText.f x = some r ∧ (x ≤ 100000 → r = bs (timeL x.toNat)) := by
  by_cases h : x ≤ 100000
  · exact ⟨_, by rw [show x = ((x.toNat : Nat) : Int) by omega]; exact eq_impl_TimeText x.toNat (by omega), fun _ => rfl⟩
  · refine ⟨⟨#[]⟩, ?_, fun g => absurd g h⟩
    unfold impl_TimeText.f
    rw [eq_impl_isMinute, Option.bind_some, if_neg (by rw [decide_eq_true_iff]; omega)]
theorem bt_time {s : ByteArray} {m : Nat} (hm : m ≤ 100000) (e : byt s = timeL m) : bt s ((s.size - 3 : Nat) : Int) = 58 := by
  have h := (timeL_mid e hm).2.2.2.2.2
  obtain ⟨h1, h2⟩ := List.getElem?_eq_some_iff.1 h
  rw [bt_eq s h1, h2]; rfl
theorem evx_impl_ReadTime (s : ByteArray) (hs : s.size ≤ 1048576) : Evx (fun k => impl_ReadTime.f k s) (fun v => ∀ m : Nat, m ≤ 100000 → byt s = timeL m → v = (m : Int)) := by
  have hl := byt_len s
  unfold impl_ReadTime.f
  refine Evx.ite (fun g => Evx.val fun m hm e => by have := (timeL_mid e hm).1; omega) (fun g0 => ?_)
  rw [wrap_id (x := (s.size : Int) - 3) (by omega) (by omega), wrap_id (x := (s.size : Int) - 2) (by omega) (by omega), show (s.size : Int) - 3 = ((s.size - 3 : Nat) : Int) by omega, show (s.size : Int) - 2 = ((s.size - 2 : Nat) : Int) by omega]
  refine Evx.pos (by omega) (Evx.pos (by omega) (Evx.ite (fun g1 => ?_) (fun g1 => Evx.val fun m hm e => absurd (bt_time hm e) g1)))
  refine Evx.pos (by omega) ?_
  have z : (0 : Int).toNat = 0 := rfl
  rw [Int.toNat_natCast, Int.toNat_natCast, Int.toNat_natCast, z]
  have xs1 := ext_size s 0 (s.size - 3)
  have xs2 := ext_size s (s.size - 2) s.size
  refine Evx.bind (evx_digits (s.extract 0 (s.size - 3)) (by omega) 4 (by omega)) (fun x1 hx1 => ?_)
  obtain ⟨c1, e1⟩ := hx1
  refine Evx.pos (by omega) (Evx.pos (by omega) ?_)
  refine Evx.bind (evx_digits (s.extract (s.size - 2) s.size) (by omega) 2 (by omega)) (fun x2 hx2 => ?_)
  obtain ⟨c2, e2⟩ := hx2
  have hv : ∀ m : Nat, m ≤ 100000 → byt s = timeL m → x1 = ((m / 60 : Nat) : Int) ∧ x2 = ((m % 60 : Nat) : Int) := by
    intro m hm e
    obtain ⟨t1, t2, t3, t4, t5, _⟩ := timeL_mid e hm
    have p1 : s.extract 0 (s.size - 3) = bs (two (m / 60)) := by rw [ext_bs, List.drop_zero, Nat.sub_zero, t4]
    have p2 : s.extract (s.size - 2) s.size = bs (two (m % 60)) := by
      rw [ext_bs, t5, List.take_of_length_le (by rw [two_len2 (by omega)]; omega)]
    rw [p1] at e1
    rw [p2] at e2
    rw [bs_size] at e1 e2
    have b1 : byt (bs (two (m / 60))) = two (m / 60) := byt_mk _
    have b2 : byt (bs (two (m % 60))) = two (m % 60) := byt_mk _
    rw [b1] at e1
    rw [b2] at e2
    have l2 := two_len2 (n := m % 60) (by omega)
    exact ⟨(e1 (by omega) (by omega) (two_dig _)).trans (numL_two _), (e2 (by omega) (by omega) (two_dig _)).trans (numL_two _)⟩
  refine Evx.ite (fun g => Evx.val fun m hm e => by have := (hv m hm e).1; omega) (fun g2 => Evx.ite (fun g => Evx.val fun m hm e => by have := (hv m hm e).2; omega) (fun g3 => ?_))
  rw [wrap_id (x := 60 * x1) (by omega) (by omega), wrap_id (x := 60 * x1 + x2) (by omega) (by omega)]
  obtain ⟨r, hr, hr2⟩ := opt_impl_TimeText (60 * x1 + x2) (by omega)
  refine Evx.opt hr (Evx.ite (fun g => Evx.val fun m hm e => by have := hv m hm e; omega) (fun g => Evx.val fun m hm e => ?_))
  have h1 := hv m hm e
  have e3 : 60 * x1 + x2 = (m : Int) := by omega
  refine absurd ?_ g
  rw [hr2 (by omega), e3, Int.toNat_natCast, ← e, bs_byt]
  simp [sEq]
theorem numL_nn {l : List UInt8} (h : ∀ b, b ∈ l → DigU b) : 0 ≤ numL l := by
  have : ∀ l : List UInt8, (∀ b, b ∈ l → DigU b) → ∀ x : Int, 0 ≤ x → 0 ≤ l.foldl numS x := by
    intro l
    induction l with
    | nil => intro _ x hx; exact hx
    | cons b r ih =>
      intro hb x hx
      have := hb b (by simp)
      unfold DigU at this
      exact ih (fun c hc => hb c (by simp [hc])) _ (by unfold numS; omega)
  exact this l h 0 (by omega)
-- trips, read
def wordL (c : S48) : List UInt8 := dec c.f0.toNat ++ 64 :: (timeL c.f1.toNat ++ 45 :: timeL c.f2.toNat)
theorem callL_word (c : S48) : callL c = 32 :: wordL c := by unfold callL wordL; simp
theorem dec_no {n : Nat} {c : UInt8} (h : ¬ DigU c) : c ∉ dec n := fun g => h (dec_dig n c g)
theorem timeL_no {m : Nat} {c : UInt8} (h : ¬ DigU c) (h2 : c ≠ 58) : c ∉ timeL m := by
  unfold timeL
  rw [List.mem_append, List.mem_cons, not_or, not_or]
  exact ⟨fun g => h (two_dig _ c g), h2, fun g => h (two_dig _ c g)⟩
theorem word_no (c : S48) : (32 : UInt8) ∉ wordL c := by
  unfold wordL
  rw [List.mem_append, List.mem_cons, List.mem_append, List.mem_cons, not_or, not_or, not_or, not_or]
  have h : ¬ DigU 32 := by unfold DigU; decide
  exact ⟨dec_no h, by decide, timeL_no h (by decide), by decide, timeL_no h (by decide)⟩
theorem pcs_calls : ∀ (cs : List S48) (a : List UInt8), (32 : UInt8) ∉ a → pcs 32 (a ++ callsL cs) = a :: cs.map wordL
  | [], a, h => by unfold callsL; rw [List.flatMap_nil, List.append_nil, pcs_no h]; rfl
  | c :: r, a, h => by
    have e : a ++ callsL (c :: r) = a ++ 32 :: (wordL c ++ callsL r) := by unfold callsL; rw [List.flatMap_cons, callL_word]; rfl
    rw [e, pcs_app h, pcs_calls r (wordL c) (word_no c)]
    rfl
theorem name_no {t : S28} (ht : TripP t) : (32 : UInt8) ∉ byt t.f0 := by
  intro h
  have := ((name_iff t.f0).1 ht.1).2 32 h
  unfold ChU at this
  revert this
  decide
theorem pcs_trip {t : S28} (ht : TripP t) : pcs 32 (tripL t) = byt t.f0 :: t.f1.map wordL := pcs_calls t.f1 _ (name_no ht)
/-- What is read of a text: the one trip whose text it is. -/
def ReadP (s : ByteArray) (r : S28 × Bool) : Prop := (∃ t, TripP t ∧ byt s = tripL t ∧ r = (t, true)) ∨ ((∀ t, TripP t → byt s ≠ tripL t) ∧ r = (⟨ByteArray.empty, []⟩, false))
theorem cand_read {s : ByteArray} {c : S28} {r : S28 × Bool} (hc : ∀ t, TripP t → byt s = tripL t → c = t) (h1 : TripP c → sEq (bs (tripL c)) s = true → r = (c, true)) (h2 : ¬ TripP c ∨ ¬ sEq (bs (tripL c)) s = true → r = (⟨ByteArray.empty, []⟩, false)) : ReadP s r := by
  classical
  by_cases h : ∃ t, TripP t ∧ byt s = tripL t
  · obtain ⟨t, ht, e⟩ := h
    have := hc t ht e
    subst this
    exact .inl ⟨c, ht, e, h1 ht ((sEq_iff _ _).2 (by rw [e]; exact byt_mk _))⟩
  · refine .inr ⟨fun t ht e => h ⟨t, ht, e⟩, h2 ?_⟩
    by_cases g : TripP c
    · refine .inr fun q => h ⟨c, g, ?_⟩
      have := (sEq_iff _ _).1 q
      rw [← this]; exact byt_mk _
    · exact .inl g
theorem evx_impl_TripText (t : S28) (h : t.f0.size ≤ 1048576) (h2 : t.f1.length ≤ 1048576) (s : ByteArray) (hc : ∀ u, TripP u → byt s = tripL u → t = u) : Evx (fun k => (impl_TripOk.f k t).bind fun x9 => if x9 = true then (impl_TripText.f k t).bind fun x10 => if sEq x10 s = true then some (t, true) else some ((⟨ByteArray.empty, ([] : List S48)⟩ : S28), false) else some ((⟨ByteArray.empty, ([] : List S48)⟩ : S28), false)) (ReadP s) := by
  classical
  refine Evx.bindv (ev_impl_TripOk t h h2 (decide (TripP t)) decide_eq_true_iff) (Evx.ite (fun g => ?_) (fun g => Evx.val (cand_read hc (fun q => absurd (decide_eq_true q) g) fun _ => rfl)))
  have ht := of_decide_eq_true g
  have ev : Ev (fun k => impl_TripText.f k t) (bs (tripL t)) := by
    unfold impl_TripText.f
    exact Ev.bind (ev_impl_TripOk t h h2 true (by simp [ht])) (Ev.pos rfl (ev_impl_TripText ht))
  refine Evx.bindv ev (Evx.ite (fun g2 => Evx.val (cand_read hc (fun _ _ => rfl) fun q => ?_)) (fun g2 => Evx.val (cand_read hc (fun _ q => absurd q g2) fun _ => rfl)))
  rcases q with q | q
  · exact absurd ht q
  · exact absurd g2 q
theorem pcs_bd (c : UInt8) (s : ByteArray) : 1 ≤ ((pcs c (byt s)).map bs).length ∧ ((pcs c (byt s)).map bs).length ≤ s.size + 1 ∧ ∀ i : Int, 0 ≤ i → i < ((((pcs c (byt s)).map bs).length : Nat) : Int) → (at_ ((pcs c (byt s)).map bs) i).size ≤ s.size := by
  have h := pcs_len c _ (byt s) (Nat.le_refl _)
  rw [byt_len] at h
  rw [List.length_map]
  refine ⟨h.1, h.2.1, fun i h0 h1 => ?_⟩
  obtain ⟨p, hp, e⟩ := List.mem_map.1 (at_mem (xs := (pcs c (byt s)).map bs) h0 (by rw [List.length_map]; exact h1))
  rw [← e, bs_size]
  exact h.2.2 p hp
theorem at_words {t : S28} {s : ByteArray} (ht : TripP t) (e : byt s = tripL t) (i : Nat) (hi : i < t.f1.length) : at_ ((pcs 32 (byt s)).map bs) ((i + 1 : Nat) : Int) = bs (wordL (at_ t.f1 (i : Int))) := by
  rw [e, pcs_trip ht, List.map_cons, List.map_map, at_int (by omega) (by simp; omega), at_nat hi]
  simp
theorem len_words {t : S28} {s : ByteArray} (ht : TripP t) (e : byt s = tripL t) : ((pcs 32 (byt s)).map bs).length = t.f1.length + 1 := by rw [e, pcs_trip ht]; simp
theorem name_words {t : S28} {s : ByteArray} (ht : TripP t) (e : byt s = tripL t) : at_ ((pcs 32 (byt s)).map bs) 0 = t.f0 := by
  rw [e, pcs_trip ht, List.map_cons]
  exact bs_byt t.f0
theorem dec_pos2 {n : Nat} (h : n ≤ 29) : (dec n).length ≤ 2 := dec_len_le 1 n (by omega)
theorem evx_impl_ReadTrip (s : ByteArray) (hs : s.size ≤ 1048576) : Evx (fun k => (strings_Split.f s (⟨#[32]⟩ : ByteArray)).bind fun x1 => if 0 < (x1.length : Int) then if 1 ≤ (x1.length : Int) then impl_ReadTrip.l0 k s x1 ([] : List S48) 0 else none else none) (ReadP s) := by
  refine Evx.opt (eq_strings_Split s hs 32) ?_
  obtain ⟨p1, p2, p3⟩ := pcs_bd 32 s
  refine Evx.pos (by omega) (Evx.pos (by omega) ?_)
  have hX : ∀ X : List ByteArray, (X.drop (1 : Int).toNat).take ((X.length : Int).toNat - (1 : Int).toNat) = X.drop 1 := by
    intro X
    have e1 : (1 : Int).toNat = 1 := rfl
    rw [e1, Int.toNat_natCast]
    exact List.take_of_length_le (by rw [List.length_drop]; omega)
  have aX : ∀ i : Nat, at_ (((pcs 32 (byt s)).map bs).drop 1) (i : Int) = at_ ((pcs 32 (byt s)).map bs) ((i + 1 : Nat) : Int) := by
    intro i
    rw [at_getD, at_getD, List.getD_eq_getElem?_getD, List.getD_eq_getElem?_getD, List.getElem?_drop, Int.toNat_natCast, Int.toNat_natCast, Nat.add_comm 1 i]
  refine evx_loop (fun k i (cs : List S48) => impl_ReadTrip.l0 k s ((pcs 32 (byt s)).map bs) cs (i : Int)) (((pcs 32 (byt s)).map bs).length - 1) (fun i cs => cs.length = i ∧ ∀ t, TripP t → byt s = tripL t → cs = t.f1.take i) (ReadP s) ?_ ?_ [] ⟨rfl, fun t _ _ => by simp⟩
  · intro i cs hi ⟨c1, c2⟩ hn
    have hws := p3 ((i + 1 : Nat) : Int) (by omega) (by omega)
    obtain ⟨a, b, f, hcut, ha, hb, hgood⟩ := eq_strings_Cut (at_ ((pcs 32 (byt s)).map bs) ((i + 1 : Nat) : Int)) (by omega) 64
    obtain ⟨a2, b2, f2, hcut2, ha2, hb2, hgood2⟩ := eq_strings_Cut b (by omega) 45
    refine Evx.step (fun k => by simp only [impl_ReadTrip.l0]; rfl) ?_
    rw [hX, aX, wrap_succ (by omega : i < 1048577) (by omega)]
    refine Evx.pos (by rw [List.length_drop]; omega) (Evx.pos (by omega) (Evx.opt hcut (Evx.opt hcut2 ?_)))
    refine Evx.bind (evx_digits a (by omega) 2 (by omega)) (fun x6 h6 => ?_)
    refine Evx.bind (evx_impl_ReadTime a2 (by omega)) (fun x7 h7 => ?_)
    refine Evx.bind (evx_impl_ReadTime b2 (by omega)) (fun x8 h8 => ?_)
    refine Evx.pos (by simp only [List.length_cons, List.length_nil]; omega) (hn _ ⟨by rw [List.length_append, c1]; rfl, fun t ht e => ?_⟩)
    have hlen := len_words ht e
    have hit : i < t.f1.length := by omega
    have hc := call_bd ht (i := (i : Int)) (by omega) (by omega)
    have hw := at_words ht e i hit
    have hbw : byt (at_ ((pcs 32 (byt s)).map bs) ((i + 1 : Nat) : Int)) = wordL (at_ t.f1 (i : Int)) := by rw [hw]; exact byt_mk _
    have n64 : ¬ DigU 64 := by unfold DigU; decide
    have n45 : ¬ DigU 45 := by unfold DigU; decide
    obtain ⟨ea, eb⟩ := hgood _ _ hbw (dec_no n64)
    obtain ⟨ea2, eb2⟩ := hgood2 _ _ (by rw [eb]; exact byt_mk _) (timeL_no n45 (by decide))
    have dl := dec_pos2 (n := (at_ t.f1 (i : Int)).f0.toNat) (by omega)
    have dl2 := dec_len_pos (at_ t.f1 (i : Int)).f0.toNat
    rw [ea] at h6
    rw [bs_size] at h6
    have v6 := h6.2 (by omega) (by omega) (by
      intro c hc2
      have : byt (bs (dec (at_ t.f1 (i : Int)).f0.toNat)) = dec (at_ t.f1 (i : Int)).f0.toNat := byt_mk _
      rw [this] at hc2
      exact dec_dig _ c hc2)
    have b6 : byt (bs (dec (at_ t.f1 (i : Int)).f0.toNat)) = dec (at_ t.f1 (i : Int)).f0.toNat := byt_mk _
    rw [b6, numL_dec] at v6
    have v7 := h7 (at_ t.f1 (i : Int)).f1.toNat (by omega) (by rw [ea2]; exact byt_mk _)
    have v8 := h8 (at_ t.f1 (i : Int)).f2.toNat (by omega) (by rw [eb2]; exact byt_mk _)
    have e3 : (⟨x6, x7, x8⟩ : S48) = at_ t.f1 (i : Int) := by
      rw [v6, v7, v8, show (((at_ t.f1 (i : Int)).f0.toNat : Nat) : Int) = (at_ t.f1 (i : Int)).f0 by omega, show (((at_ t.f1 (i : Int)).f1.toNat : Nat) : Int) = (at_ t.f1 (i : Int)).f1 by omega, show (((at_ t.f1 (i : Int)).f2.toNat : Nat) : Int) = (at_ t.f1 (i : Int)).f2 by omega]
    rw [e3, c2 t ht e, take_succ' hit, at_nat hit]
  · intro cs ⟨c1, c2⟩
    refine Evx.step (fun k => by simp only [impl_ReadTrip.l0]; rfl) ?_
    rw [hX]
    refine Evx.neg (by rw [List.length_drop]; omega) ?_
    have h0 := p3 0 (by omega) (by omega)
    refine evx_impl_TripText ⟨at_ ((pcs 32 (byt s)).map bs) 0, cs⟩ (by dsimp only; omega) (by dsimp only; omega) s (fun u hu e => ?_)
    have hl := len_words hu e
    have := c2 u hu e
    rw [name_words hu e, this, List.take_of_length_le (by omega)]
theorem trip_inj {t u : S28} (ht : TripP t) (hu : TripP u) (e : tripL t = tripL u) : t = u := by
  have e1 : byt (bs (tripL t)) = tripL t := byt_mk _
  have a1 := pcs_trip ht
  have a2 := pcs_trip hu
  rw [e, a2] at a1
  injection a1 with n1 n2
  have hl : u.f1.length = t.f1.length := by have := congrArg List.length n2; simpa using this
  have hn : u.f0 = t.f0 := byt_ext n1
  have hc : u.f1 = t.f1 := by
    refine at_ext hl (fun k hk => ?_)
    have hk2 : k < u.f1.length := by omega
    have w : wordL (at_ u.f1 (k : Int)) = wordL (at_ t.f1 (k : Int)) := by
      have g1 : (u.f1.map wordL)[k]? = (t.f1.map wordL)[k]? := by rw [n2]
      rw [List.getElem?_map, List.getElem?_map, List.getElem?_eq_getElem hk2, List.getElem?_eq_getElem hk] at g1
      rw [at_nat hk2, at_nat hk]
      exact Option.some.inj g1
    have c1 := call_bd ht (i := (k : Int)) (by omega) (by omega)
    have c2 := call_bd hu (i := (k : Int)) (by omega) (by omega)
    have n64 : ¬ DigU 64 := by unfold DigU; decide
    have n45 : ¬ DigU 45 := by unfold DigU; decide
    have p1 := congrArg (pcs 64) w
    unfold wordL at p1
    rw [pcs_app (dec_no n64), pcs_app (dec_no n64), pcs_no (by rw [List.mem_append, List.mem_cons, not_or, not_or]; exact ⟨timeL_no n64 (by decide), by decide, timeL_no n64 (by decide)⟩), pcs_no (by rw [List.mem_append, List.mem_cons, not_or, not_or]; exact ⟨timeL_no n64 (by decide), by decide, timeL_no n64 (by decide)⟩)] at p1
    injection p1 with d1 d2
    injection d2 with d2 _
    have p2 := congrArg (pcs 45) d2
    rw [pcs_app (timeL_no n45 (by decide)), pcs_app (timeL_no n45 (by decide)), pcs_no (timeL_no n45 (by decide)), pcs_no (timeL_no n45 (by decide))] at p2
    injection p2 with d3 d4
    injection d4 with d4 _
    have v1 : ((at_ u.f1 (k : Int)).f0.toNat : Int) = (at_ t.f1 (k : Int)).f0.toNat := (numL_dec _).symm.trans ((congrArg numL d1).trans (numL_dec _))
    have tm : ∀ {m n : Nat}, timeL m = timeL n → m = n := by
      intro m n q
      have n58 : ¬ DigU 58 := by unfold DigU; decide
      have q1 := congrArg (pcs 58) q
      unfold timeL at q1
      rw [pcs_app (fun g => n58 (two_dig _ _ g)), pcs_app (fun g => n58 (two_dig _ _ g)), pcs_no (fun g => n58 (two_dig _ _ g)), pcs_no (fun g => n58 (two_dig _ _ g))] at q1
      injection q1 with q2 q3
      injection q3 with q3 _
      have w1 : ((m / 60 : Nat) : Int) = ((n / 60 : Nat) : Int) := (numL_two _).symm.trans ((congrArg numL q2).trans (numL_two _))
      have w2 : ((m % 60 : Nat) : Int) = ((n % 60 : Nat) : Int) := (numL_two _).symm.trans ((congrArg numL q3).trans (numL_two _))
      omega
    have v2 := tm d3
    have v3 := tm d4
    have f0 : (at_ u.f1 (k : Int)).f0 = (at_ t.f1 (k : Int)).f0 := by omega
    have f1 : (at_ u.f1 (k : Int)).f1 = (at_ t.f1 (k : Int)).f1 := by omega
    have f2 : (at_ u.f1 (k : Int)).f2 = (at_ t.f1 (k : Int)).f2 := by omega
    generalize at_ u.f1 (k : Int) = x at f0 f1 f2
    generalize at_ t.f1 (k : Int) = y at f0 f1 f2
    cases x; cases y
    simp only at f0 f1 f2
    rw [f0, f1, f2]
  cases t; cases u
  simp only at hn hc
  rw [hn, hc]
theorem readP_uniq {s : ByteArray} {r r' : S28 × Bool} (h : ReadP s r) (h' : ReadP s r') : r = r' := by
  rcases h with ⟨t, h1, h2, h3⟩ | ⟨h1, h2⟩
  · rcases h' with ⟨u, g1, g2, g3⟩ | ⟨g1, g2⟩
    · rw [h3, g3, trip_inj h1 g1 (h2.symm.trans g2)]
    · exact absurd h2 (g1 t h1)
  · rcases h' with ⟨u, g1, g2, g3⟩ | ⟨g1, g2⟩
    · exact absurd g2 (h1 u g1)
    · rw [h2, g2]
def lastD (t : S28) : Int := (at_ t.f1 ((t.f1.length : Int) - 1)).f2
theorem dep_mono {t : S28} (h : TripP t) : ∀ m j, j ≤ m → m < t.f1.length → (at_ t.f1 (j : Int)).f2 ≤ (at_ t.f1 (m : Int)).f2
  | 0, j, hj, _ => by obtain rfl : j = 0 := by omega
                      exact Int.le_refl _
  | m + 1, j, hj, hm => by
    by_cases e : j = m + 1
    · rw [e]; exact Int.le_refl _
    · have ih := dep_mono h m j (by omega) (by omega)
      have h1 := h.2.2 (m + 1) hm
      unfold CallP at h1
      have h2 := (h1.2.2.2 (by omega)).1
      rw [show ((m + 1 : Nat) : Int) - 1 = (m : Int) by omega] at h2
      omega
theorem dep_last {t : S28} (h : TripP t) {i : Int} (h0 : 0 ≤ i) (h1 : i < (t.f1.length : Int)) : (at_ t.f1 i).f2 ≤ lastD t := by
  have hl := h.2.1
  have := dep_mono h (t.f1.length - 1) i.toNat (by omega) (by omega)
  rw [show ((i.toNat : Nat) : Int) = i by omega, show ((t.f1.length - 1 : Nat) : Int) = (t.f1.length : Int) - 1 by omega] at this
  exact this
theorem trip_bdd {t : S28} (h : TripP t) : TripB t := ⟨by have := h.1.1; omega, by have := h.2.1; omega⟩
theorem at_map {α β : Type} [Inhabited α] [Inhabited β] (f : α → β) {xs : List α} {i : Int} (h0 : 0 ≤ i) (h1 : i < (xs.length : Int)) : at_ (xs.map f) i = f (at_ xs i) := by
  rw [at_int h0 (by rw [List.length_map]; exact h1), at_int h0 h1, List.getElem_map]
def mvC (by_ : Int) (c : S48) : S48 := ⟨c.f0, c.f1 + by_, c.f2 + by_⟩
def movedV (t : S28) (by_ : Int) : S28 := ⟨t.f0, t.f1.map (mvC by_)⟩
theorem mv_len (t : S28) (by_ : Int) : (movedV t by_).f1.length = t.f1.length := by simp [movedV]
theorem mv_at (t : S28) (by_ : Int) {i : Int} (h0 : 0 ≤ i) (h1 : i < (t.f1.length : Int)) : at_ (movedV t by_).f1 i = mvC by_ (at_ t.f1 i) := at_map _ h0 h1
theorem mv_trip {t : S28} (h : TripP t) {by_ : Int} (h0 : 0 ≤ by_) : TripP (movedV t by_) ↔ lastD t + by_ ≤ 100000 := by
  have hl := h.2.1
  constructor
  · intro g
    have := call_bd g (i := (t.f1.length : Int) - 1) (by omega) (by rw [mv_len]; omega)
    rw [mv_at t by_ (by omega) (by omega)] at this
    have := this.2.2
    unfold lastD
    exact this
  · intro g
    refine ⟨h.1, by rw [mv_len]; exact hl, fun i hi => ?_⟩
    rw [mv_len] at hi
    have hc := h.2.2 i hi
    have hd := dep_last h (i := (i : Int)) (by omega) (by omega)
    unfold CallP at hc ⊢
    rw [mv_at t by_ (by omega) (by omega)]
    unfold mvC
    refine ⟨hc.1, by dsimp only; omega, by dsimp only; omega, fun hp => ?_⟩
    rw [mv_at t by_ (by omega) (by omega)]
    unfold mvC
    have := hc.2.2.2 hp
    exact ⟨by dsimp only; omega, this.2⟩
def noTrip : S28 := ⟨ByteArray.empty, []⟩
theorem no_trip : ¬ TripP noTrip := fun h => by
  have := h.2.1.1
  unfold noTrip at this
  simp at this
open Classical in
theorem table_bdd {ts : List S28} (h : TableP ts) : TableB ts := ⟨by have := h.1; omega, fun y hy => by
  obtain ⟨i, hi, rfl⟩ := mem_at.1 hy
  exact trip_bdd (h.2 i hi).1⟩
/-- A loop that counts down. -/
theorem evx_down {R σ : Type} (G : Nat → Nat → σ → Option R) (Inv : Nat → σ → Prop) (C : R → Prop)
    (hstep : ∀ i s, Inv (i + 1) s → (∀ s', Inv i s' → Evx (fun k => G k i s') C) → Evx (fun k => G k (i + 1) s) C)
    (hend : ∀ s, Inv 0 s → Evx (fun k => G k 0 s) C) : ∀ n s, Inv n s → Evx (fun k => G k n s) C
  | 0, s, h => hend s h
  | n + 1, s, h => hstep n s h fun s' h' => evx_down G Inv C hstep hend n s' h'
theorem band_bd (a : Int) (n : Nat) (hn : n < 9223372036854775808) : 0 ≤ bAnd a (n : Int) ∧ bAnd a (n : Int) ≤ n := by
  unfold bAnd
  rw [i64w]
  have h : (BitVec.ofInt 64 a &&& BitVec.ofInt 64 (n : Int)).toNat ≤ n := by
    rw [BitVec.toNat_and]
    refine Nat.le_trans Nat.and_le_right ?_
    have : BitVec.ofInt 64 (n : Int) = BitVec.ofNat 64 n := by simp [BitVec.ofInt_natCast]
    rw [this, BitVec.toNat_ofNat]
    exact Nat.mod_le _ _
  rw [wrap_id (by omega) (by omega)]
  omega
theorem u8_bd {y : Int} (h : (Lit.int .u8 y).wf = true) : 0 ≤ y ∧ y ≤ 255 := by
  simp only [Lit.wf, Bool.and_eq_true, decide_eq_true_eq] at h
  have h1 : IntKind.u8.min = 0 := by decide
  have h2 : IntKind.u8.max = 255 := by decide
  omega
def CodeP (code : List Int) : Prop := code.length ≤ 1048576 ∧ ∀ y, y ∈ code → 0 ≤ y ∧ y ≤ 255
def CurP (c : S77) : Prop := CodeP c.f0 ∧ 0 ≤ c.f1 ∧ c.f1 ≤ (c.f0.length : Int)
theorem byte_ok (c : S77) (h : CurP c) : ∃ r, spec_l01Byte.f c = some r ∧ CurP r.2 ∧ 0 ≤ r.1 ∧ r.1 ≤ 255 := by
  obtain ⟨⟨h1, h4⟩, h2, h3⟩ := h
  unfold spec_l01Byte.f
  by_cases g : c.f1 < (c.f0.length : Int)
  · rw [if_pos g, if_pos h2]
    refine ⟨_, rfl, ⟨⟨h1, h4⟩, ?_, ?_⟩, (band_bd _ 255 (by omega)).1, (band_bd _ 255 (by omega)).2⟩
    · show 0 ≤ wrap64 (c.f1 + 1); rw [wrap_id (by omega) (by omega)]; omega
    · show wrap64 (c.f1 + 1) ≤ _; rw [wrap_id (by omega) (by omega)]; show _ ≤ (c.f0.length : Int); omega
  · rw [if_neg g]
    exact ⟨_, rfl, ⟨⟨h1, h4⟩, h2, h3⟩, (band_bd _ 255 (by omega)).1, (band_bd _ 255 (by omega)).2⟩
theorem tmod_bd {a n : Int} (h0 : 0 ≤ a) (hn : 0 < n) : 0 ≤ a.tmod n ∧ a.tmod n < n := by
  rw [tmod_of n h0]
  exact ⟨Int.emod_nonneg _ (by omega), Int.emod_lt_of_pos _ hn⟩
theorem below_ok (c : S77) (n : Int) (h : CurP c) : ∃ r, spec_l01Below.f c n = some r ∧ CurP r.2 ∧ 0 ≤ r.1 ∧ (0 < n → r.1 < n) ∧ (n ≤ 0 → r.1 = 0) := by
  unfold spec_l01Below.f
  by_cases h0 : n ≤ 0
  · rw [if_pos h0]
    exact ⟨_, rfl, h, Int.le_refl _, fun g => by omega, fun _ => rfl⟩
  · rw [if_neg h0]
    by_cases h1 : n ≤ 256
    · rw [if_pos h1]
      obtain ⟨r, e, a1, a2, a3⟩ := byte_ok c h
      rw [e, Option.bind_some, if_pos (by omega)]
      have := tmod_bd a2 (show 0 < n by omega)
      exact ⟨_, rfl, a1, this.1, fun _ => this.2, fun g => by omega⟩
    · rw [if_neg h1]
      obtain ⟨r, e, a1, a2, a3⟩ := byte_ok c h
      obtain ⟨r2, e2, b1, b2, b3⟩ := byte_ok r.2 a1
      obtain ⟨r3, e3, c1, c2, c3⟩ := byte_ok r2.2 b1
      rw [e, Option.bind_some, e2, Option.bind_some, e3, Option.bind_some, if_pos (by omega)]
      rw [wrap_id (x := r.1 * 65536) (by omega) (by omega), wrap_id (x := r2.1 * 256) (by omega) (by omega), wrap_id (x := r.1 * 65536 + r2.1 * 256) (by omega) (by omega), wrap_id (x := r.1 * 65536 + r2.1 * 256 + r3.1) (by omega) (by omega)]
      have := tmod_bd (a := r.1 * 65536 + r2.1 * 256 + r3.1) (by omega) (show 0 < n by omega)
      exact ⟨_, rfl, c1, this.1, fun _ => this.2, fun g => by omega⟩
theorem evx_l01New (code : List Int) (h : CodeP code) : Evx (fun k => spec_l01New.f k code) CurP := by
  unfold spec_l01New.f
  have fin : ∀ x : Int, CurP ⟨code, 0, x⟩ := fun x => ⟨h, Int.le_refl _, by show (0 : Int) ≤ (code.length : Int); omega⟩
  have hl := h.1
  refine evx_loop (fun k i (x : Int) => spec_l01New.l0 k code x (i : Int)) (min code.length 4000) (fun _ _ => True) _ ?_ ?_ _ trivial
  · intro i s hi _ hn
    refine Evx.step (fun k => by simp only [spec_l01New.l0]; rfl) ?_
    rw [wrap_succ hi (by omega)]
    exact Evx.pos (by omega) (Evx.pos (by omega) (Evx.pos (by omega) (hn _ trivial)))
  · intro s _
    refine Evx.step (fun k => by simp only [spec_l01New.l0]; rfl) ?_
    rcases Nat.lt_or_ge code.length 4001 with g | g
    · by_cases e : code.length ≤ 4000
      · refine Evx.ite (fun q => ?_) (fun _ => Evx.val (fin s))
        refine Evx.ite (fun q2 => by omega) (fun _ => Evx.val (fin s))
      · omega
    · exact Evx.pos (by omega) (Evx.neg (by omega) (Evx.val (fin s)))
theorem code_ok {code : List Int} (h : code.length ≤ maxLen ∧ ∀ y ∈ code, (Lit.int .u8 y).wf = true) (hl : ¬ (code.length : Int) > 1048576) : CodeP code := ⟨by omega, fun y hy => u8_bd (h.2 y hy)⟩
theorem at_ok (code : List Int) (h : CodeP code) (i : Int) (h0 : 0 ≤ i) (h1 : i ≤ 1000) : ∃ r, laws_at.f code i = some r ∧ 0 ≤ r ∧ r ≤ 255 := by
  have hl := h.1
  unfold laws_at.f
  by_cases g : i < (code.length : Int)
  · rw [if_pos g, if_pos h0]
    have := h.2 _ (at_mem h0 g)
    rw [i64w, wrap_id (by omega) (by omega)]
    exact ⟨_, rfl, this.1, this.2⟩
  · rw [if_neg g, wrap_id (x := i * 11) (by omega) (by omega), wrap_id (x := (code.length : Int) * 3) (by omega) (by omega), wrap_id (by omega) (by omega)]
    have := tmod_bd (a := i * 11 + (code.length : Int) * 3) (n := 256) (by omega) (by omega)
    exact ⟨_, rfl, this.1, by omega⟩
def EdgeP (m : Int) (e : S84) : Prop := (0 ≤ e.f0 ∧ e.f0 ≤ m - 1) ∧ (0 ≤ e.f1 ∧ e.f1 ≤ m - 1) ∧ e.f0 ≠ e.f1 ∧ (1 ≤ e.f2 ∧ e.f2 ≤ 100000) ∧ (1 ≤ e.f3 ∧ e.f3 ≤ 90)
def NetP (n : S68) : Prop := (1 ≤ n.f0 ∧ n.f0 ≤ 30) ∧ n.f1.length ≤ 60 ∧ ∀ i, i < n.f1.length → EdgeP n.f0 (at_ n.f1 (i : Int))
def IncP (n : S68) (e : Nat) (v : Int) : Prop := (at_ n.f1 (e : Int)).f0 = v ∨ (at_ n.f1 (e : Int)).f1 = v
/-- A net that trips are drawn over. -/
def DNetP (n : S68) : Prop := (2 ≤ n.f0 ∧ n.f0 ≤ 30) ∧ n.f1.length ≤ 60 ∧ ∀ i, i < n.f1.length → EdgeP n.f0 (at_ n.f1 (i : Int))
/-- Two nodes that follow each other: an edge joins them, or none leads away from the first. -/
def NextP (n : S68) (a b : Int) : Prop := (∃ e, e < n.f1.length ∧ (((at_ n.f1 (e : Int)).f0 = a ∧ (at_ n.f1 (e : Int)).f1 = b) ∨ ((at_ n.f1 (e : Int)).f0 = b ∧ (at_ n.f1 (e : Int)).f1 = a))) ∨ ∀ e, e < n.f1.length → ¬ IncP n e a
theorem other_ok {n : S68} (h : DNetP n) {e : Nat} (he : e < n.f1.length) {v : Int} (hv : 0 ≤ v) : ∃ o, spec_l02Other.f (at_ n.f1 (e : Int)) v = some o ∧ (0 ≤ o ↔ IncP n e v) ∧ (IncP n e v → 0 ≤ o ∧ o ≤ n.f0 - 1 ∧ o ≠ v ∧ NextP n v o) := by
  have hE := h.2.2 e he
  unfold EdgeP at hE
  unfold spec_l02Other.f IncP NextP
  by_cases h1 : (at_ n.f1 (e : Int)).f0 = v
  · rw [if_pos h1]
    exact ⟨_, rfl, ⟨fun _ => .inl h1, fun _ => hE.2.1.1⟩, fun _ => ⟨hE.2.1.1, hE.2.1.2, by omega, .inl ⟨e, he, .inl ⟨h1, rfl⟩⟩⟩⟩
  · rw [if_neg h1]
    by_cases h2 : (at_ n.f1 (e : Int)).f1 = v
    · rw [if_pos h2]
      exact ⟨_, rfl, ⟨fun _ => .inr h2, fun _ => hE.1.1⟩, fun _ => ⟨hE.1.1, hE.1.2, by omega, .inl ⟨e, he, .inr ⟨rfl, h2⟩⟩⟩⟩
    · rw [if_neg h2]
      exact ⟨_, rfl, ⟨fun g => by omega, fun g => by rcases g with g | g; exact absurd g h1; exact absurd g h2⟩, fun g => by rcases g with g | g; exact absurd g h1; exact absurd g h2⟩
theorem evx_DrawWay (c : S77) (n : S68) (v : Int) (hc : CurP c) (h : DNetP n) (hv : 0 ≤ v) : Evx (fun k => spec_l02DrawWay.f k c n v 1) (fun r => CurP r.2 ∧ ((∃ e : Nat, r.1 = [(e : Int)] ∧ e < n.f1.length ∧ IncP n e v) ∨ (r.1 = [] ∧ ∀ e, e < n.f1.length → ¬ IncP n e v))) := by
  have hl := h.2.1
  unfold spec_l02DrawWay.f
  refine Evx.step (fun k => by simp only [spec_l02DrawWay.l0]; rfl) ?_
  obtain ⟨s, e1, c1, s0, s1, s2⟩ := below_ok c (n.f1.length : Int) hc
  refine Evx.pos (by omega) (Evx.opt e1 ?_)
  have fin : ∀ (xs : List Int) (at_' : Int), (CurP s.2 ∧ ((∃ e : Nat, xs = [(e : Int)] ∧ e < n.f1.length ∧ IncP n e v) ∨ (xs = [] ∧ ∀ e, e < n.f1.length → ¬ IncP n e v))) → Evx (fun k => spec_l02DrawWay.l0 k n 1 s.2 xs at_' 1) (fun r => CurP r.2 ∧ ((∃ e : Nat, r.1 = [(e : Int)] ∧ e < n.f1.length ∧ IncP n e v) ∨ (r.1 = [] ∧ ∀ e, e < n.f1.length → ¬ IncP n e v))) := fun xs a hq => by
    refine Evx.step (fun k => by simp only [spec_l02DrawWay.l0]; rfl) ?_
    exact Evx.neg (by omega) (Evx.val hq)
  refine evx_loop (fun k i (_ : Unit) => spec_l02DrawWay.l1 k n 1 [] 0 s v (i : Int)) n.f1.length (fun i _ => ∀ j : Nat, j < i → ¬ IncP n ((s.1 + (j : Int)) % (n.f1.length : Int)).toNat v) _ ?_ ?_ () (fun j hj => absurd hj (by omega))
  · intro i _ hi hI hn
    have s1 := s1 (by omega)
    refine Evx.step (fun k => by simp only [spec_l02DrawWay.l1]; rfl) ?_
    rw [wrap_id (x := s.1 + (i : Int)) (by omega) (by omega), tmod_of _ (by omega), wrap_succ hi (by omega)]
    have m0 := Int.emod_nonneg (s.1 + (i : Int)) (show (n.f1.length : Int) ≠ 0 by omega)
    have m1 := Int.emod_lt_of_pos (s.1 + (i : Int)) (show 0 < (n.f1.length : Int) by omega)
    generalize hE : (s.1 + (i : Int)) % (n.f1.length : Int) = E at m0 m1 ⊢
    obtain ⟨e, rfl⟩ : ∃ e : Nat, E = (e : Int) := ⟨E.toNat, by omega⟩
    obtain ⟨o, o1, o2, o3⟩ := other_ok h (e := e) (by omega) hv
    refine Evx.pos (by omega) (Evx.pos (by omega) (Evx.pos m0 (Evx.pos m1 (Evx.opt o1 (Evx.ite (fun g => ?_) (fun g => ?_))))))
    · refine Evx.pos (by simp) ?_
      rw [show wrap64 (0 + 1) = 1 by rw [wrap_id] <;> omega]
      exact fin _ _ ⟨c1, .inl ⟨e, rfl, by omega, o2.1 g⟩⟩
    · refine hn () (fun j hj => ?_)
      by_cases ej : j = i
      · rw [ej, hE, Int.toNat_natCast]; exact fun q => g (o2.2 q)
      · exact hI j (by omega)
  · intro _ hI
    refine Evx.step (fun k => by simp only [spec_l02DrawWay.l1]; rfl) ?_
    rw [show wrap64 (0 + 1) = 1 by rw [wrap_id] <;> omega]
    refine Evx.neg (by omega) (fin _ _ ⟨c1, .inr ⟨rfl, fun e he q => ?_⟩⟩)
    have s1 := s1 (by omega)
    refine hI (((e : Int) - s.1) % (n.f1.length : Int)).toNat ?_ ?_
    · have m0 := Int.emod_nonneg ((e : Int) - s.1) (show (n.f1.length : Int) ≠ 0 by omega)
      have m1 := Int.emod_lt_of_pos ((e : Int) - s.1) (show 0 < (n.f1.length : Int) by omega)
      omega
    · have m0 := Int.emod_nonneg ((e : Int) - s.1) (show (n.f1.length : Int) ≠ 0 by omega)
      rw [show (((((e : Int) - s.1) % (n.f1.length : Int)).toNat : Nat) : Int) = ((e : Int) - s.1) % (n.f1.length : Int) by omega, Int.add_emod_emod, show s.1 + ((e : Int) - s.1) = (e : Int) by omega, Int.emod_eq_of_lt (by omega) (by omega), Int.toNat_natCast]
      exact q
theorem name_of {a b : List UInt8} (h1 : 1 ≤ a.length) (h2 : a.length ≤ 2) (h3 : b.length ≤ 10) (ha : ∀ x, x ∈ a → ChU x) (hb : ∀ x, x ∈ b → ChU x) : NameP ((⟨a.toArray⟩ : ByteArray) ++ ⟨b.toArray⟩) := by
  rw [name_iff, byt_app, byt_mk, byt_mk]
  refine ⟨by rw [List.length_append]; omega, fun x hx => ?_⟩
  rcases List.mem_append.1 hx with g | g
  · exact ha x g
  · exact hb x g
theorem evx_DrawName (c : S77) (hc : CurP c) : Evx (fun k => spec_l08DrawName.f k c) (fun r => CurP r.2 ∧ NameP r.1 ∧ r.1.size ≤ 4) := by
  unfold spec_l08DrawName.f
  have hp : ∃ r, spec_l01PickText.f c ([(⟨#[97]⟩ : ByteArray), (⟨#[105, 99]⟩ : ByteArray), (⟨#[114, 101]⟩ : ByteArray), (⟨#[115]⟩ : ByteArray), (⟨#[120]⟩ : ByteArray)] : List ByteArray) = some r ∧ CurP r.2 ∧ ∃ l : List UInt8, r.1 = ⟨l.toArray⟩ ∧ 1 ≤ l.length ∧ l.length ≤ 2 ∧ ∀ x, x ∈ l → ChU x := by
    unfold spec_l01PickText.f
    obtain ⟨r, e, a1, a2, a3, _⟩ := below_ok c 5 hc
    have a3 := a3 (by omega)
    show ∃ r_1, ((spec_l01Below.f c 5).bind fun x1 => _) = some r_1 ∧ _
    rw [e, Option.bind_some, if_pos a2, if_pos (by show r.1 < 5; exact a3)]
    refine ⟨_, rfl, a1, ?_⟩
    have h5 : r.1 = 0 ∨ r.1 = 1 ∨ r.1 = 2 ∨ r.1 = 3 ∨ r.1 = 4 := by omega
    dsimp only
    rcases h5 with g | g | g | g | g <;> rw [g]
    · exact ⟨[97], rfl, by decide, by decide, fun x hx => by rw [List.mem_singleton.1 hx]; unfold ChU; decide⟩
    · exact ⟨[105, 99], rfl, by decide, by decide, fun x hx => by simp only [List.mem_cons, List.not_mem_nil, or_false] at hx; rcases hx with rfl | rfl <;> unfold ChU <;> decide⟩
    · exact ⟨[114, 101], rfl, by decide, by decide, fun x hx => by simp only [List.mem_cons, List.not_mem_nil, or_false] at hx; rcases hx with rfl | rfl <;> unfold ChU <;> decide⟩
    · exact ⟨[115], rfl, by decide, by decide, fun x hx => by rw [List.mem_singleton.1 hx]; unfold ChU; decide⟩
    · exact ⟨[120], rfl, by decide, by decide, fun x hx => by rw [List.mem_singleton.1 hx]; unfold ChU; decide⟩
  obtain ⟨r, e1, c1, l, e2, h1, h2, h3⟩ := hp
  refine Evx.opt e1 ?_
  obtain ⟨b, e3, c3, b0, b1, _⟩ := below_ok r.2 90 c1
  have b1 := b1 (by omega)
  refine Evx.opt e3 ?_
  have hN := ev_spec_l01Num b.1.toNat (by omega)
  rw [show ((b.1.toNat : Nat) : Int) = b.1 by omega] at hN
  refine Evx.bindv hN ?_
  have hd := dec_len_le 1 b.1.toNat (by omega)
  rw [e2]
  refine Evx.pos ?_ (Evx.val ⟨c3, name_of h1 h2 (by omega) h3 fun x hx => .inr (dec_dig _ x hx), by rw [← byt_len, byt_app, byt_mk, byt_mk, List.length_append]; omega⟩)
  rw [← byt_len, ← byt_len, byt_mk, byt_mk]; omega
/-- What is drawn: a right trip, of few calls, early, along edges where there are some. -/
def DTripP (n : S68) (most : Int) (t : S28) : Prop := TripP t ∧ (t.f1.length : Int) ≤ most ∧ (∀ j : Nat, j < t.f1.length → (at_ t.f1 (j : Int)).f0 < n.f0 ∧ (at_ t.f1 (j : Int)).f2 ≤ 123 + 20 * (j : Int)) ∧ ∀ j : Nat, j + 1 < t.f1.length → NextP n (at_ t.f1 (j : Int)).f0 (at_ t.f1 ((j : Int) + 1)).f0
theorem evx_DrawTrip (c : S77) (n : S68) (most : Int) (hc : CurP c) (h : DNetP n) (hm : 2 ≤ most ∧ most ≤ 12) : Evx (fun k => spec_l08DrawTrip.f k c n most) (fun r => CurP r.2 ∧ DTripP n most r.1 ∧ r.1.f0.size ≤ 4) := by
  have hn := h.1
  unfold spec_l08DrawTrip.f
  refine Evx.bind (evx_DrawName c hc) (fun nm ⟨n1, n2, n4⟩ => ?_)
  obtain ⟨v, e2, c2, v0, v1, _⟩ := below_ok nm.2 n.f0 n1
  have v1 := v1 (by omega)
  obtain ⟨m, e3, c3, m0, m1, _⟩ := below_ok v.2 120 c2
  have m1 := m1 (by omega)
  refine Evx.opt e2 (Evx.opt e3 ?_)
  rw [wrap_id (x := most - 1) (by omega) (by omega)]
  obtain ⟨q, e4, c4, q0, q1, _⟩ := below_ok m.2 (most - 1) c3
  have q1 := q1 (by omega)
  refine Evx.opt e4 ?_
  rw [wrap_id (x := 2 + q.1) (by omega) (by omega)]
  have key := evx_down (fun k i (s : List S48 × S77 × Int × Int) => spec_l08DrawTrip.l0 k n nm s.1 s.2.1 s.2.2.1 s.2.2.2 (i : Int))
    (fun i s => CurP s.2.1 ∧ ((s.1.length + i : Nat) : Int) ≤ most ∧ 2 ≤ s.1.length + i ∧ (0 ≤ s.2.2.1 ∧ s.2.2.1 < n.f0) ∧ (0 ≤ s.2.2.2 ∧ s.2.2.2 ≤ 119 + 20 * (s.1.length : Int)) ∧ (∀ j : Nat, j < s.1.length → CallP s.1 j ∧ (at_ s.1 (j : Int)).f0 < n.f0 ∧ (at_ s.1 (j : Int)).f2 ≤ 123 + 20 * (j : Int)) ∧ (∀ j : Nat, j + 1 < s.1.length → NextP n (at_ s.1 (j : Int)).f0 (at_ s.1 ((j : Int) + 1)).f0) ∧ (0 < s.1.length → (at_ s.1 ((s.1.length : Int) - 1)).f2 < s.2.2.2 ∧ (at_ s.1 ((s.1.length : Int) - 1)).f0 ≠ s.2.2.1 ∧ NextP n (at_ s.1 ((s.1.length : Int) - 1)).f0 s.2.2.1))
    (fun r => CurP r.2 ∧ DTripP n most r.1 ∧ r.1.f0.size ≤ 4) ?_ ?_ (2 + q.1).toNat ([], q.2, v.1, m.1) ⟨c4, by simp; omega, by simp; omega, ⟨v0, v1⟩, ⟨m0, by simp; omega⟩, fun j hj => absurd hj (by simp), fun j hj => absurd hj (by simp), fun hj => absurd hj (by simp)⟩
  · simpa [show (((2 + q.1).toNat : Nat) : Int) = 2 + q.1 by omega] using key
  · rintro i ⟨cs, cu, nd, mm⟩ ⟨i1, i2, i3, i4, i5, i6, i7, i8⟩ hnx
    dsimp only at i1 i2 i3 i4 i5 i6 i7 i8
    refine Evx.step (fun k => by simp only [spec_l08DrawTrip.l0]; rfl) ?_
    obtain ⟨d, e5, c5, d0, d1, _⟩ := below_ok cu 4 i1
    have d1 := d1 (by omega)
    obtain ⟨w, e6, c6, w0, w1, _⟩ := below_ok d.2 14 c5
    have w1 := w1 (by omega)
    refine Evx.pos (by omega) (Evx.opt e5 (Evx.pos (by simp only [List.length_cons, List.length_nil]; omega) (Evx.opt e6 ?_)))
    rw [wrap_id (x := n.f0 - 1) (by omega) (by omega)]
    obtain ⟨z, e7, c7, z0, z1, _⟩ := below_ok w.2 (n.f0 - 1) c6
    have z1 := z1 (by omega)
    refine Evx.opt e7 (Evx.pos (by omega) (Evx.bind (evx_DrawWay z.2 n nd c7 h i4.1) (fun way ⟨wc, hw⟩ => ?_)))
    rw [wrap_id (x := mm + d.1) (by omega) (by omega), wrap_id (x := mm + d.1 + 2) (by omega) (by omega), wrap_id (x := mm + d.1 + 2 + w.1) (by omega) (by omega), wrap_id (x := ((i + 1 : Nat) : Int) - 1) (by omega) (by omega), show ((i + 1 : Nat) : Int) - 1 = (i : Int) by omega]
    have nx : ∀ (cu2 : S77) (nd2 : Int), CurP cu2 → (0 ≤ nd2 ∧ nd2 < n.f0) → nd2 ≠ nd → NextP n nd nd2 → Evx (fun k => spec_l08DrawTrip.l0 k n nm (cs ++ [⟨nd, mm, mm + d.1⟩]) cu2 nd2 (mm + d.1 + 2 + w.1) (i : Int)) (fun r => CurP r.2 ∧ DTripP n most r.1 ∧ r.1.f0.size ≤ 4) := by
      intro cu2 nd2 h1 h2 h3 h4
      refine hnx (cs ++ [⟨nd, mm, mm + d.1⟩], cu2, nd2, mm + d.1 + 2 + w.1) ⟨h1, by simp only [List.length_append, List.length_singleton]; omega, by simp only [List.length_append, List.length_singleton]; omega, h2, ⟨by dsimp only; omega, by simp only [List.length_append, List.length_singleton]; omega⟩, fun j hj => ?_, fun j hj => ?_, fun _ => ?_⟩
      · simp only [List.length_append, List.length_singleton] at hj
        dsimp only
        by_cases e : j = cs.length
        · rw [e]
          unfold CallP
          rw [at_app_last]
          dsimp only
          refine ⟨⟨by omega, by omega, by omega, fun hp => ?_⟩, i4.2, by omega⟩
          rw [at_app_left _ _ (by omega) (by omega)]
          have := i8 hp
          exact ⟨this.1, this.2.1⟩
        · have hj2 : j < cs.length := by omega
          have := i6 j hj2
          unfold CallP at this ⊢
          rw [at_app_left _ _ (by omega) (by omega)]
          refine ⟨⟨this.1.1, this.1.2.1, this.1.2.2.1, fun hp => ?_⟩, this.2⟩
          rw [at_app_left _ _ (by omega) (by omega)]
          exact this.1.2.2.2 hp
      · simp only [List.length_append, List.length_singleton] at hj
        dsimp only
        rw [at_app_left _ _ (by omega) (by omega)]
        by_cases e : j + 1 = cs.length
        · rw [show (j : Int) + 1 = (cs.length : Int) by omega, at_app_last]
          have := (i8 (by omega)).2.2
          rw [show (cs.length : Int) - 1 = (j : Int) by omega] at this
          exact this
        · rw [at_app_left _ _ (by omega) (by omega)]
          exact i7 j (by omega)
      · simp only [List.length_append, List.length_singleton]
        rw [show ((cs.length + 1 : Nat) : Int) - 1 = (cs.length : Int) by omega, at_app_last]
        exact ⟨by dsimp only; omega, fun g => h3 g.symm, h4⟩
    rcases hw with ⟨e, we, he, hi⟩ | ⟨we, hno⟩
    · rw [we]
      obtain ⟨o, o1, _, o3⟩ := other_ok h he i4.1
      have o3 := o3 hi
      refine Evx.pos rfl (Evx.pos (by simp) (Evx.pos (by show 0 ≤ (e : Int); omega) (Evx.pos (by show (e : Int) < _; omega) ?_)))
      rw [show at_ [(e : Int)] 0 = (e : Int) from rfl]
      exact Evx.opt o1 (nx way.2 o wc ⟨o3.1, by omega⟩ o3.2.2.1 o3.2.2.2)
    · rw [we]
      refine Evx.neg (by simp) ?_
      rw [wrap_id (x := nd + 1) (by omega) (by omega), wrap_id (x := nd + 1 + z.1) (by omega) (by omega), tmod_of _ (by omega)]
      refine nx way.2 _ wc ⟨Int.emod_nonneg _ (by omega), Int.emod_lt_of_pos _ (by omega)⟩ ?_ (.inr hno)
      rcases Int.lt_or_le (nd + 1 + z.1) n.f0 with g | g
      · rw [Int.emod_eq_of_lt (by omega) g]; omega
      · rw [← Int.sub_emod_right, Int.emod_eq_of_lt (by omega) (by omega)]; omega
  · rintro ⟨cs, cu, nd, mm⟩ ⟨i1, i2, i3, i4, i5, i6, i7, i8⟩
    dsimp only at i1 i2 i3 i4 i5 i6 i7 i8
    refine Evx.step (fun k => by simp only [spec_l08DrawTrip.l0]; rfl) ?_
    refine Evx.neg (by omega) (Evx.val ⟨i1, ⟨⟨n2, ⟨by dsimp only; omega, by dsimp only; omega⟩, fun i hi => (i6 i hi).1⟩, by dsimp only; omega, fun j hj => (i6 j hj).2, i7⟩, n4⟩)
theorem ev_read {s : ByteArray} (hs : s.size ≤ 300) : Evx (fun k => impl_ReadTrip.f k s) (ReadP s) := by
  unfold impl_ReadTrip.f
  exact Evx.neg (by omega) (evx_impl_ReadTrip s (by omega))
theorem ev_text {t : S28} (ht : TripP t) : Ev (fun k => impl_TripText.f k t) (bs (tripL t)) := by
  unfold impl_TripText.f
  exact Ev.bind (ev_impl_TripOk t (trip_bdd ht).1 (trip_bdd ht).2 true (by simp [ht])) (Ev.pos rfl (ev_impl_TripText ht))
theorem read_back {t : S28} (ht : TripP t) {r : S28 × Bool} (h : ReadP (bs (tripL t)) r) : r = (t, true) := by
  have e : byt (bs (tripL t)) = tripL t := byt_mk _
  exact readP_uniq h (.inl ⟨t, ht, e, rfl⟩)
theorem tripL_len {t : S28} (ht : TripP t) : (tripL t).length ≤ 12 + 39 * t.f1.length := by
  have h := callsL_len ht t.f1.length (Nat.le_refl _)
  rw [List.take_length] at h
  unfold tripL
  rw [List.length_append, byt_len]
  have := ht.1.1
  omega
theorem evx_sameTrip (a b : S28) (hl : a.f1.length ≤ 100000) : Evx (fun k => laws_sameTrip.f k a b) (fun r => r = true → a = b) := by
  unfold laws_sameTrip.f
  refine Evx.ite (fun g1 => Evx.ite (fun g2 => ?_) (fun _ => Evx.val (fun h => by cases h))) (fun _ => Evx.val (fun h => by cases h))
  refine evx_loop (σ := Unit) (fun k i _ => laws_sameTrip.l0 k a b (i : Int)) a.f1.length (fun i _ => ∀ j : Nat, j < i → at_ a.f1 (j : Int) = at_ b.f1 (j : Int)) _ ?_ ?_ () (fun j hj => absurd hj (by omega))
  · intro i _ hi hj hn
    refine Evx.step (fun k => by simp only [laws_sameTrip.l0]; rfl) ?_
    rw [wrap_succ hi (by omega)]
    refine Evx.pos (by omega) (Evx.pos (by omega) (Evx.pos (by omega) (Evx.ite (fun g => hn () (fun j hj2 => ?_)) (fun _ => Evx.val (fun h => by cases h)))))
    by_cases e : j = i
    · subst e
      simp only [Bool.and_eq_true, beq_iff_eq, Bool.and_true] at g
      generalize at_ a.f1 (j : Int) = x at g
      generalize at_ b.f1 (j : Int) = y at g
      obtain ⟨q1, q2, q3⟩ := g
      cases x; cases y
      simp only at q1 q2 q3
      rw [q1, q2, q3]
    · exact hj j (by omega)
  · intro _ hj
    refine Evx.step (fun k => by simp only [laws_sameTrip.l0]; rfl) ?_
    refine Evx.neg (by omega) (Evx.val fun _ => ?_)
    have e0 : a.f0 = b.f0 := byt_ext ((sEq_iff _ _).1 g1)
    have e1 : a.f1 = b.f1 := at_ext (by omega) (fun k hk => hj k (by omega))
    cases a; cases b
    simp only at e0 e1
    rw [e0, e1]
theorem ev_sameTrip1 (t : S28) (hl : t.f1.length ≤ 100000) : Ev (fun k => laws_sameTrip.f k t t) true := by
  unfold laws_sameTrip.f
  refine Ev.pos (by simp [sEq]) (Ev.pos (by first | rfl | trivial) ?_)
  refine ev_fold (fun k i => laws_sameTrip.l0 k t t (i : Int)) t.f1.length ?_ ?_
  · intro i hi hn
    refine Ev.step (fun k => by simp only [laws_sameTrip.l0]; rfl) ?_
    rw [wrap_succ hi (by omega)]
    exact Ev.pos (by omega) (Ev.pos (by omega) (Ev.pos (by omega) (Ev.pos (by simp) hn)))
  · refine Ev.step (fun k => by simp only [laws_sameTrip.l0]; rfl) ?_
    exact Ev.neg (by omega) (ev_val rfl)
theorem mv_mv (t : S28) (x : Int) : movedV (movedV t x) (-x) = t := by
  unfold movedV
  cases t with
  | mk n cs =>
    dsimp only
    rw [List.map_map]
    congr 1
    conv => rhs; rw [← List.map_id cs]
    refine List.map_congr_left fun c _ => ?_
    unfold mvC
    cases c
    simp only [Function.comp, id]
    congr 1 <;> omega
theorem ev_impl_MovedG (t : S28) (by_ : Int) (h : TripP t) (h0 : -100000 ≤ by_ ∧ by_ ≤ 100000) (hm : TripP (movedV t by_)) : Ev (fun k => impl_Moved.f k t by_) (movedV t by_) := by
  classical
  have hl := h.2.1
  have hb := trip_bdd h
  unfold impl_Moved.f impl_cloneTrip.f
  refine Ev.bind (ev_impl_TripOk t hb.1 hb.2 true (by simp [h])) (Ev.pos rfl (Ev.opt (eq_impl_between _ _ _) (Ev.pos (decide_eq_true (by omega)) ?_)))
  rw [List.nil_append]
  refine Ev.bind (Ev.pos (by simp only [List.length_nil]; omega) (ev_val rfl) : Ev (fun k => if (([] : List S48).length + t.f1.length) * 24 ≤ 70368744177664 then some (⟨t.f0, t.f1⟩ : S28) else none) ⟨t.f0, t.f1⟩) (Evx.ev ?_)
  refine evx_loop (fun k i (xs : List S48) => impl_Moved.l0 k by_ ⟨t.f0, t.f1⟩ xs (i : Int)) t.f1.length (fun i xs => xs.length = t.f1.length ∧ (∀ k : Nat, k < i → at_ xs (k : Int) = mvC by_ (at_ t.f1 (k : Int))) ∧ ∀ k : Nat, i ≤ k → at_ xs (k : Int) = at_ t.f1 (k : Int)) _ ?_ ?_ t.f1 ⟨rfl, fun k hk => by omega, fun k _ => rfl⟩
  · intro i xs hi ⟨i1, i2, i3⟩ hn
    have hc := call_bd h (i := (i : Int)) (by omega) (by omega)
    have e := i3 i (Nat.le_refl _)
    refine Evx.step (fun k => by simp only [impl_Moved.l0]; rfl) ?_
    rw [e, wrap_succ hi (by omega), wrap_id (x := (at_ t.f1 (i : Int)).f1 + by_) (by omega) (by omega), wrap_id (x := (at_ t.f1 (i : Int)).f2 + by_) (by omega) (by omega), Int.toNat_natCast]
    refine Evx.pos (by omega) (Evx.pos (by omega) (Evx.pos (by omega) (hn _ ⟨by rw [List.length_set]; exact i1, fun k hk => ?_, fun k hk => ?_⟩)))
    · by_cases ek : k = i
      · rw [ek, at_set_eq (by omega)]; rfl
      · rw [at_set_ne (by omega) (by omega)]; exact i2 k (by omega)
    · rw [at_set_ne (by omega) (by omega)]; exact i3 k (by omega)
  · intro xs ⟨i1, i2, _⟩
    have e : xs = (movedV t by_).f1 := at_ext (by rw [i1, mv_len]) (fun k hk => by rw [mv_len] at hk; rw [i2 k hk, mv_at t by_ (by omega) (by omega)])
    refine Evx.step (fun k => by simp only [impl_Moved.l0]; rfl) ?_
    refine Evx.neg (by omega) ?_
    have e2 : (⟨t.f0, xs⟩ : S28) = movedV t by_ := by rw [e]; rfl
    rw [e2]
    exact Evx.bindv (ev_impl_TripOk (movedV t by_) hb.1 (by rw [mv_len]; exact hb.2) true (by simp [hm])) (Evx.pos rfl (Evx.val rfl))
/-- A trip turned round. -/
def bkC (s : Int) (c : S48) : S48 := ⟨c.f0, s - c.f2, s - c.f1⟩
def backV (t : S28) (s : Int) : S28 := ⟨t.f0, t.f1.reverse.map (bkC s)⟩
theorem back_len (t : S28) (s : Int) : (backV t s).f1.length = t.f1.length := by simp [backV]
theorem back_at (t : S28) (s : Int) {i : Nat} (h : i < t.f1.length) : at_ (backV t s).f1 ((t.f1.length - 1 - i : Nat) : Int) = bkC s (at_ t.f1 (i : Int)) := by
  have h1 : t.f1.length - 1 - i < (backV t s).f1.length := by rw [back_len]; omega
  rw [at_nat h1, at_nat h]
  simp only [backV, List.getElem_map, List.getElem_reverse]
  congr 2
  omega
theorem back_at' (t : S28) (s : Int) {i : Nat} (h : i < t.f1.length) : at_ (backV t s).f1 (i : Int) = bkC s (at_ t.f1 ((t.f1.length - 1 - i : Nat) : Int)) := by
  have := back_at t s (i := t.f1.length - 1 - i) (by omega)
  rwa [show t.f1.length - 1 - (t.f1.length - 1 - i) = i by omega] at this
theorem back_back (t : S28) (s : Int) : backV (backV t s) s = t := by
  unfold backV
  cases t with
  | mk n cs =>
    dsimp only
    rw [← List.map_reverse, List.reverse_reverse, List.map_map]
    congr 1
    conv => rhs; rw [← List.map_id cs]
    refine List.map_congr_left fun c _ => ?_
    unfold bkC
    cases c
    simp only [Function.comp, id]
    congr 1 <;> omega
theorem arr_ge {t : S28} (h : TripP t) : ∀ m : Nat, m < t.f1.length → (at_ t.f1 0).f1 ≤ (at_ t.f1 (m : Int)).f1
  | 0, _ => Int.le_refl _
  | m + 1, hm => by
    have ih := arr_ge h m (by omega)
    have h1 := h.2.2 (m + 1) hm
    have h2 := h.2.2 m (by omega)
    unfold CallP at h1 h2
    have h3 := (h1.2.2.2 (by omega)).1
    rw [show ((m + 1 : Nat) : Int) - 1 = (m : Int) by omega] at h3
    omega
theorem back_trip {t : S28} (h : TripP t) : TripP (backV t ((at_ t.f1 0).f1 + lastD t)) := by
  have hl := h.2.1
  refine ⟨h.1, by rw [back_len]; exact hl, fun i hi => ?_⟩
  rw [back_len] at hi
  have hj : t.f1.length - 1 - i < t.f1.length := by omega
  have hc := h.2.2 _ hj
  have hd := dep_last h (i := ((t.f1.length - 1 - i : Nat) : Int)) (by omega) (by omega)
  have ha := arr_ge h _ hj
  have h0 := call_bd h (i := 0) (by omega) (by omega)
  have hL : lastD t ≤ 100000 := (call_bd h (i := (t.f1.length : Int) - 1) (by omega) (by omega)).2.2
  unfold CallP at hc ⊢
  rw [back_at' t _ hi]
  unfold bkC
  refine ⟨hc.1, by dsimp only; omega, by dsimp only; omega, fun hp => ?_⟩
  have e1 : (i : Int) - 1 = ((i - 1 : Nat) : Int) := by omega
  rw [e1, back_at' t _ (by omega : i - 1 < t.f1.length)]
  have hc2 := h.2.2 (t.f1.length - 1 - (i - 1)) (by omega)
  unfold CallP at hc2
  have h3 := hc2.2.2.2 (by omega)
  rw [show ((t.f1.length - 1 - (i - 1) : Nat) : Int) - 1 = ((t.f1.length - 1 - i : Nat) : Int) by omega] at h3
  unfold bkC
  exact ⟨by dsimp only; omega, fun e => h3.2 e.symm⟩
theorem back_lastD {t : S28} (h : TripP t) : lastD (backV t ((at_ t.f1 0).f1 + lastD t)) = lastD t := by
  have hl := h.2.1
  show (at_ (backV t ((at_ t.f1 0).f1 + lastD t)).f1 (((backV t ((at_ t.f1 0).f1 + lastD t)).f1.length : Int) - 1)).f2 = lastD t
  rw [back_len, show (t.f1.length : Int) - 1 = ((t.f1.length - 1 : Nat) : Int) by omega, back_at' t _ (by omega : t.f1.length - 1 < t.f1.length), show t.f1.length - 1 - (t.f1.length - 1) = 0 by omega]
  unfold bkC
  dsimp only
  have : (at_ t.f1 ((0 : Nat) : Int)).f1 = (at_ t.f1 0).f1 := rfl
  omega
def ckV (t : S28) (step : Int) (k : Nat) : S28 := ⟨t.f0 ++ bs (dec k), (movedV t ((k : Int) * step)).f1⟩
theorem ck_name (t : S28) (step : Int) (k : Nat) : byt (ckV t step k).f0 = byt t.f0 ++ dec k := by
  have e : byt (bs (dec k)) = dec k := byt_mk _
  unfold ckV
  dsimp only
  rw [byt_app, e]
theorem ck_len (t : S28) (step : Int) (k : Nat) : (ckV t step k).f1.length = t.f1.length := mv_len _ _
theorem mul_bd {k n : Nat} {s : Int} (h : k < n) (hn : n ≤ 9) (h0 : 1 ≤ s) (h1 : s ≤ 120) : 0 ≤ (k : Int) * s ∧ (k : Int) * s ≤ 960 := by
  have hk : k = 0 ∨ k = 1 ∨ k = 2 ∨ k = 3 ∨ k = 4 ∨ k = 5 ∨ k = 6 ∨ k = 7 ∨ k = 8 := by omega
  rcases hk with rfl | rfl | rfl | rfl | rfl | rfl | rfl | rfl | rfl <;> omega
theorem ck_mv {t : S28} (ht : TripP t) (hL : lastD t ≤ 300) {step : Int} (h0 : 1 ≤ step) (h1 : step ≤ 120) {k n : Nat} (hk : k < n) (hn : n ≤ 9) : TripP (movedV t ((k : Int) * step)) := by
  have := mul_bd hk hn h0 h1
  exact (mv_trip ht this.1).2 (by omega)
theorem ck_trip {t : S28} (ht : TripP t) (h4 : t.f0.size ≤ 4) (hL : lastD t ≤ 300) {step : Int} (h0 : 1 ≤ step) (h1 : step ≤ 120) {k n : Nat} (hk : k < n) (hn : n ≤ 9) : TripP (ckV t step k) := by
  have hm := ck_mv ht hL h0 h1 hk hn
  refine ⟨?_, hm.2.1, hm.2.2⟩
  have hd := dec_len_le 0 k (by omega)
  have hn := (name_iff t.f0).1 ht.1
  have hs := byt_len t.f0
  rw [name_iff, ck_name]
  refine ⟨by rw [List.length_append]; omega, fun b hb => ?_⟩
  rcases List.mem_append.1 hb with g | g
  · exact hn.2 b g
  · exact .inr (dec_dig _ b g)
def ckL (t : S28) (step : Int) (n : Nat) : List S28 := (List.range n).map (ckV t step)
theorem ckL_len (t : S28) (step : Int) (n : Nat) : (ckL t step n).length = n := by simp [ckL]
theorem ckL_at (t : S28) (step : Int) {n i : Nat} (h : i < n) : at_ (ckL t step n) (i : Int) = ckV t step i := by
  rw [at_nat (by rw [ckL_len]; exact h)]
  simp [ckL]
theorem ck_table {t : S28} (ht : TripP t) (h4 : t.f0.size ≤ 4) (hL : lastD t ≤ 300) {step : Int} (h0 : 1 ≤ step) (h1 : step ≤ 120) {n : Nat} (hn : n ≤ 9) : TableP (ckL t step n) := by
  refine ⟨by rw [ckL_len]; omega, fun i hi => ?_⟩
  rw [ckL_len] at hi
  refine ⟨by rw [ckL_at t step hi]; exact ck_trip ht h4 hL h0 h1 hi hn, fun j hj g => ?_⟩
  rw [ckL_at t step hi, ckL_at t step (by omega)] at g
  have := (sEq_iff _ _).1 g
  rw [ck_name, ck_name] at this
  have e := List.append_cancel_left this
  have e2 : ((j : Nat) : Int) = (i : Int) := (numL_dec j).symm.trans ((congrArg numL e).trans (numL_dec i))
  omega
theorem ev_impl_Clockface {t : S28} (ht : TripP t) (h4 : t.f0.size ≤ 4) (hL : lastD t ≤ 300) {step : Int} (h0 : 1 ≤ step) (h1 : step ≤ 120) {n : Nat} (hn0 : 1 ≤ n) (hn : n ≤ 9) : Ev (fun k => impl_Clockface.f k t step (n : Int)) (ckL t step n) := by
  classical
  have hb := trip_bdd ht
  have hl := ht.2.1
  have hT := ck_table ht h4 hL h0 h1 hn
  unfold impl_Clockface.f
  refine Ev.bind (ev_impl_TripOk t hb.1 hb.2 true (by simp [ht])) (Ev.pos rfl (Ev.opt (eq_impl_between _ _ _) (Ev.pos (decide_eq_true (by omega)) (Ev.opt (eq_impl_between _ _ _) (Ev.pos (decide_eq_true (by omega)) (Ev.pos (by omega) (Ev.pos (by omega) (Evx.ev ?_))))))))
  rw [Int.toNat_natCast]
  refine evx_loop (fun k i (xs : List S28) => impl_Clockface.l0 k t step (n : Int) xs (i : Int)) n (fun i xs => xs.length = n ∧ ∀ k : Nat, k < i → at_ xs (k : Int) = ckV t step k) _ ?_ ?_ _ ⟨by simp, fun k hk => by omega⟩
  · intro i xs hi ⟨i1, i2⟩ hnx
    have hmb := mul_bd hi hn h0 h1
    refine Evx.step (fun k => by simp only [impl_Clockface.l0]; rfl) ?_
    rw [Int.toNat_natCast, List.length_replicate, wrap_succ hi (by omega), wrap_id (x := (i : Int) * step) (by omega) (by omega), Int.toNat_natCast]
    have hd := dec_len_le 0 i (by omega)
    refine Evx.pos (by omega) (Evx.bindv (ev_impl_MovedG t _ ht (by omega) (ck_mv ht hL h0 h1 hi hn)) (Evx.pos (by omega) (Evx.pos (by omega) (Evx.opt (ev_Itoa i (by omega)) (Evx.pos ?_ (hnx _ ⟨by rw [List.length_set]; exact i1, fun k hk => ?_⟩))))))
    · rw [bs_size]
      show t.f0.size + _ ≤ _
      omega
    · by_cases ek : k = i
      · rw [ek, at_set_eq (by omega)]; rfl
      · rw [at_set_ne (by omega) (by omega)]; exact i2 k (by omega)
  · intro xs ⟨i1, i2⟩
    have e : xs = ckL t step n := at_ext (by rw [i1, ckL_len]) (fun k hk => by rw [ckL_len] at hk; rw [i2 k hk, ckL_at t step hk])
    subst e
    refine Evx.step (fun k => by simp only [impl_Clockface.l0]; rfl) ?_
    rw [Int.toNat_natCast, List.length_replicate]
    refine Evx.neg (by omega) ?_
    exact Evx.bindv (ev_impl_TableOk _ (table_bdd hT) true (by simp [hT])) (Evx.pos rfl (Evx.val rfl))
theorem pure_FnClockface : Pure := by
  intro code h
  refine Ev.rounds ?_
  unfold laws_FnClockface.f laws_big.f
  refine Ev.opt rfl (Ev.ite (fun _ => ev_val rfl) (fun hbig => ?_))
  have hC : CodeP code := code_ok h (fun g => hbig (decide_eq_true g))
  have hD : Evx (fun k => spec_DrawRightTrip.f k code) (fun t => DTripP (⟨6, []⟩ : S68) 5 t ∧ t.f0.size ≤ 4) := by
    unfold spec_DrawRightTrip.f
    refine Evx.bind (evx_l01New code hC) (fun c hc => Evx.bind (evx_DrawTrip c ⟨6, []⟩ 5 hc ⟨⟨by decide, by decide⟩, by decide, fun i hi => absurd hi (by simp)⟩ (by omega)) (fun r hr => Evx.val hr.2))
  obtain ⟨t, e1, ⟨ht, h5, hd, _⟩, h4⟩ := hD
  have hl := ht.2.1
  have hL : lastD t ≤ 300 := by
    have := (hd (t.f1.length - 1) (by omega)).2
    unfold lastD
    rw [show (t.f1.length : Int) - 1 = ((t.f1.length - 1 : Nat) : Int) by omega]
    omega
  have hc0 := call_bd ht (i := 0) (by omega) (by omega)
  obtain ⟨r3, a3, b3⟩ := at_ok code hC 3 (by omega) (by omega)
  obtain ⟨r4, a4, b4⟩ := at_ok code hC 4 (by omega) (by omega)
  have m3 := tmod_bd (a := r3) (n := 120) b3.1 (by omega)
  have m4 := tmod_bd (a := r4) (n := 9) b4.1 (by omega)
  refine Ev.bind e1 (Ev.opt a3 (Ev.opt a4 ?_))
  rw [wrap_id (x := 1 + r3.tmod 120) (by omega) (by omega), wrap_id (x := 1 + r4.tmod 9) (by omega) (by omega)]
  obtain ⟨step, hst⟩ : ∃ s : Int, s = 1 + r3.tmod 120 := ⟨_, rfl⟩
  obtain ⟨n, hn⟩ : ∃ n : Nat, (n : Int) = 1 + r4.tmod 9 := ⟨(1 + r4.tmod 9).toNat, by omega⟩
  rw [← hst, ← hn]
  have hT := ck_table ht h4 hL (step := step) (by omega) (by omega) (n := n) (by omega)
  refine Ev.bind (ev_impl_Clockface ht h4 hL (by omega) (by omega) (by omega) (by omega)) (Ev.pos (by rw [ckL_len]) (Ev.bind (ev_impl_TableOk _ (table_bdd hT) true (by simp [hT])) (Ev.pos rfl ?_)))
  refine ev_fold (fun k i => laws_FnClockface.l0 k t r3 r4 (ckL t step n) (i : Int)) n ?_ ?_
  · intro i hi hnx
    have hmb := mul_bd hi (by omega : n ≤ 9) (by omega : 1 ≤ step) (by omega)
    have hck := ck_trip ht h4 hL (step := step) (by omega) (by omega) hi (by omega)
    refine Ev.step (fun k => by simp only [laws_FnClockface.l0]; rfl) ?_
    rw [ckL_at t step hi, ckL_len, ck_len, wrap_succ hi (by omega), wrap_id (x := 1 + r3.tmod 120) (by omega) (by omega), wrap_id (x := 1 + r4.tmod 9) (by omega) (by omega), ← hst, ← hn, wrap_id (x := (i : Int) * step) (by omega) (by omega), wrap_id (x := (at_ t.f1 0).f1 + (i : Int) * step) (by omega) (by omega)]
    refine Ev.pos (by omega) (Ev.pos (by omega) (Ev.pos (by omega) (Ev.pos rfl (Ev.pos (by omega) (Ev.pos (by omega) (Ev.pos ?_ (Ev.neg (fun g => ?_) ?_)))))))
    · have := mv_at t ((i : Int) * step) (i := 0) (by omega) (by omega)
      unfold ckV
      rw [this]
      rfl
    · have := congrArg List.length ((sEq_iff _ _).1 g)
      have hp := dec_len_pos i
      rw [ck_name, List.length_append] at this
      omega
    · have hlen := tripL_len hck
      rw [ck_len] at hlen
      obtain ⟨r, g1, g2⟩ := ev_read (s := bs (tripL (ckV t step i))) (by rw [bs_size]; omega)
      have er := read_back hck g2
      subst er
      exact Ev.bind (ev_text hck) (Ev.bind g1 (Ev.pos rfl (Ev.bind (ev_sameTrip1 _ (by rw [ck_len]; omega)) (Ev.pos rfl hnx))))
  · refine Ev.step (fun k => by simp only [laws_FnClockface.l0]; rfl) ?_
    rw [wrap_id (x := 1 + r4.tmod 9) (by omega) (by omega), ← hn]
    exact Ev.neg (by omega) (ev_val rfl)

end Go.Proofs.YtjlickinmkafbaaDoor.Fns
