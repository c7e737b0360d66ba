/- The pure statement of the law FnSooner: its function, told by the engine, gives true for every input. -/
import Derived.Test.YtjfjifnmfnlfoaaSFnSooner
namespace Go.Proofs.Ytjfjifnmfnlfoaa.Fns
open Go.RowKit Go.WideShapes Go.Proofs.Ytjfjifnmfnlfoaa.Eng
set_option linter.unusedVariables false
set_option linter.unusedSimpArgs false
/-- From some number of rounds on there is one answer, and C holds of it. -/
def Evx {α : Type} (g : Nat → Option α) (C : α → Prop) : Prop := ∃ r, Ev g r ∧ C r
section
variable {α β : Type}
theorem Evx.val {a : α} {C : α → Prop} (h : C a) : Evx (fun _ => some a) C := ⟨a, Ev.now a, h⟩
theorem Evx.of {g : Nat → Option α} {r : α} {C : α → Prop} (h : Ev g r) (hc : C r) : Evx g C := ⟨r, h, hc⟩
theorem Evx.bind {g : Nat → Option α} {f : Nat → α → Option β} {P : α → Prop} {C : β → Prop} (h : Evx g P) (k : ∀ a, P a → Evx (fun n => f n a) C) : Evx (fun n => (g n).bind (f n)) C := by
  obtain ⟨a, h1, h2⟩ := h
  obtain ⟨r, h3, h4⟩ := k a h2
  exact ⟨r, Ev.bind h1 h3, h4⟩
theorem Evx.bindv {g : Nat → Option α} {f : Nat → α → Option β} {a : α} {C : β → Prop} (h : Ev g a) (k : Evx (fun n => f n a) C) : Evx (fun n => (g n).bind (f n)) C := by
  obtain ⟨r, h3, h4⟩ := k
  exact ⟨r, Ev.bind h h3, h4⟩
theorem Evx.opt {g : Option α} {f : Nat → α → Option β} {a : α} {C : β → Prop} (h : g = some a) (k : Evx (fun n => f n a) C) : Evx (fun n => g.bind (f n)) C := by subst h; exact k
theorem Evx.step {g f : Nat → Option α} {C : α → Prop} (h : ∀ k, g (k + 1) = f k) (k : Evx f C) : Evx g C := by
  obtain ⟨r, h3, h4⟩ := k
  exact ⟨r, Ev.step h h3, h4⟩
theorem Evx.congr {g f : Nat → Option α} {C : α → Prop} (h : ∀ k, g k = f k) (k : Evx f C) : Evx g C := by
  obtain ⟨r, h3, h4⟩ := k
  exact ⟨r, Ev.congr h h3, h4⟩
theorem Evx.ite {c : Prop} [Decidable c] {g f : Nat → Option α} {C : α → Prop} (h : c → Evx g C) (h' : ¬ c → Evx f C) : Evx (fun k => if c then g k else f k) C := by
  by_cases hc : c
  · simp only [if_pos hc]; exact h hc
  · simp only [if_neg hc]; exact h' hc
theorem Evx.pos {c : Prop} [Decidable c] {g f : Nat → Option α} {C : α → Prop} (hc : c) (h : Evx g C) : Evx (fun k => if c then g k else f k) C := by simp only [if_pos hc]; exact h
theorem Evx.neg {c : Prop} [Decidable c] {g f : Nat → Option α} {C : α → Prop} (hc : ¬ c) (h : Evx f C) : Evx (fun k => if c then g k else f k) C := by simp only [if_neg hc]; exact h
theorem Evx.mono {g : Nat → Option α} {C D : α → Prop} (h : Evx g C) (hd : ∀ r, C r → D r) : Evx g D := by
  obtain ⟨r, h1, h2⟩ := h
  exact ⟨r, h1, hd r h2⟩
theorem Evx.ev {g : Nat → Option α} {r : α} (h : Evx g (fun x => x = r)) : Ev g r := by
  obtain ⟨a, h1, rfl⟩ := h
  exact h1
theorem Ev.uniq {g : Nat → Option α} {a b : α} (h : Ev g a) (h' : Ev g b) : a = b := by
  obtain ⟨K, hK⟩ := h
  obtain ⟨K', hK'⟩ := h'
  have e1 := hK (max K K') (by omega)
  have e2 := hK' (max K K') (by omega)
  rw [e1] at e2
  exact Option.some.inj e2
end
/-- A loop that counts up, with what holds of its state at each place. -/
theorem evx_loop {R σ : Type} (G : Nat → Nat → σ → Option R) (n : Nat) (Inv : Nat → σ → Prop) (C : R → Prop)
    (hstep : ∀ i s, i < n → Inv i s → (∀ s', Inv (i + 1) s' → Evx (fun k => G k (i + 1) s') C) → Evx (fun k => G k i s) C)
    (hend : ∀ s, Inv n s → Evx (fun k => G k n s) C) : ∀ s, Inv 0 s → Evx (fun k => G k 0 s) C := by
  have key : ∀ d i, i + d = n → ∀ s, Inv i s → Evx (fun k => G k i s) C := by
    intro d
    induction d with
    | zero => intro i hi s hs; obtain rfl : i = n := by omega
              exact hend s hs
    | succ d ih => intro i hi s hs; exact hstep i s (by omega) hs (fun s' hs' => ih (i + 1) (by omega) s' hs')
  exact fun s hs => key n 0 (by omega) s hs
-- counting, taking, placing
theorem at_getD {α : Type} [Inhabited α] (xs : List α) (i : Int) : at_ xs i = xs.getD i.toNat default := rfl
theorem at_int {α : Type} [Inhabited α] {xs : List α} {i : Int} (h0 : 0 ≤ i) (h1 : i < (xs.length : Int)) : at_ xs i = xs[i.toNat]'(by omega) := by
  have h : i.toNat < xs.length := by omega
  rw [at_getD, List.getD_eq_getElem?_getD, List.getElem?_eq_getElem h]
  rfl
theorem at_mem {α : Type} [Inhabited α] {xs : List α} {i : Int} (h0 : 0 ≤ i) (h1 : i < (xs.length : Int)) : at_ xs i ∈ xs := by
  rw [at_int h0 h1]; exact List.getElem_mem _
theorem all_at {α : Type} [Inhabited α] {xs : List α} {p : α → Prop} (h : ∀ y, y ∈ xs → p y) {i : Int} (h0 : 0 ≤ i) (h1 : i < (xs.length : Int)) : p (at_ xs i) := h _ (at_mem h0 h1)
theorem all_idx {α : Type} [Inhabited α] {xs : List α} {p : α → Prop} (h : ∀ i, i < xs.length → p (at_ xs (i : Int))) {i : Int} (h0 : 0 ≤ i) (h1 : i < (xs.length : Int)) : p (at_ xs i) := by
  have := h i.toNat (by omega)
  rwa [show ((i.toNat : Nat) : Int) = i by omega] at this
theorem all_iff {α : Type} [Inhabited α] {xs : List α} {p : α → Prop} : (∀ i, i < xs.length → p (at_ xs (i : Int))) ↔ ∀ y, y ∈ xs → p y := by
  refine ⟨fun h y hy => ?_, fun h i hi => h _ (at_mem (by omega) (by omega))⟩
  obtain ⟨i, hi, rfl⟩ := List.getElem_of_mem hy
  have := h i hi
  rwa [at_nat hi] at this
theorem take_succ' {α : Type} {xs : List α} {i : Nat} (h : i < xs.length) : xs.take (i + 1) = xs.take i ++ [xs[i]] := List.take_succ_eq_append_getElem h
theorem count_take {α : Type} (p : α → Bool) {xs : List α} {i : Nat} (h : i < xs.length) : (xs.take (i + 1)).countP p = (xs.take i).countP p + (if p xs[i] then 1 else 0) := by
  rw [take_succ' h, List.countP_append, List.countP_singleton]
theorem count_le {α : Type} (p : α → Bool) (xs : List α) : xs.countP p ≤ xs.length := List.countP_le_length
theorem set_take {α : Type} {xs : List α} {i j : Nat} (v : α) (h : j < xs.length) : (xs.set i v)[j]'(by rw [List.length_set]; exact h) = if i = j then v else xs[j] := by rw [List.getElem_set]
theorem at_set_ne {α : Type} [Inhabited α] {xs : List α} {i : Nat} {j : Int} {v : α} (h0 : 0 ≤ j) (h : (i : Int) ≠ j) : at_ (xs.set i v) j = at_ xs j := by
  rw [at_getD, at_getD, List.getD_eq_getElem?_getD, List.getD_eq_getElem?_getD, List.getElem?_set_ne (by omega)]
theorem at_set_eq {α : Type} [Inhabited α] {xs : List α} {i : Nat} {v : α} (h : i < xs.length) : at_ (xs.set i v) (i : Int) = v := by
  rw [at_getD, List.getD_eq_getElem?_getD, Int.toNat_natCast, List.getElem?_set_self h]; rfl
theorem at_app_left {α : Type} [Inhabited α] (a b : List α) {i : Int} (h0 : 0 ≤ i) (h : i < (a.length : Int)) : at_ (a ++ b) i = at_ a i := by
  rw [at_getD, at_getD, List.getD_eq_getElem?_getD, List.getD_eq_getElem?_getD, List.getElem?_append_left (by omega)]
theorem at_app_right {α : Type} [Inhabited α] (a b : List α) {i : Int} (h : (a.length : Int) ≤ i) : at_ (a ++ b) i = at_ b (i - a.length) := by
  rw [at_getD, at_getD, List.getD_eq_getElem?_getD, List.getD_eq_getElem?_getD, List.getElem?_append_right (by omega)]
  congr 2; omega
theorem at_app_last {α : Type} [Inhabited α] (a : List α) (v : α) : at_ (a ++ [v]) (a.length : Int) = v := by
  rw [at_app_right a [v] (by omega), Int.sub_self]; rfl
theorem at_take {α : Type} [Inhabited α] (xs : List α) {n : Nat} {i : Int} (h0 : 0 ≤ i) (h : i < n) : at_ (xs.take n) i = at_ xs i := by
  rw [at_getD, at_getD, List.getD_eq_getElem?_getD, List.getD_eq_getElem?_getD, List.getElem?_take_of_lt (by omega)]
theorem at_rep {α : Type} [Inhabited α] (n : Nat) (v : α) {i : Int} (h0 : 0 ≤ i) (h : i < n) : at_ (List.replicate n v) i = v := by
  rw [at_int h0 (by simpa using h)]; simp
theorem tmod_of {a : Int} (b : Int) (h : 0 ≤ a) : a.tmod b = a % b := Int.tmod_eq_emod_of_nonneg h
theorem tdiv_of {a : Int} (b : Int) (h : 0 ≤ a) : a.tdiv b = a / b := Int.tdiv_eq_ediv_of_nonneg h
theorem range_at {n : Nat} {f : Nat → Int} {i : Int} (h0 : 0 ≤ i) (h : i < n) : at_ ((List.range n).map f) i = f i.toNat := by
  rw [at_int h0 (by simpa using h)]; simp
theorem range_set {α : Type} (n : Nat) (f : Nat → α) (i : Nat) (v : α) : ((List.range n).map f).set i v = (List.range n).map (fun j => if j = i then v else f j) := by
  refine List.ext_getElem (by simp) fun j h1 h2 => ?_
  simp only [List.getElem_set, List.getElem_map, List.getElem_range]
  by_cases e : i = j
  · rw [if_pos e, if_pos e.symm]
  · rw [if_neg e, if_neg (fun g => e g.symm)]
theorem range_congr {α : Type} {n : Nat} {f g : Nat → α} (h : ∀ j, j < n → f j = g j) : (List.range n).map f = (List.range n).map g :=
  List.map_congr_left fun j hj => h j (List.mem_range.1 hj)
/-- A loop that counts up and stops where P does not hold. -/
theorem ev_scan {R : Type} (n : Nat) (P : Nat → Prop) (bad : R) (G : Nat → Nat → Option R) {r : R} (hr : (∃ i, i < n ∧ ¬ P i) → r = bad)
    (hstep : ∀ i, i < n → (∀ j, j < i → P j) → (P i → Ev (fun k => G k (i + 1)) r) → (¬ P i → r = bad) → Ev (fun k => G k i) r)
    (hend : (∀ i, i < n → P i) → Ev (fun k => G k n) r) : Ev (fun k => G k 0) r := by
  have key : ∀ d i, i + d = n → (∀ j, j < i → P j) → Ev (fun k => G k i) r := by
    intro d
    induction d with
    | zero => intro i hi hp; obtain rfl : i = n := by omega
              exact hend hp
    | succ d ih =>
      intro i hi hp
      refine hstep i (by omega) hp (fun h => ih (i + 1) (by omega) fun j hj => ?_) (fun h => hr ⟨i, by omega, h⟩)
      rcases Nat.lt_or_ge j i with g | g
      · exact hp j g
      · obtain rfl : j = i := by omega
        exact h
  exact key n 0 (by omega) (fun j hj => absurd hj (by omega))
theorem bool_eq {b : Bool} {P : Prop} (hb : b = true ↔ P) (h : P) : b = true := hb.2 h
theorem not_all {n : Nat} {P : Nat → Prop} (h : ¬ ∀ i, i < n → P i) : ∃ i, i < n ∧ ¬ P i := by
  classical
  exact Classical.byContradiction fun g => h fun i hi => Classical.byContradiction fun q => g ⟨i, hi, q⟩
theorem mem_take_iff {α : Type} [Inhabited α] {xs : List α} {n : Nat} {v : α} (h : n ≤ xs.length) : v ∈ xs.take n ↔ ∃ i, i < n ∧ at_ xs (i : Int) = v := by
  constructor
  · intro hv
    obtain ⟨i, hi, e⟩ := List.getElem_of_mem hv
    rw [List.length_take] at hi
    rw [List.getElem_take] at e
    exact ⟨i, by omega, by rw [at_nat (by omega)]; exact e⟩
  · rintro ⟨i, hi, e⟩
    rw [at_nat (by omega)] at e
    rw [← e]
    exact List.mem_take_iff_getElem.2 ⟨i, by omega, rfl⟩
theorem mem_at {α : Type} [Inhabited α] {xs : List α} {v : α} : v ∈ xs ↔ ∃ i, i < xs.length ∧ at_ xs (i : Int) = v := by
  have := mem_take_iff (xs := xs) (v := v) (Nat.le_refl _)
  rwa [List.take_length] at this
open Classical in
/-- The first place where P holds, or -1. -/
noncomputable def firstI (n : Nat) (P : Nat → Prop) : Int := if h : ∃ i, i < n ∧ P i then ((Classical.choose (least_of h) : Nat) : Int) else -1
theorem firstI_spec (n : Nat) (P : Nat → Prop) : (firstI n P = -1 ∧ ∀ i, i < n → ¬ P i) ∨ ∃ i, i < n ∧ P i ∧ (∀ j, j < i → ¬ P j) ∧ firstI n P = (i : Int) := by
  classical
  unfold firstI
  by_cases h : ∃ i, i < n ∧ P i
  · rw [dif_pos h]
    have hs := Classical.choose_spec (least_of h)
    exact .inr ⟨_, hs.1.1, hs.1.2, fun j hj hp => hs.2 j hj ⟨by have := hs.1.1; omega, hp⟩, rfl⟩
  · rw [dif_neg h]
    exact .inl ⟨rfl, fun i hi hp => h ⟨i, hi, hp⟩⟩
theorem firstI_lo (n : Nat) (P : Nat → Prop) : -1 ≤ firstI n P ∧ firstI n P < (n : Int) ∧ (0 ≤ firstI n P ↔ ∃ i, i < n ∧ P i) := by
  rcases firstI_spec n P with ⟨h, h2⟩ | ⟨i, h1, h2, _, h3⟩
  · rw [h]; exact ⟨by omega, by omega, fun g => by omega, fun ⟨i, hi, hp⟩ => absurd hp (h2 i hi)⟩
  · rw [h3]; exact ⟨by omega, by omega, fun _ => ⟨i, h1, h2⟩, fun _ => by omega⟩
theorem firstI_at {n : Nat} {P : Nat → Prop} (h : 0 ≤ firstI n P) : P (firstI n P).toNat := by
  rcases firstI_spec n P with ⟨h1, _⟩ | ⟨i, h1, h2, _, h3⟩
  · omega
  · rw [h3]; exact h2
theorem firstI_find {R : Type} (n : Nat) (P : Nat → Prop) (out : Int → R) : FindR n P (fun i => out (i : Int)) (out (-1)) (out (firstI n P)) := by
  rcases firstI_spec n P with ⟨h, h2⟩ | ⟨i, h1, h2, h4, h3⟩
  · exact .inl ⟨by rw [h], h2⟩
  · exact .inr ⟨i, h1, h2, h4, by rw [h3]⟩
theorem firstI_congr {n : Nat} {P Q : Nat → Prop} (h : ∀ i, i < n → (P i ↔ Q i)) : firstI n P = firstI n Q := by
  rcases firstI_spec n P with ⟨h1, h2⟩ | ⟨i, h1, h2, h4, h3⟩
  · rcases firstI_spec n Q with ⟨g1, g2⟩ | ⟨j, g1, g2, g4, g3⟩
    · rw [h1, g1]
    · exact absurd ((h j g1).2 g2) (h2 j g1)
  · rcases firstI_spec n Q with ⟨g1, g2⟩ | ⟨j, g1, g2, g4, g3⟩
    · exact absurd ((h i h1).1 h2) (g2 i h1)
    · rw [h3, g3]
      rcases Nat.lt_trichotomy i j with w | w | w
      · exact absurd ((h i h1).1 h2) (g4 i w)
      · rw [w]
      · exact absurd ((h j g1).2 g2) (h4 j w)
theorem firstI_eq {n : Nat} {P : Nat → Prop} {i : Nat} (h : i < n) (hp : P i) (hm : ∀ j, j < i → ¬ P j) : firstI n P = (i : Int) := by
  rcases firstI_spec n P with ⟨_, h2⟩ | ⟨j, h1, h2, h4, h3⟩
  · exact absurd hp (h2 i h)
  · rw [h3]
    rcases Nat.lt_trichotomy i j with w | w | w
    · exact absurd hp (h4 i w)
    · rw [w]
    · exact absurd h2 (hm j w)
theorem firstI_no {n : Nat} {P : Nat → Prop} (h : ∀ i, i < n → ¬ P i) : firstI n P = -1 := by
  rcases firstI_spec n P with ⟨h1, _⟩ | ⟨j, h1, h2, _, _⟩
  · exact h1
  · exact absurd h2 (h j h1)
/-- .. and what it gives hangs on where it stops. -/
theorem ev_scan2 {R : Type} (n : Nat) (P : Nat → Prop) (bad : Nat → R) (G : Nat → Nat → Option R) {r : R} (hr : ∀ i, i < n → ¬ P i → (∀ j, j < i → P j) → r = bad i)
    (hstep : ∀ i, i < n → (∀ j, j < i → P j) → (P i → Ev (fun k => G k (i + 1)) r) → (¬ P i → r = bad i) → Ev (fun k => G k i) r)
    (hend : (∀ i, i < n → P i) → Ev (fun k => G k n) r) : Ev (fun k => G k 0) r := by
  have key : ∀ d i, i + d = n → (∀ j, j < i → P j) → Ev (fun k => G k i) r := by
    intro d
    induction d with
    | zero => intro i hi hp; obtain rfl : i = n := by omega
              exact hend hp
    | succ d ih =>
      intro i hi hp
      refine hstep i (by omega) hp (fun h => ih (i + 1) (by omega) fun j hj => ?_) (fun h => hr i (by omega) h hp)
      rcases Nat.lt_or_ge j i with g | g
      · exact hp j g
      · obtain rfl : j = i := by omega
        exact h
  exact key n 0 (by omega) (fun j hj => absurd hj (by omega))
theorem eq_impl_between (a b c : Int) : impl_between.f a b c = some (decide (b ≤ a ∧ a ≤ c)) := by
  unfold impl_between.f
  by_cases h : a ≥ b
  · rw [if_pos h]; simp [show b ≤ a from h]
  · rw [if_neg h]; simp [show ¬ b ≤ a from h]
def ChP (b : Int) : Prop := (97 ≤ b ∧ b ≤ 122) ∨ (48 ≤ b ∧ b ≤ 57)
def NameP (s : ByteArray) : Prop := (1 ≤ s.size ∧ s.size ≤ 12) ∧ ∀ i, i < s.size → ChP (bt s (i : Int))
def CallP (cs : List S107) (i : Nat) : Prop := (0 ≤ (at_ cs (i : Int)).f0 ∧ (at_ cs (i : Int)).f0 ≤ 29) ∧ (0 ≤ (at_ cs (i : Int)).f1 ∧ (at_ cs (i : Int)).f1 ≤ (at_ cs (i : Int)).f2) ∧ (at_ cs (i : Int)).f2 ≤ 100000 ∧ (0 < i → (at_ cs ((i : Int) - 1)).f2 < (at_ cs (i : Int)).f1 ∧ (at_ cs ((i : Int) - 1)).f0 ≠ (at_ cs (i : Int)).f0)
def TripP (t : S105) : Prop := NameP t.f0 ∧ (2 ≤ t.f1.length ∧ t.f1.length ≤ 12) ∧ ∀ i, i < t.f1.length → CallP t.f1 i
def TripB (t : S105) : Prop := t.f0.size ≤ 1048576 ∧ t.f1.length ≤ 1048576
theorem eq_impl_isMinute (a : Int) : impl_isMinute.f a = some (decide (0 ≤ a ∧ a ≤ 100000)) := by
  unfold impl_isMinute.f
  rw [eq_impl_between]
  rfl
theorem ev_impl_nameOk (s : ByteArray) (hs : s.size ≤ 1048576) (b : Bool) (hb : b = true ↔ NameP s) : Ev (fun k => impl_nameOk.f k s) b := by
  unfold impl_nameOk.f
  have bad : ¬ NameP s → b = false := bool_not hb
  refine Ev.ite (fun h => ev_val (bad fun g => by have := g.1; omega).symm) (fun g1 => Ev.ite (fun h => ev_val (bad fun g => by have := g.1; omega).symm) (fun g2 => ?_))
  refine ev_scan s.size (fun i => ChP (bt s (i : Int))) false (fun k i => impl_nameOk.l0 k s (i : Int)) (fun ⟨i, hi, h⟩ => bool_not hb fun g => h (g.2 i hi)) ?_ ?_
  · intro i hi _ hn hx
    refine Ev.step (fun k => by simp only [impl_nameOk.l0]; rfl) ?_
    rw [wrap_succ hi (by omega)]
    unfold ChP at hn hx
    have no : ¬ (97 ≤ bt s (i : Int) ∧ bt s (i : Int) ≤ 122 ∨ 48 ≤ bt s (i : Int) ∧ bt s (i : Int) ≤ 57) → Ev (fun _ => some false) b := fun h => ev_val (hx h).symm
    refine Ev.pos (by omega) (Ev.pos (by omega) (Ev.ite (fun h1 => ?_) (fun h1 => ?_)))
    · exact Ev.ite (fun h => no (by omega)) (fun h3 => Ev.ite (fun h => no (by omega)) (fun h4 => hn (.inr (by omega))))
    · exact Ev.ite (fun h2 => Ev.ite (fun h => no (by omega)) (fun h3 => Ev.ite (fun h => no (by omega)) (fun h4 => hn (.inr (by omega))))) (fun h2 => hn (.inl (by omega)))
  · intro hp
    refine Ev.step (fun k => by simp only [impl_nameOk.l0]; rfl) ?_
    exact Ev.neg (by omega) (ev_val (hb.2 ⟨by omega, hp⟩).symm)
theorem ev_impl_TripOk (t : S105) (hs : t.f0.size ≤ 1048576) (hl : t.f1.length ≤ 1048576) (b : Bool) (hb : b = true ↔ TripP t) : Ev (fun k => impl_TripOk.f k t) b := by
  classical
  unfold impl_TripOk.f
  have bad : ¬ TripP t → b = false := bool_not hb
  refine Ev.bind (ev_impl_nameOk t.f0 hs (decide (NameP t.f0)) decide_eq_true_iff) (Ev.ite (fun g1 => ?_) (fun h => ev_val (bad fun g => h (decide_eq_true g.1)).symm))
  refine Ev.opt (eq_impl_between _ _ _) (Ev.ite (fun g2 => ?_) (fun h => ev_val (bad fun g => h (decide_eq_true (by have := g.2.1; omega))).symm))
  have g2 := of_decide_eq_true g2
  refine ev_scan t.f1.length (CallP t.f1) false (fun k i => impl_TripOk.l0 k t (i : Int)) (fun ⟨i, hi, h⟩ => bad fun g => h (g.2.2 i hi)) ?_ ?_
  · intro i hi _ hn hx
    refine Ev.step (fun k => by simp only [impl_TripOk.l0]; rfl) ?_
    rw [wrap_succ hi (by omega), wrap_id (x := (i : Int) - 1) (by omega) (by omega)]
    unfold CallP at hn hx
    refine Ev.pos (by omega) (Ev.pos (by omega) (Ev.opt (eq_impl_between _ _ _) (Ev.ite (fun q1 => ?_) (fun h => ev_val (hx fun g => h (decide_eq_true g.1)).symm))))
    have q1 := of_decide_eq_true q1
    refine Ev.opt (eq_impl_isMinute _) (Ev.ite (fun q2 => ?_) (fun h => ev_val (hx fun g => h (decide_eq_true (by omega))).symm))
    have q2 := of_decide_eq_true q2
    refine Ev.opt (eq_impl_isMinute _) (Ev.ite (fun q3 => ?_) (fun h => ev_val (hx fun g => h (decide_eq_true (by omega))).symm))
    have q3 := of_decide_eq_true q3
    refine Ev.ite (fun h => ev_val (hx fun g => by omega).symm) (fun h4 => Ev.ite (fun h0 => ?_) (fun h0 => hn ⟨q1, by omega, by omega, fun g => by omega⟩))
    refine Ev.pos (by omega) (Ev.pos (by omega) (Ev.ite (fun h => ev_val (hx fun g => by have := g.2.2.2 (by omega); omega).symm) (fun h1 => Ev.ite (fun h => ev_val (hx fun g => (g.2.2.2 (by omega)).2 h.symm).symm) (fun h2 => hn ⟨q1, by omega, by omega, fun _ => ⟨by omega, fun g => h2 g.symm⟩⟩))))
  · intro hp
    refine Ev.step (fun k => by simp only [impl_TripOk.l0]; rfl) ?_
    exact Ev.neg (by omega) (ev_val (hb.2 ⟨of_decide_eq_true g1, by omega, hp⟩).symm)
theorem ev_impl_tripNamed (ts : List S105) (s : ByteArray) (hl : ts.length ≤ 1048576) : Evx (fun k => impl_tripNamed.f k ts s) (fun r => (0 ≤ r ↔ ∃ j, j < ts.length ∧ sEq (at_ ts (j : Int)).f0 s = true)) := by
  classical
  unfold impl_tripNamed.f slices_IndexFunc_1.f
  obtain ⟨r, hr⟩ := FindR.exists ts.length (fun j => sEq (at_ ts (j : Int)).f0 s = true) (fun j => ((j : Int), s)) (((-1 : Int)), s)
  refine Evx.bind (P := fun x => x = r) (Evx.of ?_ rfl) (fun x hx => ?_)
  · refine ev_find ts.length (fun j => sEq (at_ ts (j : Int)).f0 s = true) (fun j => ((j : Int), s)) ((-1 : Int), s) r (fun k i => slices_IndexFunc_1.l0 k ts s (i : Int)) hr ?_ ?_ ?_
    · intro i hi hc hn
      refine Ev.step (fun k => by simp only [slices_IndexFunc_1.l0, impl_tripNamed_1.f, Option.bind_some]; rfl) ?_
      rw [wrap_succ hi (by omega)]
      exact Ev.pos (by omega) (Ev.pos (by omega) (Ev.neg hc hn))
    · intro i hi hc _
      refine Ev.step (fun k => by simp only [slices_IndexFunc_1.l0, impl_tripNamed_1.f, Option.bind_some]; rfl) ?_
      exact Ev.pos (by omega) (Ev.pos (by omega) (Ev.pos hc (ev_val rfl)))
    · intro _
      refine Ev.step (fun k => by simp only [slices_IndexFunc_1.l0]; rfl) ?_
      exact Ev.neg (by omega) (ev_val rfl)
  · subst hx
    refine Evx.val ?_
    rcases hr with ⟨rfl, h⟩ | ⟨i, h1, h2, _, rfl⟩
    · exact ⟨fun g => absurd g (by show ¬ (0 ≤ (-1 : Int)); omega), fun ⟨j, hj, g⟩ => absurd g (h j hj)⟩
    · exact ⟨fun _ => ⟨i, h1, h2⟩, fun _ => by show 0 ≤ (i : Int); omega⟩
def NewP (ts : List S105) (i : Nat) : Prop := TripP (at_ ts (i : Int)) ∧ ∀ j, j < i → sEq (at_ ts (j : Int)).f0 (at_ ts (i : Int)).f0 ≠ true
def TableP (ts : List S105) : Prop := ts.length ≤ 24 ∧ ∀ i, i < ts.length → NewP ts i
def TableB (ts : List S105) : Prop := ts.length ≤ 1048576 ∧ ∀ y, y ∈ ts → TripB y
theorem ev_impl_TableOk (ts : List S105) (hB : TableB ts) (b : Bool) (hb : b = true ↔ TableP ts) : Ev (fun k => impl_TableOk.f k ts) b := by
  classical
  obtain ⟨B0, B1⟩ := hB
  unfold impl_TableOk.f
  have bad : ¬ TableP ts → b = false := bool_not hb
  refine Ev.ite (fun h => ev_val (bad fun g => by have := g.1; omega).symm) (fun g1 => ?_)
  refine ev_scan ts.length (NewP ts) false (fun k i => impl_TableOk.l0 k ts (i : Int)) (fun ⟨i, hi, h⟩ => bad fun g => h (g.2 i hi)) ?_ ?_
  · intro i hi _ hn hx
    have hy := B1 _ (at_mem (xs := ts) (i := (i : Int)) (by omega) (by omega))
    refine Ev.step (fun k => by simp only [impl_TableOk.l0]; rfl) ?_
    refine Ev.pos (by omega) (Ev.pos (by omega) (Ev.bind (ev_impl_TripOk _ hy.1 hy.2 (decide (TripP (at_ ts (i : Int)))) decide_eq_true_iff) (Ev.ite (fun g => ?_) (fun h => ev_val (hx fun g => h (decide_eq_true g.1)).symm))))
    refine Ev.pos (by omega) ?_
    rw [Int.toNat_natCast, show (0 : Int).toNat = 0 from rfl, List.drop_zero, Nat.sub_zero, wrap_succ hi (by omega)]
    have hlt : (ts.take i).length = i := by rw [List.length_take]; omega
    obtain ⟨r, e1, e2⟩ := ev_impl_tripNamed (ts.take i) (at_ ts (i : Int)).f0 (by omega)
    have e3 : 0 ≤ r ↔ ∃ j, j < i ∧ sEq (at_ ts (j : Int)).f0 (at_ ts (i : Int)).f0 = true := by
      rw [e2, hlt]
      exact ⟨fun ⟨j, hj, g⟩ => ⟨j, hj, by rw [at_take ts (by omega) (by omega)] at g; exact g⟩, fun ⟨j, hj, g⟩ => ⟨j, hj, by rw [at_take ts (by omega) (by omega)]; exact g⟩⟩
    refine Ev.bind e1 (Ev.ite (fun h => ev_val (hx fun q => ?_).symm) (fun h => hn ⟨of_decide_eq_true g, fun j hj q => h (e3.2 ⟨j, hj, q⟩)⟩))
    obtain ⟨j, hj, w⟩ := e3.1 h
    exact q.2 j hj w
  · intro hp
    refine Ev.step (fun k => by simp only [impl_TableOk.l0]; rfl) ?_
    exact Ev.neg (by omega) (ev_val (hb.2 ⟨by omega, hp⟩).symm)
theorem call_bd {t : S105} (h : TripP t) {i : Int} (h0 : 0 ≤ i) (h1 : i < (t.f1.length : Int)) : (0 ≤ (at_ t.f1 i).f0 ∧ (at_ t.f1 i).f0 ≤ 29) ∧ (0 ≤ (at_ t.f1 i).f1 ∧ (at_ t.f1 i).f1 ≤ (at_ t.f1 i).f2) ∧ (at_ t.f1 i).f2 ≤ 100000 := by
  have h2 := h.2.2 i.toNat (by omega)
  unfold CallP at h2
  rw [show ((i.toNat : Nat) : Int) = i by omega] at h2
  exact ⟨h2.1, h2.2.1, h2.2.2.1⟩
def lastD (t : S105) : Int := (at_ t.f1 ((t.f1.length : Int) - 1)).f2
theorem dep_mono {t : S105} (h : TripP t) : ∀ m j, j ≤ m → m < t.f1.length → (at_ t.f1 (j : Int)).f2 ≤ (at_ t.f1 (m : Int)).f2
  | 0, j, hj, _ => by obtain rfl : j = 0 := by omega
                      exact Int.le_refl _
  | m + 1, j, hj, hm => by
    by_cases e : j = m + 1
    · rw [e]; exact Int.le_refl _
    · have ih := dep_mono h m j (by omega) (by omega)
      have h1 := h.2.2 (m + 1) hm
      unfold CallP at h1
      have h2 := (h1.2.2.2 (by omega)).1
      rw [show ((m + 1 : Nat) : Int) - 1 = (m : Int) by omega] at h2
      omega
theorem dep_last {t : S105} (h : TripP t) {i : Int} (h0 : 0 ≤ i) (h1 : i < (t.f1.length : Int)) : (at_ t.f1 i).f2 ≤ lastD t := by
  have hl := h.2.1
  have := dep_mono h (t.f1.length - 1) i.toNat (by omega) (by omega)
  rw [show ((i.toNat : Nat) : Int) = i by omega, show ((t.f1.length - 1 : Nat) : Int) = (t.f1.length : Int) - 1 by omega] at this
  exact this
theorem trip_bdd {t : S105} (h : TripP t) : TripB t := ⟨by have := h.1.1; omega, by have := h.2.1; omega⟩
theorem table_bdd {ts : List S105} (h : TableP ts) : TableB ts := ⟨by have := h.1; omega, fun y hy => by
  obtain ⟨i, hi, rfl⟩ := mem_at.1 hy
  exact trip_bdd (h.2 i hi).1⟩
-- strings as lists of bytes
def byt (s : ByteArray) : List UInt8 := s.data.toList
theorem byt_len (s : ByteArray) : (byt s).length = s.size := by unfold byt ByteArray.size; exact Array.length_toList
theorem byt_mk (l : List UInt8) : byt ⟨l.toArray⟩ = l := by simp [byt]
theorem byt_app (a b : ByteArray) : byt (a ++ b) = byt a ++ byt b := by simp [byt, ByteArray.data_append]
theorem byt_ext {a b : ByteArray} (h : byt a = byt b) : a = b := by
  cases a with | mk x => cases b with | mk y => 
  congr 1
  exact Array.toList_inj.1 h
theorem mk_byt (s : ByteArray) : (⟨(byt s).toArray⟩ : ByteArray) = s := byt_ext (byt_mk _)
theorem bt_eq (s : ByteArray) {i : Nat} (h : i < (byt s).length) : bt s (i : Int) = ((byt s)[i].toNat : Int) := by
  have h2 : i < s.size := by rw [← byt_len]; exact h
  unfold bt
  rw [dif_pos (by rw [Int.toNat_natCast]; exact h2)]
  rfl
def ChU (b : UInt8) : Prop := (97 ≤ b.toNat ∧ b.toNat ≤ 122) ∨ (48 ≤ b.toNat ∧ b.toNat ≤ 57)
theorem name_iff (s : ByteArray) : NameP s ↔ (1 ≤ (byt s).length ∧ (byt s).length ≤ 12) ∧ ∀ b, b ∈ byt s → ChU b := by
  unfold NameP
  rw [byt_len]
  refine and_congr Iff.rfl ⟨fun h b hb => ?_, fun h i hi => ?_⟩
  · obtain ⟨i, hi, rfl⟩ := List.getElem_of_mem hb
    have := h i (by rw [← byt_len]; exact hi)
    rw [bt_eq s hi] at this
    unfold ChP at this
    unfold ChU
    omega
  · have hi2 : i < (byt s).length := by rw [byt_len]; exact hi
    have := h _ (List.getElem_mem hi2)
    rw [bt_eq s hi2]
    unfold ChU at this
    unfold ChP
    omega
/-- The decimal digits. -/
def dec (n : Nat) : List UInt8 := if h : n < 10 then [UInt8.ofNat (48 + n)] else dec (n / 10) ++ [UInt8.ofNat (48 + n % 10)]
termination_by n
theorem dec_lt {n : Nat} (h : n < 10) : dec n = [UInt8.ofNat (48 + n)] := by rw [dec, dif_pos h]
theorem dec_ge {n : Nat} (h : ¬ n < 10) : dec n = dec (n / 10) ++ [UInt8.ofNat (48 + n % 10)] := by rw [dec, dif_neg h]
def decZ (n : Nat) : List UInt8 := if n = 0 then [] else dec n
theorem decZ_step {n : Nat} (h : n ≠ 0) : decZ n = decZ (n / 10) ++ [UInt8.ofNat (48 + n % 10)] := by
  unfold decZ
  rw [if_neg h]
  by_cases g : n < 10
  · rw [dec_lt g, if_pos (by omega), Nat.mod_eq_of_lt g]; rfl
  · rw [dec_ge g, if_neg (by omega)]
theorem dig_nat {d : Nat} (h : d < 10) : (UInt8.ofNat (48 + d)).toNat = 48 + d := by
  rw [UInt8.toNat_ofNat']
  omega
theorem dec_dig (n : Nat) : ∀ b, b ∈ dec n → 48 ≤ b.toNat ∧ b.toNat ≤ 57 := by
  induction n using Nat.strongRecOn with
  | ind n ih =>
    intro b hb
    by_cases g : n < 10
    · rw [dec_lt g, List.mem_singleton] at hb
      rw [hb, dig_nat g]; omega
    · rw [dec_ge g, List.mem_append, List.mem_singleton] at hb
      rcases hb with hb | hb
      · exact ih (n / 10) (by omega) b hb
      · rw [hb, dig_nat (by omega)]; omega
theorem dec_len_le : ∀ (k n : Nat), n < 10 ^ (k + 1) → (dec n).length ≤ k + 1 := by
  intro k
  induction k with
  | zero => intro n h; rw [dec_lt (by simpa using h)]; simp
  | succ k ih =>
    intro n h
    by_cases g : n < 10
    · rw [dec_lt g]; simp
    · rw [dec_ge g, List.length_append, List.length_singleton]
      have := ih (n / 10) (by rw [Nat.pow_succ] at h; omega)
      omega
theorem dec_len_pos (n : Nat) : 1 ≤ (dec n).length := by
  by_cases g : n < 10
  · rw [dec_lt g]; simp
  · rw [dec_ge g]; simp
theorem ofs_u8 {d : Int} (h0 : 0 ≤ d) (h1 : d < 10) : UInt8.ofNat (IntKind.u8.wrap (wrap64 (48 + d))).toNat = UInt8.ofNat (48 + d.toNat) := by
  rw [wrap_id (by omega) (by omega)]
  have e : IntKind.u8.wrap (48 + d) = 48 + d := by
    have h2 : d = 0 ∨ d = 1 ∨ d = 2 ∨ d = 3 ∨ d = 4 ∨ d = 5 ∨ d = 6 ∨ d = 7 ∨ d = 8 ∨ d = 9 := by omega
    rcases h2 with rfl | rfl | rfl | rfl | rfl | rfl | rfl | rfl | rfl | rfl <;> decide
  rw [e]
  congr 1
  omega
theorem ev_spec_l01Num (n : Nat) (hn : n < 10 ^ 15) : Ev (fun k => spec_l01Num.f k (n : Int)) ⟨(dec n).toArray⟩ := by
  unfold spec_l01Num.f
  refine Ev.ite (fun h => ev_val ?_) (fun h0 => ?_)
  · obtain rfl : n = 0 := by omega
    rw [dec_lt (by omega)]; rfl
  have key : ∀ j m : Nat, m < 10 ^ j → m < 10 ^ 15 → ∀ s : ByteArray, s.size + j ≤ 1000 → Ev (fun k => spec_l01Num.l0 k (n : Int) (m : Int) s) ⟨(decZ m ++ byt s).toArray⟩ := by
    intro j
    induction j with
    | zero =>
      intro m hm _ s hs
      obtain rfl : m = 0 := by simpa using hm
      refine Ev.step (fun k => by simp only [spec_l01Num.l0]; rfl) ?_
      refine Ev.pos rfl (Ev.neg (by omega) (ev_val (byt_ext ?_)))
      rw [byt_mk]; rfl
    | succ j ih =>
      intro m hm hm2 s hs
      refine Ev.step (fun k => by simp only [spec_l01Num.l0]; rfl) ?_
      refine Ev.ite (fun g => ?_) (fun g => ?_)
      · obtain rfl : m = 0 := by omega
        refine Ev.neg (by omega) (ev_val (byt_ext ?_))
        rw [byt_mk]; rfl
      · have hmod : ((m : Int).tmod 10) = ((m % 10 : Nat) : Int) := by rw [tmod_of 10 (by omega)]; omega
        have hdiv : wrap64 ((m : Int).tdiv 10) = ((m / 10 : Nat) : Int) := by rw [tdiv_of 10 (by omega), wrap_id (by omega) (by omega)]; omega
        rw [hmod, hdiv]
        refine Ev.neg (by omega) ?_
        rw [ofs_u8 (by omega) (by omega), Int.toNat_natCast]
        refine Ev.pos (by show 1 + s.size ≤ _; omega) ?_
        have e : (decZ m ++ byt s) = decZ (m / 10) ++ byt ((⟨#[UInt8.ofNat (48 + m % 10)]⟩ : ByteArray) ++ s) := by
          rw [byt_app, decZ_step (by omega), List.append_assoc]; rfl
        rw [e]
        refine ih (m / 10) (by rw [Nat.pow_succ] at hm; omega) (by omega) _ ?_
        rw [ByteArray.size_append]
        show 1 + s.size + j ≤ _
        omega
  have := key 15 n hn hn ⟨#[]⟩ (by decide)
  have e : decZ n ++ byt ⟨#[]⟩ = dec n := by unfold decZ; rw [if_neg (by omega)]; simp [byt]
  rw [e] at this
  exact this
/-- A loop that counts down. -/
theorem evx_down {R σ : Type} (G : Nat → Nat → σ → Option R) (Inv : Nat → σ → Prop) (C : R → Prop)
    (hstep : ∀ i s, Inv (i + 1) s → (∀ s', Inv i s' → Evx (fun k => G k i s') C) → Evx (fun k => G k (i + 1) s) C)
    (hend : ∀ s, Inv 0 s → Evx (fun k => G k 0 s) C) : ∀ n s, Inv n s → Evx (fun k => G k n s) C
  | 0, s, h => hend s h
  | n + 1, s, h => hstep n s h fun s' h' => evx_down G Inv C hstep hend n s' h'
theorem band_bd (a : Int) (n : Nat) (hn : n < 9223372036854775808) : 0 ≤ bAnd a (n : Int) ∧ bAnd a (n : Int) ≤ n := by
  unfold bAnd
  rw [i64w]
  have h : (BitVec.ofInt 64 a &&& BitVec.ofInt 64 (n : Int)).toNat ≤ n := by
    rw [BitVec.toNat_and]
    refine Nat.le_trans Nat.and_le_right ?_
    have : BitVec.ofInt 64 (n : Int) = BitVec.ofNat 64 n := by simp [BitVec.ofInt_natCast]
    rw [this, BitVec.toNat_ofNat]
    exact Nat.mod_le _ _
  rw [wrap_id (by omega) (by omega)]
  omega
theorem u8_bd {y : Int} (h : (Lit.int .u8 y).wf = true) : 0 ≤ y ∧ y ≤ 255 := by
  simp only [Lit.wf, Bool.and_eq_true, decide_eq_true_eq] at h
  have h1 : IntKind.u8.min = 0 := by decide
  have h2 : IntKind.u8.max = 255 := by decide
  omega
def CodeP (code : List Int) : Prop := code.length ≤ 1048576 ∧ ∀ y, y ∈ code → 0 ≤ y ∧ y ≤ 255
def CurP (c : S153) : Prop := CodeP c.f0 ∧ 0 ≤ c.f1 ∧ c.f1 ≤ (c.f0.length : Int)
theorem byte_ok (c : S153) (h : CurP c) : ∃ r, spec_l01Byte.f c = some r ∧ CurP r.2 ∧ 0 ≤ r.1 ∧ r.1 ≤ 255 := by
  obtain ⟨⟨h1, h4⟩, h2, h3⟩ := h
  unfold spec_l01Byte.f
  by_cases g : c.f1 < (c.f0.length : Int)
  · rw [if_pos g, if_pos h2]
    refine ⟨_, rfl, ⟨⟨h1, h4⟩, ?_, ?_⟩, (band_bd _ 255 (by omega)).1, (band_bd _ 255 (by omega)).2⟩
    · show 0 ≤ wrap64 (c.f1 + 1); rw [wrap_id (by omega) (by omega)]; omega
    · show wrap64 (c.f1 + 1) ≤ _; rw [wrap_id (by omega) (by omega)]; show _ ≤ (c.f0.length : Int); omega
  · rw [if_neg g]
    exact ⟨_, rfl, ⟨⟨h1, h4⟩, h2, h3⟩, (band_bd _ 255 (by omega)).1, (band_bd _ 255 (by omega)).2⟩
theorem tmod_bd {a n : Int} (h0 : 0 ≤ a) (hn : 0 < n) : 0 ≤ a.tmod n ∧ a.tmod n < n := by
  rw [tmod_of n h0]
  exact ⟨Int.emod_nonneg _ (by omega), Int.emod_lt_of_pos _ hn⟩
theorem below_ok (c : S153) (n : Int) (h : CurP c) : ∃ r, spec_l01Below.f c n = some r ∧ CurP r.2 ∧ 0 ≤ r.1 ∧ (0 < n → r.1 < n) ∧ (n ≤ 0 → r.1 = 0) := by
  unfold spec_l01Below.f
  by_cases h0 : n ≤ 0
  · rw [if_pos h0]
    exact ⟨_, rfl, h, Int.le_refl _, fun g => by omega, fun _ => rfl⟩
  · rw [if_neg h0]
    by_cases h1 : n ≤ 256
    · rw [if_pos h1]
      obtain ⟨r, e, a1, a2, a3⟩ := byte_ok c h
      rw [e, Option.bind_some, if_pos (by omega)]
      have := tmod_bd a2 (show 0 < n by omega)
      exact ⟨_, rfl, a1, this.1, fun _ => this.2, fun g => by omega⟩
    · rw [if_neg h1]
      obtain ⟨r, e, a1, a2, a3⟩ := byte_ok c h
      obtain ⟨r2, e2, b1, b2, b3⟩ := byte_ok r.2 a1
      obtain ⟨r3, e3, c1, c2, c3⟩ := byte_ok r2.2 b1
      rw [e, Option.bind_some, e2, Option.bind_some, e3, Option.bind_some, if_pos (by omega)]
      rw [wrap_id (x := r.1 * 65536) (by omega) (by omega), wrap_id (x := r2.1 * 256) (by omega) (by omega), wrap_id (x := r.1 * 65536 + r2.1 * 256) (by omega) (by omega), wrap_id (x := r.1 * 65536 + r2.1 * 256 + r3.1) (by omega) (by omega)]
      have := tmod_bd (a := r.1 * 65536 + r2.1 * 256 + r3.1) (by omega) (show 0 < n by omega)
      exact ⟨_, rfl, c1, this.1, fun _ => this.2, fun g => by omega⟩
theorem evx_l01New (code : List Int) (h : CodeP code) : Evx (fun k => spec_l01New.f k code) CurP := by
  unfold spec_l01New.f
  have fin : ∀ x : Int, CurP ⟨code, 0, x⟩ := fun x => ⟨h, Int.le_refl _, by show (0 : Int) ≤ (code.length : Int); omega⟩
  have hl := h.1
  refine evx_loop (fun k i (x : Int) => spec_l01New.l0 k code x (i : Int)) (min code.length 4000) (fun _ _ => True) _ ?_ ?_ _ trivial
  · intro i s hi _ hn
    refine Evx.step (fun k => by simp only [spec_l01New.l0]; rfl) ?_
    rw [wrap_succ hi (by omega)]
    exact Evx.pos (by omega) (Evx.pos (by omega) (Evx.pos (by omega) (hn _ trivial)))
  · intro s _
    refine Evx.step (fun k => by simp only [spec_l01New.l0]; rfl) ?_
    rcases Nat.lt_or_ge code.length 4001 with g | g
    · by_cases e : code.length ≤ 4000
      · refine Evx.ite (fun q => ?_) (fun _ => Evx.val (fin s))
        refine Evx.ite (fun q2 => by omega) (fun _ => Evx.val (fin s))
      · omega
    · exact Evx.pos (by omega) (Evx.neg (by omega) (Evx.val (fin s)))
theorem code_ok {code : List Int} (h : code.length ≤ maxLen ∧ ∀ y ∈ code, (Lit.int .u8 y).wf = true) (hl : ¬ (code.length : Int) > 1048576) : CodeP code := ⟨by omega, fun y hy => u8_bd (h.2 y hy)⟩
theorem at_ok (code : List Int) (h : CodeP code) (i : Int) (h0 : 0 ≤ i) (h1 : i ≤ 1000) : ∃ r, laws_at.f code i = some r ∧ 0 ≤ r ∧ r ≤ 255 := by
  have hl := h.1
  unfold laws_at.f
  by_cases g : i < (code.length : Int)
  · rw [if_pos g, if_pos h0]
    have := h.2 _ (at_mem h0 g)
    rw [i64w, wrap_id (by omega) (by omega)]
    exact ⟨_, rfl, this.1, this.2⟩
  · rw [if_neg g, wrap_id (x := i * 11) (by omega) (by omega), wrap_id (x := (code.length : Int) * 3) (by omega) (by omega), wrap_id (by omega) (by omega)]
    have := tmod_bd (a := i * 11 + (code.length : Int) * 3) (n := 256) (by omega) (by omega)
    exact ⟨_, rfl, this.1, by omega⟩
theorem size_ok (code : List Int) (h : CodeP code) (m : Int) (hm : 2 ≤ m) (hm2 : m ≤ 1000) : ∃ r, spec_l01Size.f code m = some r ∧ 2 ≤ r ∧ r ≤ m := by
  have hl := h.1
  unfold spec_l01Size.f
  rw [tdiv_of 16 (by omega), wrap_id (x := (code.length : Int) / 16) (by omega) (by omega), wrap_id (x := 2 + (code.length : Int) / 16) (by omega) (by omega)]
  by_cases g : 2 + (code.length : Int) / 16 > m
  · rw [if_pos g]; exact ⟨_, rfl, hm, Int.le_refl _⟩
  · rw [if_neg g]; exact ⟨_, rfl, by omega, by omega⟩
def EdgeP (m : Int) (e : S169) : Prop := (0 ≤ e.f0 ∧ e.f0 ≤ m - 1) ∧ (0 ≤ e.f1 ∧ e.f1 ≤ m - 1) ∧ e.f0 ≠ e.f1 ∧ (1 ≤ e.f2 ∧ e.f2 ≤ 100000) ∧ (1 ≤ e.f3 ∧ e.f3 ≤ 90)
def NetP (n : S131) : Prop := (1 ≤ n.f0 ∧ n.f0 ≤ 30) ∧ n.f1.length ≤ 60 ∧ ∀ i, i < n.f1.length → EdgeP n.f0 (at_ n.f1 (i : Int))
def IncP (n : S131) (e : Nat) (v : Int) : Prop := (at_ n.f1 (e : Int)).f0 = v ∨ (at_ n.f1 (e : Int)).f1 = v
/-- A net that trips are drawn over. -/
def DNetP (n : S131) : Prop := (2 ≤ n.f0 ∧ n.f0 ≤ 30) ∧ n.f1.length ≤ 60 ∧ ∀ i, i < n.f1.length → EdgeP n.f0 (at_ n.f1 (i : Int))
/-- Two nodes that follow each other: an edge joins them, or none leads away from the first. -/
def NextP (n : S131) (a b : Int) : Prop := (∃ e, e < n.f1.length ∧ (((at_ n.f1 (e : Int)).f0 = a ∧ (at_ n.f1 (e : Int)).f1 = b) ∨ ((at_ n.f1 (e : Int)).f0 = b ∧ (at_ n.f1 (e : Int)).f1 = a))) ∨ ∀ e, e < n.f1.length → ¬ IncP n e a
theorem other_ok {n : S131} (h : DNetP n) {e : Nat} (he : e < n.f1.length) {v : Int} (hv : 0 ≤ v) : ∃ o, spec_l02Other.f (at_ n.f1 (e : Int)) v = some o ∧ (0 ≤ o ↔ IncP n e v) ∧ (IncP n e v → 0 ≤ o ∧ o ≤ n.f0 - 1 ∧ o ≠ v ∧ NextP n v o) := by
  have hE := h.2.2 e he
  unfold EdgeP at hE
  unfold spec_l02Other.f IncP NextP
  by_cases h1 : (at_ n.f1 (e : Int)).f0 = v
  · rw [if_pos h1]
    exact ⟨_, rfl, ⟨fun _ => .inl h1, fun _ => hE.2.1.1⟩, fun _ => ⟨hE.2.1.1, hE.2.1.2, by omega, .inl ⟨e, he, .inl ⟨h1, rfl⟩⟩⟩⟩
  · rw [if_neg h1]
    by_cases h2 : (at_ n.f1 (e : Int)).f1 = v
    · rw [if_pos h2]
      exact ⟨_, rfl, ⟨fun _ => .inr h2, fun _ => hE.1.1⟩, fun _ => ⟨hE.1.1, hE.1.2, by omega, .inl ⟨e, he, .inr ⟨rfl, h2⟩⟩⟩⟩
    · rw [if_neg h2]
      exact ⟨_, rfl, ⟨fun g => by omega, fun g => by rcases g with g | g; exact absurd g h1; exact absurd g h2⟩, fun g => by rcases g with g | g; exact absurd g h1; exact absurd g h2⟩
theorem evx_DrawWay (c : S153) (n : S131) (v : Int) (hc : CurP c) (h : DNetP n) (hv : 0 ≤ v) : Evx (fun k => spec_l02DrawWay.f k c n v 1) (fun r => CurP r.2 ∧ ((∃ e : Nat, r.1 = [(e : Int)] ∧ e < n.f1.length ∧ IncP n e v) ∨ (r.1 = [] ∧ ∀ e, e < n.f1.length → ¬ IncP n e v))) := by
  have hl := h.2.1
  unfold spec_l02DrawWay.f
  refine Evx.step (fun k => by simp only [spec_l02DrawWay.l0]; rfl) ?_
  obtain ⟨s, e1, c1, s0, s1, s2⟩ := below_ok c (n.f1.length : Int) hc
  refine Evx.pos (by omega) (Evx.opt e1 ?_)
  have fin : ∀ (xs : List Int) (at_' : Int), (CurP s.2 ∧ ((∃ e : Nat, xs = [(e : Int)] ∧ e < n.f1.length ∧ IncP n e v) ∨ (xs = [] ∧ ∀ e, e < n.f1.length → ¬ IncP n e v))) → Evx (fun k => spec_l02DrawWay.l0 k n 1 s.2 xs at_' 1) (fun r => CurP r.2 ∧ ((∃ e : Nat, r.1 = [(e : Int)] ∧ e < n.f1.length ∧ IncP n e v) ∨ (r.1 = [] ∧ ∀ e, e < n.f1.length → ¬ IncP n e v))) := fun xs a hq => by
    refine Evx.step (fun k => by simp only [spec_l02DrawWay.l0]; rfl) ?_
    exact Evx.neg (by omega) (Evx.val hq)
  refine evx_loop (fun k i (_ : Unit) => spec_l02DrawWay.l1 k n 1 [] 0 s v (i : Int)) n.f1.length (fun i _ => ∀ j : Nat, j < i → ¬ IncP n ((s.1 + (j : Int)) % (n.f1.length : Int)).toNat v) _ ?_ ?_ () (fun j hj => absurd hj (by omega))
  · intro i _ hi hI hn
    have s1 := s1 (by omega)
    refine Evx.step (fun k => by simp only [spec_l02DrawWay.l1]; rfl) ?_
    rw [wrap_id (x := s.1 + (i : Int)) (by omega) (by omega), tmod_of _ (by omega), wrap_succ hi (by omega)]
    have m0 := Int.emod_nonneg (s.1 + (i : Int)) (show (n.f1.length : Int) ≠ 0 by omega)
    have m1 := Int.emod_lt_of_pos (s.1 + (i : Int)) (show 0 < (n.f1.length : Int) by omega)
    generalize hE : (s.1 + (i : Int)) % (n.f1.length : Int) = E at m0 m1 ⊢
    obtain ⟨e, rfl⟩ : ∃ e : Nat, E = (e : Int) := ⟨E.toNat, by omega⟩
    obtain ⟨o, o1, o2, o3⟩ := other_ok h (e := e) (by omega) hv
    refine Evx.pos (by omega) (Evx.pos (by omega) (Evx.pos m0 (Evx.pos m1 (Evx.opt o1 (Evx.ite (fun g => ?_) (fun g => ?_))))))
    · refine Evx.pos (by simp) ?_
      rw [show wrap64 (0 + 1) = 1 by rw [wrap_id] <;> omega]
      exact fin _ _ ⟨c1, .inl ⟨e, rfl, by omega, o2.1 g⟩⟩
    · refine hn () (fun j hj => ?_)
      by_cases ej : j = i
      · rw [ej, hE, Int.toNat_natCast]; exact fun q => g (o2.2 q)
      · exact hI j (by omega)
  · intro _ hI
    refine Evx.step (fun k => by simp only [spec_l02DrawWay.l1]; rfl) ?_
    rw [show wrap64 (0 + 1) = 1 by rw [wrap_id] <;> omega]
    refine Evx.neg (by omega) (fin _ _ ⟨c1, .inr ⟨rfl, fun e he q => ?_⟩⟩)
    have s1 := s1 (by omega)
    refine hI (((e : Int) - s.1) % (n.f1.length : Int)).toNat ?_ ?_
    · have m0 := Int.emod_nonneg ((e : Int) - s.1) (show (n.f1.length : Int) ≠ 0 by omega)
      have m1 := Int.emod_lt_of_pos ((e : Int) - s.1) (show 0 < (n.f1.length : Int) by omega)
      omega
    · have m0 := Int.emod_nonneg ((e : Int) - s.1) (show (n.f1.length : Int) ≠ 0 by omega)
      rw [show (((((e : Int) - s.1) % (n.f1.length : Int)).toNat : Nat) : Int) = ((e : Int) - s.1) % (n.f1.length : Int) by omega, Int.add_emod_emod, show s.1 + ((e : Int) - s.1) = (e : Int) by omega, Int.emod_eq_of_lt (by omega) (by omega), Int.toNat_natCast]
      exact q
theorem name_of {a b : List UInt8} (h1 : 1 ≤ a.length) (h2 : a.length ≤ 2) (h3 : b.length ≤ 10) (ha : ∀ x, x ∈ a → ChU x) (hb : ∀ x, x ∈ b → ChU x) : NameP ((⟨a.toArray⟩ : ByteArray) ++ ⟨b.toArray⟩) := by
  rw [name_iff, byt_app, byt_mk, byt_mk]
  refine ⟨by rw [List.length_append]; omega, fun x hx => ?_⟩
  rcases List.mem_append.1 hx with g | g
  · exact ha x g
  · exact hb x g
theorem evx_DrawName (c : S153) (hc : CurP c) : Evx (fun k => spec_l08DrawName.f k c) (fun r => CurP r.2 ∧ NameP r.1) := by
  unfold spec_l08DrawName.f
  have hp : ∃ r, spec_l01PickText.f c ([(⟨#[97]⟩ : ByteArray), (⟨#[105, 99]⟩ : ByteArray), (⟨#[114, 101]⟩ : ByteArray), (⟨#[115]⟩ : ByteArray), (⟨#[120]⟩ : ByteArray)] : List ByteArray) = some r ∧ CurP r.2 ∧ ∃ l : List UInt8, r.1 = ⟨l.toArray⟩ ∧ 1 ≤ l.length ∧ l.length ≤ 2 ∧ ∀ x, x ∈ l → ChU x := by
    unfold spec_l01PickText.f
    obtain ⟨r, e, a1, a2, a3, _⟩ := below_ok c 5 hc
    have a3 := a3 (by omega)
    show ∃ r_1, ((spec_l01Below.f c 5).bind fun x1 => _) = some r_1 ∧ _
    rw [e, Option.bind_some, if_pos a2, if_pos (by show r.1 < 5; exact a3)]
    refine ⟨_, rfl, a1, ?_⟩
    have h5 : r.1 = 0 ∨ r.1 = 1 ∨ r.1 = 2 ∨ r.1 = 3 ∨ r.1 = 4 := by omega
    dsimp only
    rcases h5 with g | g | g | g | g <;> rw [g]
    · exact ⟨[97], rfl, by decide, by decide, fun x hx => by rw [List.mem_singleton.1 hx]; unfold ChU; decide⟩
    · exact ⟨[105, 99], rfl, by decide, by decide, fun x hx => by simp only [List.mem_cons, List.not_mem_nil, or_false] at hx; rcases hx with rfl | rfl <;> unfold ChU <;> decide⟩
    · exact ⟨[114, 101], rfl, by decide, by decide, fun x hx => by simp only [List.mem_cons, List.not_mem_nil, or_false] at hx; rcases hx with rfl | rfl <;> unfold ChU <;> decide⟩
    · exact ⟨[115], rfl, by decide, by decide, fun x hx => by rw [List.mem_singleton.1 hx]; unfold ChU; decide⟩
    · exact ⟨[120], rfl, by decide, by decide, fun x hx => by rw [List.mem_singleton.1 hx]; unfold ChU; decide⟩
  obtain ⟨r, e1, c1, l, e2, h1, h2, h3⟩ := hp
  refine Evx.opt e1 ?_
  obtain ⟨b, e3, c3, b0, b1, _⟩ := below_ok r.2 90 c1
  have b1 := b1 (by omega)
  refine Evx.opt e3 ?_
  have hN := ev_spec_l01Num b.1.toNat (by omega)
  rw [show ((b.1.toNat : Nat) : Int) = b.1 by omega] at hN
  refine Evx.bindv hN ?_
  have hd := dec_len_le 1 b.1.toNat (by omega)
  rw [e2]
  refine Evx.pos ?_ (Evx.val ⟨c3, name_of h1 h2 (by omega) h3 fun x hx => .inr (dec_dig _ x hx)⟩)
  rw [← byt_len, ← byt_len, byt_mk, byt_mk]; omega
/-- What is drawn: a right trip, of few calls, early, along edges where there are some. -/
def DTripP (n : S131) (most : Int) (t : S105) : Prop := TripP t ∧ (t.f1.length : Int) ≤ most ∧ (∀ j : Nat, j < t.f1.length → (at_ t.f1 (j : Int)).f0 < n.f0 ∧ (at_ t.f1 (j : Int)).f2 ≤ 123 + 20 * (j : Int)) ∧ ∀ j : Nat, j + 1 < t.f1.length → NextP n (at_ t.f1 (j : Int)).f0 (at_ t.f1 ((j : Int) + 1)).f0
theorem evx_DrawTrip (c : S153) (n : S131) (most : Int) (hc : CurP c) (h : DNetP n) (hm : 2 ≤ most ∧ most ≤ 12) : Evx (fun k => spec_l08DrawTrip.f k c n most) (fun r => CurP r.2 ∧ DTripP n most r.1) := by
  have hn := h.1
  unfold spec_l08DrawTrip.f
  refine Evx.bind (evx_DrawName c hc) (fun nm ⟨n1, n2⟩ => ?_)
  obtain ⟨v, e2, c2, v0, v1, _⟩ := below_ok nm.2 n.f0 n1
  have v1 := v1 (by omega)
  obtain ⟨m, e3, c3, m0, m1, _⟩ := below_ok v.2 120 c2
  have m1 := m1 (by omega)
  refine Evx.opt e2 (Evx.opt e3 ?_)
  rw [wrap_id (x := most - 1) (by omega) (by omega)]
  obtain ⟨q, e4, c4, q0, q1, _⟩ := below_ok m.2 (most - 1) c3
  have q1 := q1 (by omega)
  refine Evx.opt e4 ?_
  rw [wrap_id (x := 2 + q.1) (by omega) (by omega)]
  have key := evx_down (fun k i (s : List S107 × S153 × Int × Int) => spec_l08DrawTrip.l0 k n nm s.1 s.2.1 s.2.2.1 s.2.2.2 (i : Int))
    (fun i s => CurP s.2.1 ∧ ((s.1.length + i : Nat) : Int) ≤ most ∧ 2 ≤ s.1.length + i ∧ (0 ≤ s.2.2.1 ∧ s.2.2.1 < n.f0) ∧ (0 ≤ s.2.2.2 ∧ s.2.2.2 ≤ 119 + 20 * (s.1.length : Int)) ∧ (∀ j : Nat, j < s.1.length → CallP s.1 j ∧ (at_ s.1 (j : Int)).f0 < n.f0 ∧ (at_ s.1 (j : Int)).f2 ≤ 123 + 20 * (j : Int)) ∧ (∀ j : Nat, j + 1 < s.1.length → NextP n (at_ s.1 (j : Int)).f0 (at_ s.1 ((j : Int) + 1)).f0) ∧ (0 < s.1.length → (at_ s.1 ((s.1.length : Int) - 1)).f2 < s.2.2.2 ∧ (at_ s.1 ((s.1.length : Int) - 1)).f0 ≠ s.2.2.1 ∧ NextP n (at_ s.1 ((s.1.length : Int) - 1)).f0 s.2.2.1))
    (fun r => CurP r.2 ∧ DTripP n most r.1) ?_ ?_ (2 + q.1).toNat ([], q.2, v.1, m.1) ⟨c4, by simp; omega, by simp; omega, ⟨v0, v1⟩, ⟨m0, by simp; omega⟩, fun j hj => absurd hj (by simp), fun j hj => absurd hj (by simp), fun hj => absurd hj (by simp)⟩
  · simpa [show (((2 + q.1).toNat : Nat) : Int) = 2 + q.1 by omega] using key
  · rintro i ⟨cs, cu, nd, mm⟩ ⟨i1, i2, i3, i4, i5, i6, i7, i8⟩ hnx
    dsimp only at i1 i2 i3 i4 i5 i6 i7 i8
    refine Evx.step (fun k => by simp only [spec_l08DrawTrip.l0]; rfl) ?_
    obtain ⟨d, e5, c5, d0, d1, _⟩ := below_ok cu 4 i1
    have d1 := d1 (by omega)
    obtain ⟨w, e6, c6, w0, w1, _⟩ := below_ok d.2 14 c5
    have w1 := w1 (by omega)
    refine Evx.pos (by omega) (Evx.opt e5 (Evx.pos (by simp only [List.length_cons, List.length_nil]; omega) (Evx.opt e6 ?_)))
    rw [wrap_id (x := n.f0 - 1) (by omega) (by omega)]
    obtain ⟨z, e7, c7, z0, z1, _⟩ := below_ok w.2 (n.f0 - 1) c6
    have z1 := z1 (by omega)
    refine Evx.opt e7 (Evx.pos (by omega) (Evx.bind (evx_DrawWay z.2 n nd c7 h i4.1) (fun way ⟨wc, hw⟩ => ?_)))
    rw [wrap_id (x := mm + d.1) (by omega) (by omega), wrap_id (x := mm + d.1 + 2) (by omega) (by omega), wrap_id (x := mm + d.1 + 2 + w.1) (by omega) (by omega), wrap_id (x := ((i + 1 : Nat) : Int) - 1) (by omega) (by omega), show ((i + 1 : Nat) : Int) - 1 = (i : Int) by omega]
    have nx : ∀ (cu2 : S153) (nd2 : Int), CurP cu2 → (0 ≤ nd2 ∧ nd2 < n.f0) → nd2 ≠ nd → NextP n nd nd2 → Evx (fun k => spec_l08DrawTrip.l0 k n nm (cs ++ [⟨nd, mm, mm + d.1⟩]) cu2 nd2 (mm + d.1 + 2 + w.1) (i : Int)) (fun r => CurP r.2 ∧ DTripP n most r.1) := by
      intro cu2 nd2 h1 h2 h3 h4
      refine hnx (cs ++ [⟨nd, mm, mm + d.1⟩], cu2, nd2, mm + d.1 + 2 + w.1) ⟨h1, by simp only [List.length_append, List.length_singleton]; omega, by simp only [List.length_append, List.length_singleton]; omega, h2, ⟨by dsimp only; omega, by simp only [List.length_append, List.length_singleton]; omega⟩, fun j hj => ?_, fun j hj => ?_, fun _ => ?_⟩
      · simp only [List.length_append, List.length_singleton] at hj
        dsimp only
        by_cases e : j = cs.length
        · rw [e]
          unfold CallP
          rw [at_app_last]
          dsimp only
          refine ⟨⟨by omega, by omega, by omega, fun hp => ?_⟩, i4.2, by omega⟩
          rw [at_app_left _ _ (by omega) (by omega)]
          have := i8 hp
          exact ⟨this.1, this.2.1⟩
        · have hj2 : j < cs.length := by omega
          have := i6 j hj2
          unfold CallP at this ⊢
          rw [at_app_left _ _ (by omega) (by omega)]
          refine ⟨⟨this.1.1, this.1.2.1, this.1.2.2.1, fun hp => ?_⟩, this.2⟩
          rw [at_app_left _ _ (by omega) (by omega)]
          exact this.1.2.2.2 hp
      · simp only [List.length_append, List.length_singleton] at hj
        dsimp only
        rw [at_app_left _ _ (by omega) (by omega)]
        by_cases e : j + 1 = cs.length
        · rw [show (j : Int) + 1 = (cs.length : Int) by omega, at_app_last]
          have := (i8 (by omega)).2.2
          rw [show (cs.length : Int) - 1 = (j : Int) by omega] at this
          exact this
        · rw [at_app_left _ _ (by omega) (by omega)]
          exact i7 j (by omega)
      · simp only [List.length_append, List.length_singleton]
        rw [show ((cs.length + 1 : Nat) : Int) - 1 = (cs.length : Int) by omega, at_app_last]
        exact ⟨by dsimp only; omega, fun g => h3 g.symm, h4⟩
    rcases hw with ⟨e, we, he, hi⟩ | ⟨we, hno⟩
    · rw [we]
      obtain ⟨o, o1, _, o3⟩ := other_ok h he i4.1
      have o3 := o3 hi
      refine Evx.pos rfl (Evx.pos (by simp) (Evx.pos (by show 0 ≤ (e : Int); omega) (Evx.pos (by show (e : Int) < _; omega) ?_)))
      rw [show at_ [(e : Int)] 0 = (e : Int) from rfl]
      exact Evx.opt o1 (nx way.2 o wc ⟨o3.1, by omega⟩ o3.2.2.1 o3.2.2.2)
    · rw [we]
      refine Evx.neg (by simp) ?_
      rw [wrap_id (x := nd + 1) (by omega) (by omega), wrap_id (x := nd + 1 + z.1) (by omega) (by omega), tmod_of _ (by omega)]
      refine nx way.2 _ wc ⟨Int.emod_nonneg _ (by omega), Int.emod_lt_of_pos _ (by omega)⟩ ?_ (.inr hno)
      rcases Int.lt_or_le (nd + 1 + z.1) n.f0 with g | g
      · rw [Int.emod_eq_of_lt (by omega) g]; omega
      · rw [← Int.sub_emod_right, Int.emod_eq_of_lt (by omega) (by omega)]; omega
  · rintro ⟨cs, cu, nd, mm⟩ ⟨i1, i2, i3, i4, i5, i6, i7, i8⟩
    dsimp only at i1 i2 i3 i4 i5 i6 i7 i8
    refine Evx.step (fun k => by simp only [spec_l08DrawTrip.l0]; rfl) ?_
    refine Evx.neg (by omega) (Evx.val ⟨i1, ⟨n2, ⟨by dsimp only; omega, by dsimp only; omega⟩, fun i hi => (i6 i hi).1⟩, by dsimp only; omega, fun j hj => (i6 j hj).2, i7⟩)
theorem ev_Taken (ts : List S105) (s : ByteArray) (hl : ts.length ≤ 100000) (b : Bool) (hb : b = true ↔ ∃ j, j < ts.length ∧ sEq (at_ ts (j : Int)).f0 s = true) : Ev (fun k => spec_l08Taken.f k ts s) b := by
  classical
  unfold spec_l08Taken.f
  refine ev_scan ts.length (fun j => ¬ sEq (at_ ts (j : Int)).f0 s = true) true (fun k j => spec_l08Taken.l0 k ts s (j : Int)) (fun ⟨j, hj, h⟩ => hb.2 ⟨j, hj, Classical.not_not.1 h⟩) ?_ ?_
  · intro j hj _ hn hx
    refine Ev.step (fun k => by simp only [spec_l08Taken.l0]; rfl) ?_
    rw [wrap_succ hj (by omega)]
    exact Ev.pos (by omega) (Ev.pos (by omega) (Ev.ite (fun g => ev_val (hx (fun q => q g)).symm) (fun g => hn g)))
  · intro hp
    refine Ev.step (fun k => by simp only [spec_l08Taken.l0]; rfl) ?_
    exact Ev.neg (by omega) (ev_val (bool_not hb fun ⟨j, hj, g⟩ => hp j hj g).symm)
/-- What is drawn of trips: right ones of own names, along the net. -/
def DTableP (n : S131) (most : Int) (ts : List S105) : Prop := (1 ≤ ts.length ∧ (ts.length : Int) ≤ most) ∧ ∀ i, i < ts.length → DTripP n 4 (at_ ts (i : Int)) ∧ ∀ j, j < i → sEq (at_ ts (j : Int)).f0 (at_ ts (i : Int)).f0 ≠ true
theorem evx_DrawTable (c : S153) (n : S131) (most : Int) (hc : CurP c) (h : DNetP n) (hm : 1 ≤ most ∧ most ≤ 20) : Evx (fun k => spec_l08DrawTable.f k c n most) (fun r => CurP r.2 ∧ DTableP n most r.1) := by
  classical
  unfold spec_l08DrawTable.f
  obtain ⟨q, e1, c1, q0, q1, _⟩ := below_ok c most hc
  have q1 := q1 (by omega)
  refine Evx.opt e1 ?_
  rw [wrap_id (x := 1 + q.1) (by omega) (by omega)]
  have key := evx_down (fun k i (s : List S105 × S153) => spec_l08DrawTable.l0 k n s.2 s.1 (i : Int))
    (fun i s => CurP s.2 ∧ ((s.1.length + i : Nat) : Int) ≤ most ∧ 1 ≤ s.1.length + i ∧ ∀ i, i < s.1.length → DTripP n 4 (at_ s.1 (i : Int)) ∧ ∀ j, j < i → sEq (at_ s.1 (j : Int)).f0 (at_ s.1 (i : Int)).f0 ≠ true)
    (fun r => CurP r.2 ∧ DTableP n most r.1) ?_ ?_ (1 + q.1).toNat ([], q.2) ⟨c1, by simp; omega, by simp; omega, fun j hj => absurd hj (by simp)⟩
  · simpa [show (((1 + q.1).toNat : Nat) : Int) = 1 + q.1 by omega] using key
  · rintro i ⟨ts, cu⟩ ⟨i1, i2, i3, i4⟩ hnx
    dsimp only at i1 i2 i3 i4
    refine Evx.step (fun k => by simp only [spec_l08DrawTable.l0]; rfl) ?_
    refine Evx.pos (by omega) (Evx.bind (evx_DrawTrip cu n 4 i1 h (by omega)) (fun t ⟨t1, t2⟩ => ?_))
    rw [wrap_id (x := ((i + 1 : Nat) : Int) - 1) (by omega) (by omega), show ((i + 1 : Nat) : Int) - 1 = (i : Int) by omega]
    refine Evx.bindv (ev_Taken ts t.1.f0 (by omega) (decide (∃ j, j < ts.length ∧ sEq (at_ ts (j : Int)).f0 t.1.f0 = true)) decide_eq_true_iff) (Evx.ite (fun g => ?_) (fun g => ?_))
    · obtain ⟨j, hj, _⟩ := of_decide_eq_true g
      exact hnx (ts, t.2) ⟨t1, by dsimp only; omega, by dsimp only; omega, i4⟩
    · have hno : ∀ j, j < ts.length → sEq (at_ ts (j : Int)).f0 t.1.f0 ≠ true := fun j hj q => g (decide_eq_true ⟨j, hj, q⟩)
      refine Evx.pos (by simp only [List.length_cons, List.length_nil]; omega) (hnx (ts ++ [t.1], t.2) ⟨t1, by simp only [List.length_append, List.length_singleton]; omega, by simp only [List.length_append, List.length_singleton]; omega, fun i hi => ?_⟩)
      simp only [List.length_append, List.length_singleton] at hi
      dsimp only
      by_cases e : i = ts.length
      · rw [e, at_app_last]
        refine ⟨t2, fun j hj => ?_⟩
        rw [at_app_left _ _ (by omega) (by omega)]
        exact hno j hj
      · rw [at_app_left _ _ (by omega) (by omega)]
        refine ⟨(i4 i (by omega)).1, fun j hj => ?_⟩
        rw [at_app_left _ _ (by omega) (by omega)]
        exact (i4 i (by omega)).2 j hj
  · rintro ⟨ts, cu⟩ ⟨i1, i2, i3, i4⟩
    dsimp only at i1 i2 i3 i4
    refine Evx.step (fun k => by simp only [spec_l08DrawTable.l0]; rfl) ?_
    exact Evx.neg (by omega) (Evx.val ⟨i1, ⟨by dsimp only; omega, by dsimp only; omega⟩, i4⟩)
theorem dtable_ok {n : S131} {m : Int} {ts : List S105} (h : DTableP n m ts) (hm : m ≤ 24) : TableP ts := ⟨by have := h.1; omega, fun i hi => ⟨(h.2 i hi).1.1, (h.2 i hi).2⟩⟩
-- soonest arrivals
def stB (cur : Int → Int) (wait : Int) (c : S107) (b : Bool) : Bool := b || (decide (cur c.f0 < 100001) && decide (cur c.f0 + wait ≤ c.f2))
def stN (c : S107) (b : Bool) (nx : Int → Int) : Int → Int := fun v => if b = true ∧ v = c.f0 then mn (nx v) c.f1 else nx v
def trB (cur : Int → Int) (wait : Int) (cs : List S107) : Nat → Bool
  | 0 => false
  | i + 1 => stB cur wait (at_ cs (i : Int)) (trB cur wait cs i)
def trN (cur : Int → Int) (wait : Int) (cs : List S107) (nx : Int → Int) : Nat → Int → Int
  | 0 => nx
  | i + 1 => stN (at_ cs (i : Int)) (trB cur wait cs i) (trN cur wait cs nx i)
def lsN (cur : Int → Int) (wait : Int) (ts : List S105) (nx : Int → Int) : Nat → Int → Int
  | 0 => nx
  | j + 1 => trN cur wait (at_ ts (j : Int)).f1 (lsN cur wait ts nx j) (at_ ts (j : Int)).f1.length
def waitV (change : Int) (h : Nat) : Int := if h = 0 then 0 else change
def rowV (ts : List S105) (src minute change : Int) : Nat → Int → Int
  | 0 => fun v => if v = src then minute else 100001
  | h + 1 => lsN (rowV ts src minute change h) (waitV change h) ts (fun _ => 100001) ts.length
def BdP (f : Int → Int) : Prop := ∀ v, 0 ≤ f v ∧ f v ≤ 100001
theorem mn_le (a b : Int) : mn a b ≤ a ∧ mn a b ≤ b ∧ (mn a b = a ∨ mn a b = b) := by
  unfold mn
  split <;> omega
theorem stN_bd {c : S107} {b : Bool} {nx : Int → Int} (h : BdP nx) (hc : 0 ≤ c.f1 ∧ c.f1 ≤ 100000) : BdP (stN c b nx) := fun v => by
  have := h v
  have hm := mn_le (nx v) c.f1
  unfold stN
  split <;> omega
theorem trN_bd {cur : Int → Int} {wait : Int} {t : S105} {nx : Int → Int} (ht : TripP t) (h : BdP nx) : ∀ i, i ≤ t.f1.length → BdP (trN cur wait t.f1 nx i)
  | 0, _ => h
  | i + 1, hi => by
    have hc := call_bd ht (i := (i : Int)) (by omega) (by omega)
    exact stN_bd (trN_bd ht h i (by omega)) (by omega)
theorem lsN_bd {cur : Int → Int} {wait : Int} {ts : List S105} {nx : Int → Int} (hT : TableP ts) (h : BdP nx) : ∀ j, j ≤ ts.length → BdP (lsN cur wait ts nx j)
  | 0, _ => h
  | j + 1, hj => trN_bd (hT.2 j hj).1 (lsN_bd hT h j (by omega)) _ (Nat.le_refl _)
theorem rowV_bd {ts : List S105} {src minute change : Int} (hT : TableP ts) (hm : 0 ≤ minute ∧ minute ≤ 100000) : ∀ h, BdP (rowV ts src minute change h)
  | 0 => fun v => by
    unfold rowV
    split <;> omega
  | h + 1 => lsN_bd hT (fun _ => by omega) _ (Nat.le_refl _)
-- earlier stays earlier
theorem tr_mono {cur cur2 : Int → Int} {wait wait2 : Int} (cs : List S107) {nx nx2 : Int → Int} (h1 : ∀ v, cur v ≤ cur2 v) (h2 : wait ≤ wait2) (h3 : ∀ v, nx v ≤ nx2 v) : ∀ i, (trB cur2 wait2 cs i = true → trB cur wait cs i = true) ∧ ∀ v, trN cur wait cs nx i v ≤ trN cur2 wait2 cs nx2 i v
  | 0 => ⟨fun h => h, h3⟩
  | i + 1 => by
    obtain ⟨ih1, ih2⟩ := tr_mono cs h1 h2 h3 i
    constructor
    · intro h
      unfold trB stB at h ⊢
      have hc := h1 (at_ cs (i : Int)).f0
      simp only [Bool.or_eq_true, Bool.and_eq_true, decide_eq_true_eq] at h ⊢
      rcases h with h | ⟨g1, g2⟩
      · exact .inl (ih1 h)
      · exact .inr ⟨by omega, by omega⟩
    · intro v
      have := ih2 v
      have m1 := mn_le (trN cur wait cs nx i v) (at_ cs (i : Int)).f1
      have m2 := mn_le (trN cur2 wait2 cs nx2 i v) (at_ cs (i : Int)).f1
      show stN _ _ _ v ≤ stN _ _ _ v
      unfold stN
      by_cases g2 : trB cur2 wait2 cs i = true ∧ v = (at_ cs (i : Int)).f0
      · rw [if_pos g2, if_pos ⟨ih1 g2.1, g2.2⟩]; omega
      · rw [if_neg g2]
        split <;> omega
theorem ls_mono {cur cur2 : Int → Int} {wait wait2 : Int} (ts : List S105) {nx nx2 : Int → Int} (h1 : ∀ v, cur v ≤ cur2 v) (h2 : wait ≤ wait2) (h3 : ∀ v, nx v ≤ nx2 v) : ∀ j v, lsN cur wait ts nx j v ≤ lsN cur2 wait2 ts nx2 j v
  | 0 => h3
  | j + 1 => (tr_mono _ h1 h2 (ls_mono ts h1 h2 h3 j) _).2
theorem row_mono (ts : List S105) (src : Int) {m m2 c c2 : Int} (hm : m ≤ m2) (hc : c ≤ c2) : ∀ h v, rowV ts src m c h v ≤ rowV ts src m2 c2 h v
  | 0 => fun v => by
    unfold rowV
    split <;> omega
  | h + 1 => ls_mono ts (row_mono ts src hm hc h) (by unfold waitV; split <;> omega) (fun _ => Int.le_refl _) _
-- the rows as they are filled
def RowsP (ts : List S105) (src minute change : Int) (H h : Nat) (nx : Int → Int) (xs : List (List Int)) : Prop := xs.length = H + 1 ∧ (∀ r : Nat, r ≤ h → ∀ v : Int, 0 ≤ v → v < 30 → at_ (at_ xs (r : Int)) v = rowV ts src minute change r v) ∧ (h < H → ∀ v : Int, 0 ≤ v → v < 30 → at_ (at_ xs ((h + 1 : Nat) : Int)) v = nx v) ∧ ∀ r : Nat, h + 1 < r → r ≤ H → ∀ v : Int, 0 ≤ v → v < 30 → at_ (at_ xs (r : Int)) v = 100001
theorem rows_set {ts : List S105} {src minute change : Int} {H h : Nat} {nx : Int → Int} {xs : List (List Int)} (hR : RowsP ts src minute change H h nx xs) (hh : h < H) {w q : Int} (hw : 0 ≤ w ∧ w < 30) {ny : Int → Int} (hy : ∀ v, ny v = if v = w then q else nx v) : RowsP ts src minute change H h ny (xs.set (h + 1) (aset 30 (at_ xs ((h + 1 : Nat) : Int)) w q)) := by
  obtain ⟨r1, r2, r3, r4⟩ := hR
  refine ⟨by rw [List.length_set]; exact r1, fun r hr v v0 v1 => ?_, fun _ v v0 v1 => ?_, fun r hr hr2 v v0 v1 => ?_⟩
  · rw [at_set_ne (by omega) (by omega)]; exact r2 r hr v v0 v1
  · rw [at_set_eq (by omega), aset_at v0 (by omega), hy v]
    split
    · rfl
    · exact r3 hh v v0 v1
  · rw [at_set_ne (by omega) (by omega)]; exact r4 r hr hr2 v v0 v1
theorem ev_impl_arrivals {ts : List S105} {src minute change : Int} {H : Nat} (hT : TableP ts) (hs : 0 ≤ src ∧ src < 30) (hm : 0 ≤ minute ∧ minute ≤ 100000) (hc : 0 ≤ change ∧ change ≤ 60) (hH : H ≤ 5) :
    Evx (fun k => impl_arrivals.f k ts src minute change (H : Int)) (fun xs => RowsP ts src minute change H H (fun _ => 0) xs) := by
  have h24 := hT.1
  unfold impl_arrivals.f
  rw [wrap_succ (n := 6) (by omega) (by omega)]
  refine Evx.pos (by omega) (Evx.pos (by omega) ?_)
  rw [Int.toNat_natCast]
  have hbd := rowV_bd (src := src) (change := change) hT hm
  have inner : ∀ xs : List (List Int), RowsP ts src minute change H 0 (fun _ => 100001) xs → Evx (fun k => impl_arrivals.l2 k ts change (H : Int) xs 0 0) (fun xs => RowsP ts src minute change H H (fun _ => 0) xs) := by
    intro xs h0
    refine evx_loop (fun k h (xs : List (List Int)) => impl_arrivals.l2 k ts change (H : Int) xs (waitV change h) (h : Int)) H (fun h xs => RowsP ts src minute change H h (fun _ => 100001) xs) _ ?_ ?_ xs h0
    · intro h xs hh hR hn
      have hw : 0 ≤ waitV change h ∧ waitV change h ≤ 60 := by unfold waitV; split <;> omega
      refine Evx.step (fun k => by simp only [impl_arrivals.l2]; rfl) ?_
      refine Evx.pos (by omega) ?_
      refine evx_loop (fun k j (xs : List (List Int)) => impl_arrivals.l3 k ts change (H : Int) (waitV change h) (h : Int) xs (j : Int)) ts.length (fun j xs => RowsP ts src minute change H h (lsN (rowV ts src minute change h) (waitV change h) ts (fun _ => 100001) j) xs) _ ?_ ?_ xs hR
      · intro j xs hj hR hn2
        have ht := (hT.2 j hj).1
        have hl := ht.2.1
        refine Evx.step (fun k => by simp only [impl_arrivals.l3]; rfl) ?_
        refine Evx.pos (by omega) (Evx.pos (by omega) ?_)
        refine evx_loop (fun k i (s : List (List Int) × Bool) => impl_arrivals.l4 k ts change (H : Int) (waitV change h) (h : Int) (j : Int) s.1 s.2 (i : Int)) (at_ ts (j : Int)).f1.length (fun i s => RowsP ts src minute change H h (trN (rowV ts src minute change h) (waitV change h) (at_ ts (j : Int)).f1 (lsN (rowV ts src minute change h) (waitV change h) ts (fun _ => 100001) j) i) s.1 ∧ s.2 = trB (rowV ts src minute change h) (waitV change h) (at_ ts (j : Int)).f1 i) _ ?_ ?_ (xs, false) ⟨hR, rfl⟩
        · intro i s hi hI hn3
          obtain ⟨ys, b⟩ := s
          obtain ⟨hR, hb⟩ := hI
          dsimp only at hR hb
          have hcb := call_bd ht (i := (i : Int)) (by omega) (by omega)
          have hcur := hbd h (at_ (at_ ts (j : Int)).f1 (i : Int)).f0
          have hyl := hR.1
          refine Evx.step (fun k => by simp only [impl_arrivals.l4]; rfl) ?_
          rw [wrap_succ (n := 6) (i := h) (by omega) (by omega), wrap_succ hi (by omega), Int.toNat_natCast]
          refine Evx.pos (by omega) (Evx.pos (by omega) (Evx.ite (fun gb => ?_) (fun gb => ?_)))
          · have hb1 : trB (rowV ts src minute change h) (waitV change h) (at_ ts (j : Int)).f1 i = true := by rw [← hb]; exact gb
            have hR2 := rows_set hR hh (w := (at_ (at_ ts (j : Int)).f1 (i : Int)).f0) (q := mn (at_ (at_ ys ((h + 1 : Nat) : Int)) (at_ (at_ ts (j : Int)).f1 (i : Int)).f0) (at_ (at_ ts (j : Int)).f1 (i : Int)).f1) ⟨by omega, by omega⟩ (ny := trN (rowV ts src minute change h) (waitV change h) (at_ ts (j : Int)).f1 (lsN (rowV ts src minute change h) (waitV change h) ts (fun _ => 100001) j) (i + 1)) (fun v => by
              show stN _ _ _ v = _
              unfold stN
              by_cases e : v = (at_ (at_ ts (j : Int)).f1 (i : Int)).f0
              · subst e
                rw [if_pos ⟨hb1, rfl⟩, if_pos rfl, hR.2.2.1 hh _ (by omega) (by omega)]
              · rw [if_neg (fun g => e g.2), if_neg e])
            have hx : trB (rowV ts src minute change h) (waitV change h) (at_ ts (j : Int)).f1 (i + 1) = true := by
              show stB _ _ _ _ = true
              unfold stB
              rw [hb1]; rfl
            have go := hn3 (_, true) ⟨hR2, hx.symm⟩
            subst gb
            refine Evx.pos (by omega) (Evx.pos (by omega) (Evx.pos (by omega) (Evx.pos (by omega) (Evx.pos (by omega) (Evx.pos (by omega) (Evx.ite (fun _ => Evx.ite (fun _ => go) (fun _ => go)) (fun _ => go)))))))
          · have hb0 : trB (rowV ts src minute change h) (waitV change h) (at_ ts (j : Int)).f1 i = false := by rw [← hb]; simpa using gb
            have hbf : b = false := by simpa using gb
            subst hbf
            have hR2 : RowsP ts src minute change H h (trN (rowV ts src minute change h) (waitV change h) (at_ ts (j : Int)).f1 (lsN (rowV ts src minute change h) (waitV change h) ts (fun _ => 100001) j) (i + 1)) ys := by
              have e : trN (rowV ts src minute change h) (waitV change h) (at_ ts (j : Int)).f1 (lsN (rowV ts src minute change h) (waitV change h) ts (fun _ => 100001) j) (i + 1) = trN (rowV ts src minute change h) (waitV change h) (at_ ts (j : Int)).f1 (lsN (rowV ts src minute change h) (waitV change h) ts (fun _ => 100001) j) i := by
                funext v
                show stN _ _ _ v = _
                unfold stN
                rw [if_neg (fun g => by rw [hb0] at g; exact absurd g.1 (by decide))]
              rw [e]; exact hR
            have ec := hR.2.1 h (Nat.le_refl _) (at_ (at_ ts (j : Int)).f1 (i : Int)).f0 (by omega) (by omega)
            rw [ec, wrap_id (x := rowV ts src minute change h (at_ (at_ ts (j : Int)).f1 (i : Int)).f0 + waitV change h) (by omega) (by omega)]
            have hx : trB (rowV ts src minute change h) (waitV change h) (at_ ts (j : Int)).f1 (i + 1) = (decide (rowV ts src minute change h (at_ (at_ ts (j : Int)).f1 (i : Int)).f0 < 100001) && decide (rowV ts src minute change h (at_ (at_ ts (j : Int)).f1 (i : Int)).f0 + waitV change h ≤ (at_ (at_ ts (j : Int)).f1 (i : Int)).f2)) := by
              show stB _ _ _ _ = _
              unfold stB
              rw [hb0]; rfl
            refine Evx.pos (by omega) (Evx.pos (by omega) (Evx.pos (by omega) (Evx.pos (by omega) (Evx.ite (fun g1 => Evx.ite (fun g2 => ?_) (fun g2 => ?_)) (fun g1 => ?_)))))
            · exact hn3 (ys, true) ⟨hR2, by rw [hx, decide_eq_true g1, decide_eq_true (show _ ≤ _ from g2)]; rfl⟩
            · exact hn3 (ys, false) ⟨hR2, by rw [hx, decide_eq_true g1, decide_eq_false (show ¬ _ ≤ _ from g2)]; rfl⟩
            · exact hn3 (ys, false) ⟨hR2, by rw [hx, decide_eq_false g1]; rfl⟩
        · intro s hI
          refine Evx.step (fun k => by simp only [impl_arrivals.l4]; rfl) ?_
          rw [wrap_succ hj (by omega)]
          exact Evx.neg (by omega) (hn2 s.1 hI.1)
      · intro xs hR
        refine Evx.step (fun k => by simp only [impl_arrivals.l3]; rfl) ?_
        rw [wrap_succ hh (by omega)]
        have ew : change = waitV change (h + 1) := by unfold waitV; rw [if_neg (by omega)]
        refine Evx.neg (by omega) ?_
        have hR2 : RowsP ts src minute change H (h + 1) (fun _ => 100001) xs := by
          obtain ⟨r1, r2, r3, r4⟩ := hR
          refine ⟨r1, fun r hr v v0 v1 => ?_, fun g v v0 v1 => r4 (h + 1 + 1) (by omega) (by omega) v v0 v1, fun r hr hr2 v v0 v1 => r4 r (by omega) hr2 v v0 v1⟩
          by_cases e : r = h + 1
          · subst e
            rw [r3 hh v v0 v1]; rfl
          · exact r2 r (by omega) v v0 v1
        have := hn xs hR2
        rw [← ew] at this
        exact this
    · intro xs hR
      refine Evx.step (fun k => by simp only [impl_arrivals.l2]; rfl) ?_
      exact Evx.neg (by omega) (Evx.val ⟨hR.1, hR.2.1, fun g => absurd g (by omega), fun r hr hr2 => absurd hr (by omega)⟩)
  refine evx_loop (fun k h (xs : List (List Int)) => impl_arrivals.l0 k ts src minute change (H : Int) xs (h : Int)) (H + 1) (fun h xs => xs.length = H + 1 ∧ ∀ r : Nat, r < h → ∀ v : Int, 0 ≤ v → v < 30 → at_ (at_ xs (r : Int)) v = 100001) _ ?_ ?_ _ ⟨by simp, fun r hr => by omega⟩
  · intro h xs hh ⟨i1, i2⟩ hn
    refine Evx.step (fun k => by simp only [impl_arrivals.l0]; rfl) ?_
    rw [wrap_succ (n := 6) (i := H) (by omega) (by omega), Int.toNat_natCast, List.length_replicate]
    refine Evx.pos (by omega) ?_
    refine evx_loop (fun k v (xs : List (List Int)) => impl_arrivals.l1 k ts src minute change (H : Int) (h : Int) xs (v : Int)) 30 (fun w xs => xs.length = H + 1 ∧ (∀ r : Nat, r < h → ∀ v : Int, 0 ≤ v → v < 30 → at_ (at_ xs (r : Int)) v = 100001) ∧ ∀ v : Int, 0 ≤ v → v < (w : Int) → at_ (at_ xs (h : Int)) v = 100001) _ ?_ ?_ xs ⟨i1, i2, fun v v0 v1 => by omega⟩
    · intro w xs hw ⟨j1, j2, j3⟩ hn2
      refine Evx.step (fun k => by simp only [impl_arrivals.l1]; rfl) ?_
      rw [wrap_succ hw (by omega), Int.toNat_natCast]
      refine Evx.pos (by omega) (Evx.pos (by omega) (Evx.pos (by omega) (Evx.pos (by omega) (hn2 _ ⟨by rw [List.length_set]; exact j1, fun r hr v v0 v1 => ?_, fun v v0 v1 => ?_⟩))))
      · rw [at_set_ne (by omega) (by omega)]; exact j2 r hr v v0 v1
      · rw [at_set_eq (by omega), aset_at v0 (by omega)]
        split
        · rfl
        · exact j3 v v0 (by omega)
    · intro xs ⟨j1, j2, j3⟩
      refine Evx.step (fun k => by simp only [impl_arrivals.l1]; rfl) ?_
      rw [wrap_succ hh (by omega)]
      refine Evx.neg (by omega) (hn xs ⟨j1, fun r hr v v0 v1 => ?_⟩)
      by_cases e : r = h
      · subst e; exact j3 v v0 (by omega)
      · exact j2 r (by omega) v v0 v1
  · intro xs ⟨i1, i2⟩
    refine Evx.step (fun k => by simp only [impl_arrivals.l0]; rfl) ?_
    rw [wrap_succ (n := 6) (i := H) (by omega) (by omega), Int.toNat_natCast, List.length_replicate]
    refine Evx.neg (by omega) (Evx.pos (by omega) (Evx.pos hs.1 (Evx.pos hs.2 (inner _ ⟨by rw [List.length_set]; exact i1, fun r hr v v0 v1 => ?_, fun g v v0 v1 => ?_, fun r hr hr2 v v0 v1 => ?_⟩))))
    · obtain rfl : r = 0 := by omega
      have := at_set_eq (xs := xs) (i := 0) (v := aset 30 (at_ xs 0) src minute) (by omega)
      rw [show ((0 : Nat) : Int) = 0 from rfl] at this ⊢
      rw [show (0 : Int).toNat = 0 from rfl, this, aset_at v0 (by omega)]
      show _ = (if v = src then minute else 100001)
      split
      · rfl
      · have := i2 0 (by omega) v v0 v1
        exact this
    · rw [show (0 : Int).toNat = 0 from rfl, at_set_ne (by omega) (by omega)]; exact i2 _ (by omega) v v0 v1
    · rw [show (0 : Int).toNat = 0 from rfl, at_set_ne (by omega) (by omega)]; exact i2 _ (by omega) v v0 v1
theorem ev_questionOk {ts : List S105} {a b m c : Int} {H : Nat} (hT : TableP ts) (h1 : 0 ≤ a ∧ a < 30) (h2 : 0 ≤ b ∧ b < 30) (hm : 0 ≤ m ∧ m ≤ 100000) (hc : 0 ≤ c ∧ c ≤ 60) (hH : H ≤ 5) : Ev (fun k => impl_questionOk.f k ts a b m c (H : Int)) true := by
  classical
  have hB := table_bdd hT
  unfold impl_questionOk.f impl_changeOk.f
  refine Ev.bind (ev_impl_TableOk ts hB true (by simp [hT])) (Ev.pos rfl (Ev.opt (eq_impl_between _ _ _) (Ev.pos (decide_eq_true (by omega)) (Ev.opt (eq_impl_between _ _ _) (Ev.pos (decide_eq_true (by omega)) (Ev.opt (eq_impl_isMinute _) (Ev.pos (decide_eq_true (by omega)) ?_)))))))
  refine Ev.bind (Ev.opt (eq_impl_between _ _ _) (ev_val rfl) : Ev (fun k => (impl_between.f c 0 60).bind fun x1 => some x1) _) (Ev.pos (decide_eq_true (by omega)) (Ev.opt (eq_impl_between _ _ _) ?_))
  rw [decide_eq_true (show (0 : Int) ≤ (H : Int) ∧ (H : Int) ≤ 5 by omega)]
  exact ev_val rfl
def bestN (ts : List S105) (src to minute change : Int) : Nat → Int
  | 0 => 100001
  | n + 1 => if rowV ts src minute change n to < bestN ts src to minute change n then rowV ts src minute change n to else bestN ts src to minute change n
def soonV (ts : List S105) (src to minute change : Int) (H : Nat) : Int := if bestN ts src to minute change (H + 1) < 100001 then bestN ts src to minute change (H + 1) else -1
theorem best_nn {ts : List S105} {src to minute change : Int} (hT : TableP ts) (hm : 0 ≤ minute ∧ minute ≤ 100000) : ∀ n, 0 ≤ bestN ts src to minute change n ∧ bestN ts src to minute change n ≤ 100001
  | 0 => by unfold bestN; omega
  | n + 1 => by
    have ih := best_nn hT hm n (src := src) (to := to) (change := change)
    have := rowV_bd (src := src) (change := change) hT hm n to
    unfold bestN
    split <;> omega
theorem best_le (ts : List S105) (src to m c : Int) (n : Nat) : bestN ts src to m c (n + 1) ≤ bestN ts src to m c n := by
  show (if rowV ts src m c n to < bestN ts src to m c n then rowV ts src m c n to else bestN ts src to m c n) ≤ _
  split <;> omega
theorem best_mono (ts : List S105) (src to : Int) {m m2 c c2 : Int} (hm : m ≤ m2) (hc : c ≤ c2) : ∀ n, bestN ts src to m c n ≤ bestN ts src to m2 c2 n
  | 0 => Int.le_refl _
  | n + 1 => by
    have ih := best_mono ts src to hm hc n
    have := row_mono ts src hm hc n to
    unfold bestN
    split <;> split <;> omega
theorem best_has (ts : List S105) (src to m c : Int) : ∀ n, bestN ts src to m c n < 100001 ↔ ∃ r, r < n ∧ rowV ts src m c r to < 100001
  | 0 => ⟨fun h => absurd h (by unfold bestN; omega), fun ⟨r, h, _⟩ => absurd h (by omega)⟩
  | n + 1 => by
    have ih := best_has ts src to m c n
    unfold bestN
    constructor
    · intro h
      by_cases g : rowV ts src m c n to < bestN ts src to m c n
      · rw [if_pos g] at h
        exact ⟨n, by omega, h⟩
      · rw [if_neg g] at h
        obtain ⟨r, h1, h2⟩ := ih.1 h
        exact ⟨r, by omega, h2⟩
    · rintro ⟨r, h1, h2⟩
      by_cases e : r = n
      · subst e
        split <;> omega
      · have := ih.2 ⟨r, by omega, h2⟩
        split <;> omega
theorem ev_impl_soonest {ts : List S105} {src to minute change : Int} {H : Nat} (hT : TableP ts) (hs : 0 ≤ src ∧ src < 30) (ht : 0 ≤ to ∧ to < 30) (hm : 0 ≤ minute ∧ minute ≤ 100000) (hc : 0 ≤ change ∧ change ≤ 60) (hH : H ≤ 5) :
    Evx (fun k => impl_soonest.f k ts src to minute change (H : Int)) (fun r => r.1 = soonV ts src to minute change H) := by
  unfold impl_soonest.f
  refine Evx.bind (ev_impl_arrivals hT hs hm hc hH) (fun xs hR => ?_)
  refine evx_loop (fun k i (s : Int × Int) => impl_soonest.l0 k to xs s.1 s.2 (i : Int)) (H + 1) (fun i s => s.1 = bestN ts src to minute change i ∧ (s.2 < 0 ↔ ¬ s.1 < 100001)) _ ?_ ?_ (100001, -1) ⟨rfl, by decide⟩
  · intro i s hi ⟨i1, i2⟩ hn
    have hl := hR.1
    have e : at_ (arr 30 (at_ xs (i : Int))) to = rowV ts src minute change i to := by
      rw [arr_at ht.1 (by omega)]; exact hR.2.1 i (by omega) to ht.1 ht.2
    have hb := best_nn hT hm i (src := src) (to := to) (change := change)
    refine Evx.step (fun k => by simp only [impl_soonest.l0]; rfl) ?_
    rw [e, arr_len, wrap_succ hi (by omega)]
    refine Evx.pos (by omega) (Evx.pos (by omega) (Evx.pos (by omega) (Evx.pos (by omega) (Evx.pos (by omega) (Evx.ite (fun g => ?_) (fun g => ?_))))))
    · refine hn (_, _) ⟨?_, ?_⟩
      · show _ = bestN _ _ _ _ _ (i + 1)
        unfold bestN
        rw [if_pos (by rw [← i1]; exact g)]
      · show (i : Int) < 0 ↔ ¬ rowV ts src minute change i to < 100001
        have g' : rowV ts src minute change i to < s.1 := g
        omega
    · refine hn (_, _) ⟨?_, i2⟩
      show _ = bestN _ _ _ _ _ (i + 1)
      unfold bestN
      rw [if_neg (by rw [← i1]; exact g)]
      exact i1
  · intro s ⟨i1, i2⟩
    have hl := hR.1
    refine Evx.step (fun k => by simp only [impl_soonest.l0]; rfl) ?_
    refine Evx.neg (by omega) (Evx.ite (fun g => Evx.val ?_) (fun g => Evx.val ?_))
    · unfold soonV
      rw [if_neg (by rw [← i1]; exact i2.1 g)]
    · unfold soonV
      rw [if_pos (by rw [← i1]; exact Classical.not_not.1 (fun q => g (i2.2 q)))]
      exact i1
theorem ev_impl_Soonest {ts : List S105} {src to minute change : Int} {H : Nat} (hT : TableP ts) (hs : 0 ≤ src ∧ src < 30) (ht : 0 ≤ to ∧ to < 30) (hm : 0 ≤ minute ∧ minute ≤ 100000) (hc : 0 ≤ change ∧ change ≤ 60) (hH : H ≤ 5) :
    Ev (fun k => impl_Soonest.f k ts src to minute change (H : Int)) (soonV ts src to minute change H) := by
  unfold impl_Soonest.f
  obtain ⟨r, e, hr⟩ := ev_impl_soonest hT hs ht hm hc hH
  exact Ev.bind (ev_questionOk hT hs ht hm hc hH) (Ev.pos rfl (Ev.bind e (by rw [hr]; exact ev_val rfl)))
theorem ev_impl_Fastest {ts : List S105} {src to minute change : Int} (hT : TableP ts) (hs : 0 ≤ src ∧ src < 30) (ht : 0 ≤ to ∧ to < 30) (hm : 0 ≤ minute ∧ minute ≤ 100000) (hc : 0 ≤ change ∧ change ≤ 60) :
    Evx (fun k => impl_Fastest.f k ts src to minute change) (fun xs => xs.length = 5 ∧ ∀ i : Nat, i < 5 → at_ xs (i : Int) = soonV ts src to minute change (i + 1)) := by
  unfold impl_Fastest.f
  refine Evx.bindv (ev_questionOk (H := 5) hT hs ht hm hc (by omega)) (Evx.pos rfl ?_)
  refine evx_loop (fun k i (xs : List Int) => impl_Fastest.l0 k ts src to minute change xs (i : Int)) 5 (fun i xs => xs.length = 5 ∧ ∀ j : Nat, j < i → at_ xs (j : Int) = soonV ts src to minute change (j + 1)) _ ?_ ?_ _ ⟨by simp, fun j hj => by omega⟩
  · intro i xs hi ⟨i1, i2⟩ hn
    have e5 : ((List.replicate (5 : Int).toNat (0 : Int)).length : Int) = 5 := by simp
    refine Evx.step (fun k => by simp only [impl_Fastest.l0]; rfl) ?_
    rw [e5, wrap_succ hi (by omega)]
    refine Evx.pos (by omega) (Evx.bind (ev_impl_soonest (H := i + 1) hT hs ht hm hc (by omega)) (fun r hr => Evx.pos (by omega) (Evx.pos (by omega) ?_)))
    rw [Int.toNat_natCast]
    refine hn _ ⟨by rw [List.length_set]; exact i1, fun j hj => ?_⟩
    by_cases e : j = i
    · rw [e, at_set_eq (by omega), hr]
    · rw [at_set_ne (by omega) (by omega)]; exact i2 j (by omega)
  · intro xs hI
    have e5 : ((List.replicate (5 : Int).toNat (0 : Int)).length : Int) = 5 := by simp
    refine Evx.step (fun k => by simp only [impl_Fastest.l0]; rfl) ?_
    rw [e5]
    exact Evx.neg (by omega) (Evx.val hI)
theorem ev_impl_Within {ts : List S105} {src minute change : Int} (hT : TableP ts) (hs : 0 ≤ src ∧ src < 30) (hm : 0 ≤ minute ∧ minute ≤ 100000) (hc : 0 ≤ change ∧ change ≤ 60) :
    Evx (fun k => impl_Within.f k ts src minute change 5) (fun xs => xs.length ≤ 30 ∧ ∀ v : Int, 0 ≤ v → v < 30 → (v ∈ xs ↔ ∃ r, r < 6 ∧ rowV ts src minute change r v < 100001)) := by
  unfold impl_Within.f
  refine Evx.bindv (ev_questionOk (H := 5) hT hs hs hm hc (by omega)) (Evx.pos rfl (Evx.bind (ev_impl_arrivals (H := 5) hT hs hm hc (by omega)) (fun xs hR => ?_)))
  have hl := hR.1
  refine evx_loop (fun k i (bs : List Bool) => impl_Within.l0 k xs bs (i : Int)) 6 (fun i bs => bs.length = 30 ∧ ∀ v : Int, 0 ≤ v → v < 30 → (at_ bs v = true ↔ ∃ r, r < i ∧ rowV ts src minute change r v < 100001)) _ ?_ ?_ _ ⟨by simp, fun v v0 v1 => ?_⟩
  · intro i bs hi ⟨i1, i2⟩ hn
    refine Evx.step (fun k => by simp only [impl_Within.l0]; rfl) ?_
    refine Evx.pos (by omega) (Evx.pos (by omega) ?_)
    refine evx_loop (fun k w (bs : List Bool) => impl_Within.l1 k xs (i : Int) bs (w : Int)) 30 (fun w bs => bs.length = 30 ∧ (∀ v : Int, 0 ≤ v → v < (w : Int) → (at_ bs v = true ↔ ∃ r, r < i + 1 ∧ rowV ts src minute change r v < 100001)) ∧ ∀ v : Int, (w : Int) ≤ v → v < 30 → (at_ bs v = true ↔ ∃ r, r < i ∧ rowV ts src minute change r v < 100001)) _ ?_ ?_ bs ⟨i1, fun v v0 v1 => by omega, fun v v0 v1 => i2 v (by omega) v1⟩
    · intro w bs hw ⟨j1, j2, j3⟩ hn2
      have hj := j3 (w : Int) (by omega) (by omega)
      have e : at_ (arr 30 (at_ xs (i : Int))) (w : Int) = rowV ts src minute change i (w : Int) := by
        rw [arr_at (by omega) (by omega)]; exact hR.2.1 i (by omega) (w : Int) (by omega) (by omega)
      have key : ∀ b : Bool, (b = true ↔ ∃ r, r < i + 1 ∧ rowV ts src minute change r (w : Int) < 100001) → Evx (fun k => impl_Within.l1 k xs (i : Int) (bs.set w b) ((w + 1 : Nat) : Int)) (fun xs => xs.length ≤ 30 ∧ ∀ v : Int, 0 ≤ v → v < 30 → (v ∈ xs ↔ ∃ r, r < 6 ∧ rowV ts src minute change r v < 100001)) := by
        intro b hb
        refine hn2 _ ⟨by rw [List.length_set]; exact j1, fun v v0 v1 => ?_, fun v v0 v1 => ?_⟩
        · by_cases ev : v = (w : Int)
          · subst ev
            rw [at_set_eq (by omega)]; exact hb
          · rw [at_set_ne (by omega) (by omega)]; exact j2 v v0 (by omega)
        · rw [at_set_ne (by omega) (by omega)]; exact j3 v (by omega) v1
      refine Evx.step (fun k => by simp only [impl_Within.l1]; rfl) ?_
      rw [e, arr_len, wrap_succ hw (by omega), Int.toNat_natCast]
      refine Evx.pos (by omega) (Evx.pos (by omega) (Evx.pos (by omega) (Evx.ite (fun g => key true ?_) (fun g => Evx.pos (by omega) (key _ ?_)))))
      · obtain ⟨r, h1, h2⟩ := hj.1 g
        exact ⟨fun _ => ⟨r, by omega, h2⟩, fun _ => rfl⟩
      · rw [decide_eq_true_eq]
        refine ⟨fun h => ⟨i, by omega, h⟩, fun ⟨r, h1, h2⟩ => ?_⟩
        by_cases er : r = i
        · subst er; exact h2
        · exact absurd (hj.2 ⟨r, by omega, h2⟩) g
    · intro bs ⟨j1, j2, j3⟩
      refine Evx.step (fun k => by simp only [impl_Within.l1]; rfl) ?_
      rw [wrap_succ hi (by omega)]
      exact Evx.neg (by omega) (hn bs ⟨j1, fun v v0 v1 => j2 v v0 (by omega)⟩)
  · intro bs ⟨i1, i2⟩
    refine Evx.step (fun k => by simp only [impl_Within.l0]; rfl) ?_
    refine Evx.neg (by omega) (Evx.pos i1 ?_)
    refine evx_loop (fun k w (ys : List Int) => impl_Within.l2 k bs ys (w : Int)) 30 (fun w ys => ys.length ≤ w ∧ ∀ v : Int, (v ∈ ys ↔ 0 ≤ v ∧ v < (w : Int) ∧ at_ bs v = true)) _ ?_ ?_ _ ⟨by simp, fun v => by simp; omega⟩
    · intro w ys hw ⟨j1, j2⟩ hn2
      refine Evx.step (fun k => by simp only [impl_Within.l2]; rfl) ?_
      rw [wrap_succ hw (by omega)]
      refine Evx.pos (by omega) (Evx.pos i1 (Evx.pos (by omega) (Evx.pos (by omega) (Evx.ite (fun g => Evx.pos (by simp only [List.length_cons, List.length_nil]; omega) (hn2 _ ⟨by simp; omega, fun v => ?_⟩)) (fun g => hn2 _ ⟨by omega, fun v => ?_⟩)))))
      · rw [List.mem_append, j2 v, List.mem_singleton]
        constructor
        · rintro (⟨a, b, c⟩ | rfl)
          · exact ⟨a, by omega, c⟩
          · exact ⟨by omega, by omega, g⟩
        · rintro ⟨a, b, c⟩
          by_cases ev : v = (w : Int)
          · exact .inr ev
          · exact .inl ⟨a, by omega, c⟩
      · rw [j2 v]
        constructor
        · rintro ⟨a, b, c⟩; exact ⟨a, by omega, c⟩
        · rintro ⟨a, b, c⟩
          by_cases ev : v = (w : Int)
          · subst ev; exact absurd c g
          · exact ⟨a, by omega, c⟩
    · intro ys ⟨j1, j2⟩
      refine Evx.step (fun k => by simp only [impl_Within.l2]; rfl) ?_
      refine Evx.neg (by omega) (Evx.val ⟨j1, fun v v0 v1 => ?_⟩)
      rw [j2 v, ← i2 v v0 v1]
      exact ⟨fun h => h.2.2, fun h => ⟨v0, by omega, h⟩⟩
  · constructor
    · intro h
      rw [at_rep 30 false v0 (by omega)] at h
      exact absurd h (by decide)
    · rintro ⟨r, h, _⟩; omega
theorem ev_within (xs : List Int) (v : Int) (hl : xs.length ≤ 30) (b : Bool) (hb : b = true ↔ v ∈ xs) : Ev (fun k => laws_within.f k xs v) b := by
  unfold laws_within.f
  refine Evx.ev (evx_loop (fun k i (_ : Unit) => laws_within.l0 k xs v (i : Int)) xs.length (fun i _ => ∀ j : Nat, j < i → at_ xs (j : Int) ≠ v) _ ?_ ?_ () (fun j hj => by omega))
  · intro i _ hi hI hn
    refine Evx.step (fun k => by simp only [laws_within.l0]; rfl) ?_
    rw [wrap_succ hi (by omega)]
    refine Evx.pos (by omega) (Evx.pos (by omega) (Evx.ite (fun g => Evx.val ?_) (fun g => hn () (fun j hj => ?_))))
    · exact (hb.2 (mem_at.2 ⟨i, hi, g⟩)).symm
    · by_cases e : j = i
      · subst e; exact g
      · exact hI j (by omega)
  · intro _ hI
    refine Evx.step (fun k => by simp only [laws_within.l0]; rfl) ?_
    refine Evx.neg (by omega) (Evx.val ?_)
    cases hbb : b with
    | false => rfl
    | true =>
      obtain ⟨i, hi, h⟩ := mem_at.1 (hb.1 hbb)
      exact absurd h (hI i hi)
theorem pure_FnSooner : Pure := by
  intro code h
  refine Ev.rounds ?_
  unfold laws_FnSooner.f laws_big.f
  refine Ev.opt rfl (Ev.ite (fun _ => ev_val rfl) (fun hbig => ?_))
  have hC : CodeP code := code_ok h (fun g => hbig (decide_eq_true g))
  have hD : Evx (fun k => spec_DrawRightQuestion.f k code) (fun q => TableP q.1 ∧ (0 ≤ q.2.1 ∧ q.2.1 < 5) ∧ (0 ≤ q.2.2.1 ∧ q.2.2.1 < 5) ∧ (0 ≤ q.2.2.2.1 ∧ q.2.2.2.1 < 60) ∧ (0 ≤ q.2.2.2.2 ∧ q.2.2.2.2 < 8)) := by
    unfold spec_DrawRightQuestion.f
    obtain ⟨z, ez, z0, z1⟩ := size_ok code hC 8 (by omega) (by omega)
    refine Evx.bind (evx_l01New code hC) (fun c hc => ?_)
    obtain ⟨r2, e2, c2, a2, b2, _⟩ := below_ok c 2 hc
    refine Evx.opt e2 (Evx.opt ez ?_)
    have b2' := b2 (by omega)
    rw [wrap_id (x := 4 + r2.1) (by omega) (by omega), wrap_id (x := 3 + z) (by omega) (by omega)]
    refine Evx.bind (evx_DrawTable r2.2 ⟨4 + r2.1, []⟩ (3 + z) c2 ⟨⟨by dsimp only; omega, by dsimp only; omega⟩, Nat.zero_le _, fun i hi => absurd hi (by simp)⟩ (by omega)) (fun r hr => ?_)
    obtain ⟨r5, e5, c5, a5, b5, _⟩ := below_ok r.2 5 hr.1
    obtain ⟨r6, e6, c6, a6, b6, _⟩ := below_ok r5.2 5 c5
    obtain ⟨r7, e7, c7, a7, b7, _⟩ := below_ok r6.2 60 c6
    obtain ⟨r8, e8, c8, a8, b8, _⟩ := below_ok r7.2 8 c7
    exact Evx.opt e5 (Evx.opt e6 (Evx.opt e7 (Evx.opt e8 (Evx.val ⟨dtable_ok hr.2 (by omega), ⟨a5, b5 (by omega)⟩, ⟨a6, b6 (by omega)⟩, ⟨a7, b7 (by omega)⟩, a8, b8 (by omega)⟩))))
  obtain ⟨q, e1, hT, hs, ht, hm, hc⟩ := hD
  refine Ev.bind e1 ?_
  obtain ⟨ts, src, to0, minute, change⟩ := q
  dsimp only at hT hs ht hm hc ⊢
  obtain ⟨x5, e5, a5, b5⟩ := at_ok code hC 5 (by omega) (by omega)
  obtain ⟨x6, e6, a6, b6⟩ := at_ok code hC 6 (by omega) (by omega)
  have m5 := tmod_bd (a := x5) (n := 32) a5 (by omega)
  have m6 := tmod_bd (a := x6) (n := 9) a6 (by omega)
  have main : ∀ to : Int, 0 ≤ to ∧ to < 5 → ∀ xs : List Int, (xs.length = 5 ∧ ∀ i : Nat, i < 5 → at_ xs (i : Int) = soonV ts src to minute change (i + 1)) → Ev (fun k => laws_FnSooner.j0 k code (ts, src, to0, minute, change) xs to) true := by
    intro to ht xs ⟨hl, hx⟩
    refine Ev.step (fun k => by simp only [laws_FnSooner.j0]; rfl) ?_
    have hn_ := fun n => best_nn hT ⟨hm.1, by omega⟩ n (src := src) (to := to) (change := change)
    refine ev_fold (fun k i => laws_FnSooner.l1 k code (ts, src, to0, minute, change) xs to ((i : Int) + 1)) 5 ?_ ?_
    · intro i hi hnx
      have j2 : ∀ x7, x7 = soonV ts src to minute change (i + 1) → Ev (fun k => laws_FnSooner.j2 k code (ts, src, to0, minute, change) xs to ((i : Int) + 1) x7) true := by
        intro x7 e7
        have hy := ev_impl_Soonest (H := i + 1) (minute := minute + x5.tmod 32) (change := change) (to := to) hT (show 0 ≤ src ∧ src < 30 by omega) (by omega) (by omega) (by omega) (by omega)
        have hz := ev_impl_Soonest (H := i + 1) (minute := minute) (change := change + x6.tmod 9) (to := to) hT (show 0 ≤ src ∧ src < 30 by omega) (by omega) (by omega) (by omega) (by omega)
        rw [show (((i + 1 : Nat)) : Int) = (i : Int) + 1 by omega] at hy hz
        have my := best_mono ts src to (show minute ≤ minute + x5.tmod 32 by omega) (Int.le_refl change) (i + 1 + 1)
        have mz := best_mono ts src to (Int.le_refl minute) (show change ≤ change + x6.tmod 9 by omega) (i + 1 + 1)
        have hny := best_nn hT (show 0 ≤ minute + x5.tmod 32 ∧ minute + x5.tmod 32 ≤ 100000 by omega) (i + 1 + 1) (src := src) (to := to) (change := change)
        have hnz := best_nn hT (show 0 ≤ minute ∧ minute ≤ 100000 by omega) (i + 1 + 1) (src := src) (to := to) (change := change + x6.tmod 9)
        have hx0 := hn_ (i + 1 + 1)
        refine Ev.step (fun k => by simp only [laws_FnSooner.j2]; rfl) ?_
        rw [wrap_id (x := (i : Int) + 1 + 1) (by omega) (by omega)]
        rw [show (((i + 1 : Nat)) : Int) + 1 = (i : Int) + 1 + 1 by omega] at hnx
        refine Ev.opt e5 ?_
        rw [wrap_id (x := minute + x5.tmod 32) (by omega) (by omega)]
        refine Ev.bind hy (Ev.opt e6 ?_)
        rw [wrap_id (x := change + x6.tmod 9) (by omega) (by omega)]
        refine Ev.bind hz ?_
        have fy : soonV ts src to (minute + x5.tmod 32) change (i + 1) ≥ 0 → 0 ≤ x7 ∧ x7 ≤ soonV ts src to (minute + x5.tmod 32) change (i + 1) := by
          intro g
          subst e7
          unfold soonV at g ⊢
          split at g
          · rename_i g2
            rw [if_pos (show bestN ts src to minute change (i + 1 + 1) < 100001 by omega)]
            omega
          · omega
        have fz : soonV ts src to minute (change + x6.tmod 9) (i + 1) ≥ 0 → 0 ≤ x7 ∧ x7 ≤ soonV ts src to minute (change + x6.tmod 9) (i + 1) := by
          intro g
          subst e7
          unfold soonV at g ⊢
          split at g
          · rename_i g2
            rw [if_pos (show bestN ts src to minute change (i + 1 + 1) < 100001 by omega)]
            omega
          · omega
        refine Ev.ite (fun g => Ev.neg (by have := fy g; omega) (Ev.neg (by have := fy g; omega) (Ev.ite (fun g2 => Ev.neg (by have := fz g2; omega) hnx) (fun _ => hnx)))) (fun g => Ev.ite (fun g2 => Ev.neg (by have := fz g2; omega) (Ev.neg (by have := fz g2; omega) hnx)) (fun _ => hnx))
      have hx1 := ev_impl_Soonest (H := i + 1) (minute := minute) (change := change) (to := to) hT (show 0 ≤ src ∧ src < 30 by omega) (by omega) (by omega) (by omega) (by omega)
      rw [show (((i + 1 : Nat)) : Int) = (i : Int) + 1 by omega] at hx1
      refine Ev.step (fun k => by simp only [laws_FnSooner.l1]; rfl) ?_
      rw [wrap_id (x := (i : Int) + 1 - 1) (by omega) (by omega), show (i : Int) + 1 - 1 = (i : Int) by omega, wrap_id (x := (i : Int) + 1 - 2) (by omega) (by omega)]
      refine Ev.pos (by omega) (Ev.bind hx1 (Ev.pos (by omega) (Ev.pos (by omega) (Ev.pos (hx i hi) (Ev.ite (fun g => ?_) (fun g => j2 _ rfl))))))
      obtain ⟨p, rfl⟩ : ∃ p, i = p + 1 := ⟨i - 1, by omega⟩
      have ep : ((p + 1 : Nat) : Int) + 1 - 2 = (p : Int) := by omega
      rw [ep, hx p (by omega)]
      refine Ev.pos (by omega) (Ev.pos (by omega) (Ev.ite (fun g2 => ?_) (fun _ => j2 _ rfl)))
      have hb1 := hn_ (p + 1 + 1 + 1)
      have hb2 := hn_ (p + 1 + 1)
      have hle : bestN ts src to minute change (p + 1 + 1 + 1) ≤ bestN ts src to minute change (p + 1 + 1) := by
        exact best_le ts src to minute change (p + 1 + 1)
      have f : 0 ≤ soonV ts src to minute change (p + 1 + 1) ∧ soonV ts src to minute change (p + 1 + 1) ≤ soonV ts src to minute change (p + 1) := by
        unfold soonV at g2 ⊢
        split at g2
        · rename_i g3
          rw [if_pos (show bestN ts src to minute change (p + 1 + 1 + 1) < 100001 by omega)]
          omega
        · omega
      exact Ev.neg (by omega) (Ev.neg (by omega) (j2 _ rfl))
    · refine Ev.step (fun k => by simp only [laws_FnSooner.l1]; rfl) ?_
      refine Ev.neg (by omega) ?_
      obtain ⟨ys, e, hyl, hy⟩ := ev_impl_Within hT (src := src) (minute := minute) (change := change) (by omega) (by omega) (by omega)
      have hyt := hy to (by omega) (by omega)
      have hh := best_has ts src to minute change 6
      have h4 := hx 4 (by omega)
      rw [show ((4 : Nat) : Int) = 4 from rfl] at h4
      have hsv : soonV ts src to minute change 5 ≥ 0 ↔ to ∈ ys := by
        rw [hyt, ← hh]
        have := hn_ 6
        unfold soonV
        rw [show 5 + 1 = 6 from rfl]
        split <;> omega
      refine Ev.bind e (Ev.bind (ev_within ys to hyl (decide (to ∈ ys)) decide_eq_true_iff) (Ev.pos (by omega) ?_))
      rw [h4]
      refine ev_val ?_
      by_cases g : to ∈ ys
      · rw [decide_eq_true g, decide_eq_true (hsv.2 g)]; rfl
      · rw [decide_eq_false g, decide_eq_false (fun q => g (hsv.1 q))]; rfl
  refine Ev.ite (fun g => ?_) (fun g => ?_)
  · have mt := tmod_bd (a := to0 + 1) (n := 5) (by omega) (by omega)
    rw [wrap_id (x := to0 + 1) (by omega) (by omega)]
    obtain ⟨xs, e, hx⟩ := ev_impl_Fastest hT (src := src) (to := (to0 + 1).tmod 5) (minute := minute) (change := change) (by omega) (by omega) (by omega) (by omega)
    refine Ev.bind e (Ev.pos (by rw [hx.1]; rfl) (main _ mt xs hx))
  · obtain ⟨xs, e, hx⟩ := ev_impl_Fastest hT (src := src) (to := to0) (minute := minute) (change := change) (by omega) (by omega) (by omega) (by omega)
    refine Ev.bind e (Ev.pos (by rw [hx.1]; rfl) (main _ ht xs hx))

end Go.Proofs.Ytjfjifnmfnlfoaa.Fns
