/- The pure statement of the law FnExactFinish: its function, told by the engine, gives true for every input. -/
import Derived.Test.YtpjmefdpjlhkhaaSFnExactFinish
namespace Go.Proofs.Ytpjmefdpjlhkhaa.Fns
open Go.RowKit Go.WideShapes Go.Proofs.Ytpjmefdpjlhkhaa.Eng
set_option linter.unusedVariables false
set_option linter.unusedSimpArgs false
/-- From some number of rounds on there is one answer, and C holds of it. -/
def Evx {α : Type} (g : Nat → Option α) (C : α → Prop) : Prop := ∃ r, Ev g r ∧ C r
section
variable {α β : Type}
theorem Evx.val {a : α} {C : α → Prop} (h : C a) : Evx (fun _ => some a) C := ⟨a, Ev.now a, h⟩
theorem Evx.of {g : Nat → Option α} {r : α} {C : α → Prop} (h : Ev g r) (hc : C r) : Evx g C := ⟨r, h, hc⟩
theorem Evx.bind {g : Nat → Option α} {f : Nat → α → Option β} {P : α → Prop} {C : β → Prop} (h : Evx g P) (k : ∀ a, P a → Evx (fun n => f n a) C) : Evx (fun n => (g n).bind (f n)) C := by
  obtain ⟨a, h1, h2⟩ := h
  obtain ⟨r, h3, h4⟩ := k a h2
  exact ⟨r, Ev.bind h1 h3, h4⟩
theorem Evx.bindv {g : Nat → Option α} {f : Nat → α → Option β} {a : α} {C : β → Prop} (h : Ev g a) (k : Evx (fun n => f n a) C) : Evx (fun n => (g n).bind (f n)) C := by
  obtain ⟨r, h3, h4⟩ := k
  exact ⟨r, Ev.bind h h3, h4⟩
theorem Evx.opt {g : Option α} {f : Nat → α → Option β} {a : α} {C : β → Prop} (h : g = some a) (k : Evx (fun n => f n a) C) : Evx (fun n => g.bind (f n)) C := by subst h; exact k
theorem Evx.step {g f : Nat → Option α} {C : α → Prop} (h : ∀ k, g (k + 1) = f k) (k : Evx f C) : Evx g C := by
  obtain ⟨r, h3, h4⟩ := k
  exact ⟨r, Ev.step h h3, h4⟩
theorem Evx.congr {g f : Nat → Option α} {C : α → Prop} (h : ∀ k, g k = f k) (k : Evx f C) : Evx g C := by
  obtain ⟨r, h3, h4⟩ := k
  exact ⟨r, Ev.congr h h3, h4⟩
theorem Evx.ite {c : Prop} [Decidable c] {g f : Nat → Option α} {C : α → Prop} (h : c → Evx g C) (h' : ¬ c → Evx f C) : Evx (fun k => if c then g k else f k) C := by
  by_cases hc : c
  · simp only [if_pos hc]; exact h hc
  · simp only [if_neg hc]; exact h' hc
theorem Evx.pos {c : Prop} [Decidable c] {g f : Nat → Option α} {C : α → Prop} (hc : c) (h : Evx g C) : Evx (fun k => if c then g k else f k) C := by simp only [if_pos hc]; exact h
theorem Evx.neg {c : Prop} [Decidable c] {g f : Nat → Option α} {C : α → Prop} (hc : ¬ c) (h : Evx f C) : Evx (fun k => if c then g k else f k) C := by simp only [if_neg hc]; exact h
theorem Evx.mono {g : Nat → Option α} {C D : α → Prop} (h : Evx g C) (hd : ∀ r, C r → D r) : Evx g D := by
  obtain ⟨r, h1, h2⟩ := h
  exact ⟨r, h1, hd r h2⟩
theorem Evx.ev {g : Nat → Option α} {r : α} (h : Evx g (fun x => x = r)) : Ev g r := by
  obtain ⟨a, h1, rfl⟩ := h
  exact h1
theorem Ev.uniq {g : Nat → Option α} {a b : α} (h : Ev g a) (h' : Ev g b) : a = b := by
  obtain ⟨K, hK⟩ := h
  obtain ⟨K', hK'⟩ := h'
  have e1 := hK (max K K') (by omega)
  have e2 := hK' (max K K') (by omega)
  rw [e1] at e2
  exact Option.some.inj e2
end
/-- A loop that counts up, with what holds of its state at each place. -/
theorem evx_loop {R σ : Type} (G : Nat → Nat → σ → Option R) (n : Nat) (Inv : Nat → σ → Prop) (C : R → Prop)
    (hstep : ∀ i s, i < n → Inv i s → (∀ s', Inv (i + 1) s' → Evx (fun k => G k (i + 1) s') C) → Evx (fun k => G k i s) C)
    (hend : ∀ s, Inv n s → Evx (fun k => G k n s) C) : ∀ s, Inv 0 s → Evx (fun k => G k 0 s) C := by
  have key : ∀ d i, i + d = n → ∀ s, Inv i s → Evx (fun k => G k i s) C := by
    intro d
    induction d with
    | zero => intro i hi s hs; obtain rfl : i = n := by omega
              exact hend s hs
    | succ d ih => intro i hi s hs; exact hstep i s (by omega) hs (fun s' hs' => ih (i + 1) (by omega) s' hs')
  exact fun s hs => key n 0 (by omega) s hs
-- counting, taking, placing
theorem at_getD {α : Type} [Inhabited α] (xs : List α) (i : Int) : at_ xs i = xs.getD i.toNat default := rfl
theorem at_int {α : Type} [Inhabited α] {xs : List α} {i : Int} (h0 : 0 ≤ i) (h1 : i < (xs.length : Int)) : at_ xs i = xs[i.toNat]'(by omega) := by
  have h : i.toNat < xs.length := by omega
  rw [at_getD, List.getD_eq_getElem?_getD, List.getElem?_eq_getElem h]
  rfl
theorem at_mem {α : Type} [Inhabited α] {xs : List α} {i : Int} (h0 : 0 ≤ i) (h1 : i < (xs.length : Int)) : at_ xs i ∈ xs := by
  rw [at_int h0 h1]; exact List.getElem_mem _
theorem all_at {α : Type} [Inhabited α] {xs : List α} {p : α → Prop} (h : ∀ y, y ∈ xs → p y) {i : Int} (h0 : 0 ≤ i) (h1 : i < (xs.length : Int)) : p (at_ xs i) := h _ (at_mem h0 h1)
theorem all_idx {α : Type} [Inhabited α] {xs : List α} {p : α → Prop} (h : ∀ i, i < xs.length → p (at_ xs (i : Int))) {i : Int} (h0 : 0 ≤ i) (h1 : i < (xs.length : Int)) : p (at_ xs i) := by
  have := h i.toNat (by omega)
  rwa [show ((i.toNat : Nat) : Int) = i by omega] at this
theorem all_iff {α : Type} [Inhabited α] {xs : List α} {p : α → Prop} : (∀ i, i < xs.length → p (at_ xs (i : Int))) ↔ ∀ y, y ∈ xs → p y := by
  refine ⟨fun h y hy => ?_, fun h i hi => h _ (at_mem (by omega) (by omega))⟩
  obtain ⟨i, hi, rfl⟩ := List.getElem_of_mem hy
  have := h i hi
  rwa [at_nat hi] at this
theorem take_succ' {α : Type} {xs : List α} {i : Nat} (h : i < xs.length) : xs.take (i + 1) = xs.take i ++ [xs[i]] := List.take_succ_eq_append_getElem h
theorem count_take {α : Type} (p : α → Bool) {xs : List α} {i : Nat} (h : i < xs.length) : (xs.take (i + 1)).countP p = (xs.take i).countP p + (if p xs[i] then 1 else 0) := by
  rw [take_succ' h, List.countP_append, List.countP_singleton]
theorem count_le {α : Type} (p : α → Bool) (xs : List α) : xs.countP p ≤ xs.length := List.countP_le_length
theorem set_take {α : Type} {xs : List α} {i j : Nat} (v : α) (h : j < xs.length) : (xs.set i v)[j]'(by rw [List.length_set]; exact h) = if i = j then v else xs[j] := by rw [List.getElem_set]
theorem at_set_ne {α : Type} [Inhabited α] {xs : List α} {i : Nat} {j : Int} {v : α} (h0 : 0 ≤ j) (h : (i : Int) ≠ j) : at_ (xs.set i v) j = at_ xs j := by
  rw [at_getD, at_getD, List.getD_eq_getElem?_getD, List.getD_eq_getElem?_getD, List.getElem?_set_ne (by omega)]
theorem at_set_eq {α : Type} [Inhabited α] {xs : List α} {i : Nat} {v : α} (h : i < xs.length) : at_ (xs.set i v) (i : Int) = v := by
  rw [at_getD, List.getD_eq_getElem?_getD, Int.toNat_natCast, List.getElem?_set_self h]; rfl
theorem at_app_left {α : Type} [Inhabited α] (a b : List α) {i : Int} (h0 : 0 ≤ i) (h : i < (a.length : Int)) : at_ (a ++ b) i = at_ a i := by
  rw [at_getD, at_getD, List.getD_eq_getElem?_getD, List.getD_eq_getElem?_getD, List.getElem?_append_left (by omega)]
theorem at_app_right {α : Type} [Inhabited α] (a b : List α) {i : Int} (h : (a.length : Int) ≤ i) : at_ (a ++ b) i = at_ b (i - a.length) := by
  rw [at_getD, at_getD, List.getD_eq_getElem?_getD, List.getD_eq_getElem?_getD, List.getElem?_append_right (by omega)]
  congr 2; omega
theorem at_app_last {α : Type} [Inhabited α] (a : List α) (v : α) : at_ (a ++ [v]) (a.length : Int) = v := by
  rw [at_app_right a [v] (by omega), Int.sub_self]; rfl
theorem at_take {α : Type} [Inhabited α] (xs : List α) {n : Nat} {i : Int} (h0 : 0 ≤ i) (h : i < n) : at_ (xs.take n) i = at_ xs i := by
  rw [at_getD, at_getD, List.getD_eq_getElem?_getD, List.getD_eq_getElem?_getD, List.getElem?_take_of_lt (by omega)]
theorem at_rep {α : Type} [Inhabited α] (n : Nat) (v : α) {i : Int} (h0 : 0 ≤ i) (h : i < n) : at_ (List.replicate n v) i = v := by
  rw [at_int h0 (by simpa using h)]; simp
theorem tmod_of {a : Int} (b : Int) (h : 0 ≤ a) : a.tmod b = a % b := Int.tmod_eq_emod_of_nonneg h
theorem tdiv_of {a : Int} (b : Int) (h : 0 ≤ a) : a.tdiv b = a / b := Int.tdiv_eq_ediv_of_nonneg h
theorem range_at {n : Nat} {f : Nat → Int} {i : Int} (h0 : 0 ≤ i) (h : i < n) : at_ ((List.range n).map f) i = f i.toNat := by
  rw [at_int h0 (by simpa using h)]; simp
theorem range_set {α : Type} (n : Nat) (f : Nat → α) (i : Nat) (v : α) : ((List.range n).map f).set i v = (List.range n).map (fun j => if j = i then v else f j) := by
  refine List.ext_getElem (by simp) fun j h1 h2 => ?_
  simp only [List.getElem_set, List.getElem_map, List.getElem_range]
  by_cases e : i = j
  · rw [if_pos e, if_pos e.symm]
  · rw [if_neg e, if_neg (fun g => e g.symm)]
theorem range_congr {α : Type} {n : Nat} {f g : Nat → α} (h : ∀ j, j < n → f j = g j) : (List.range n).map f = (List.range n).map g :=
  List.map_congr_left fun j hj => h j (List.mem_range.1 hj)
/-- A loop that counts up and stops where P does not hold. -/
theorem ev_scan {R : Type} (n : Nat) (P : Nat → Prop) (bad : R) (G : Nat → Nat → Option R) {r : R} (hr : (∃ i, i < n ∧ ¬ P i) → r = bad)
    (hstep : ∀ i, i < n → (∀ j, j < i → P j) → (P i → Ev (fun k => G k (i + 1)) r) → (¬ P i → r = bad) → Ev (fun k => G k i) r)
    (hend : (∀ i, i < n → P i) → Ev (fun k => G k n) r) : Ev (fun k => G k 0) r := by
  have key : ∀ d i, i + d = n → (∀ j, j < i → P j) → Ev (fun k => G k i) r := by
    intro d
    induction d with
    | zero => intro i hi hp; obtain rfl : i = n := by omega
              exact hend hp
    | succ d ih =>
      intro i hi hp
      refine hstep i (by omega) hp (fun h => ih (i + 1) (by omega) fun j hj => ?_) (fun h => hr ⟨i, by omega, h⟩)
      rcases Nat.lt_or_ge j i with g | g
      · exact hp j g
      · obtain rfl : j = i := by omega
        exact h
  exact key n 0 (by omega) (fun j hj => absurd hj (by omega))
theorem bool_eq {b : Bool} {P : Prop} (hb : b = true ↔ P) (h : P) : b = true := hb.2 h
theorem not_all {n : Nat} {P : Nat → Prop} (h : ¬ ∀ i, i < n → P i) : ∃ i, i < n ∧ ¬ P i := by
  classical
  exact Classical.byContradiction fun g => h fun i hi => Classical.byContradiction fun q => g ⟨i, hi, q⟩
theorem mem_take_iff {α : Type} [Inhabited α] {xs : List α} {n : Nat} {v : α} (h : n ≤ xs.length) : v ∈ xs.take n ↔ ∃ i, i < n ∧ at_ xs (i : Int) = v := by
  constructor
  · intro hv
    obtain ⟨i, hi, e⟩ := List.getElem_of_mem hv
    rw [List.length_take] at hi
    rw [List.getElem_take] at e
    exact ⟨i, by omega, by rw [at_nat (by omega)]; exact e⟩
  · rintro ⟨i, hi, e⟩
    rw [at_nat (by omega)] at e
    rw [← e]
    exact List.mem_take_iff_getElem.2 ⟨i, by omega, rfl⟩
theorem mem_at {α : Type} [Inhabited α] {xs : List α} {v : α} : v ∈ xs ↔ ∃ i, i < xs.length ∧ at_ xs (i : Int) = v := by
  have := mem_take_iff (xs := xs) (v := v) (Nat.le_refl _)
  rwa [List.take_length] at this
open Classical in
/-- The first place where P holds, or -1. -/
noncomputable def firstI (n : Nat) (P : Nat → Prop) : Int := if h : ∃ i, i < n ∧ P i then ((Classical.choose (least_of h) : Nat) : Int) else -1
theorem firstI_spec (n : Nat) (P : Nat → Prop) : (firstI n P = -1 ∧ ∀ i, i < n → ¬ P i) ∨ ∃ i, i < n ∧ P i ∧ (∀ j, j < i → ¬ P j) ∧ firstI n P = (i : Int) := by
  classical
  unfold firstI
  by_cases h : ∃ i, i < n ∧ P i
  · rw [dif_pos h]
    have hs := Classical.choose_spec (least_of h)
    exact .inr ⟨_, hs.1.1, hs.1.2, fun j hj hp => hs.2 j hj ⟨by have := hs.1.1; omega, hp⟩, rfl⟩
  · rw [dif_neg h]
    exact .inl ⟨rfl, fun i hi hp => h ⟨i, hi, hp⟩⟩
theorem firstI_lo (n : Nat) (P : Nat → Prop) : -1 ≤ firstI n P ∧ firstI n P < (n : Int) ∧ (0 ≤ firstI n P ↔ ∃ i, i < n ∧ P i) := by
  rcases firstI_spec n P with ⟨h, h2⟩ | ⟨i, h1, h2, _, h3⟩
  · rw [h]; exact ⟨by omega, by omega, fun g => by omega, fun ⟨i, hi, hp⟩ => absurd hp (h2 i hi)⟩
  · rw [h3]; exact ⟨by omega, by omega, fun _ => ⟨i, h1, h2⟩, fun _ => by omega⟩
theorem firstI_at {n : Nat} {P : Nat → Prop} (h : 0 ≤ firstI n P) : P (firstI n P).toNat := by
  rcases firstI_spec n P with ⟨h1, _⟩ | ⟨i, h1, h2, _, h3⟩
  · omega
  · rw [h3]; exact h2
theorem firstI_find {R : Type} (n : Nat) (P : Nat → Prop) (out : Int → R) : FindR n P (fun i => out (i : Int)) (out (-1)) (out (firstI n P)) := by
  rcases firstI_spec n P with ⟨h, h2⟩ | ⟨i, h1, h2, h4, h3⟩
  · exact .inl ⟨by rw [h], h2⟩
  · exact .inr ⟨i, h1, h2, h4, by rw [h3]⟩
theorem firstI_congr {n : Nat} {P Q : Nat → Prop} (h : ∀ i, i < n → (P i ↔ Q i)) : firstI n P = firstI n Q := by
  rcases firstI_spec n P with ⟨h1, h2⟩ | ⟨i, h1, h2, h4, h3⟩
  · rcases firstI_spec n Q with ⟨g1, g2⟩ | ⟨j, g1, g2, g4, g3⟩
    · rw [h1, g1]
    · exact absurd ((h j g1).2 g2) (h2 j g1)
  · rcases firstI_spec n Q with ⟨g1, g2⟩ | ⟨j, g1, g2, g4, g3⟩
    · exact absurd ((h i h1).1 h2) (g2 i h1)
    · rw [h3, g3]
      rcases Nat.lt_trichotomy i j with w | w | w
      · exact absurd ((h i h1).1 h2) (g4 i w)
      · rw [w]
      · exact absurd ((h j g1).2 g2) (h4 j w)
theorem firstI_eq {n : Nat} {P : Nat → Prop} {i : Nat} (h : i < n) (hp : P i) (hm : ∀ j, j < i → ¬ P j) : firstI n P = (i : Int) := by
  rcases firstI_spec n P with ⟨_, h2⟩ | ⟨j, h1, h2, h4, h3⟩
  · exact absurd hp (h2 i h)
  · rw [h3]
    rcases Nat.lt_trichotomy i j with w | w | w
    · exact absurd hp (h4 i w)
    · rw [w]
    · exact absurd h2 (hm j w)
theorem firstI_no {n : Nat} {P : Nat → Prop} (h : ∀ i, i < n → ¬ P i) : firstI n P = -1 := by
  rcases firstI_spec n P with ⟨h1, _⟩ | ⟨j, h1, h2, _, _⟩
  · exact h1
  · exact absurd h2 (h j h1)
/-- .. and what it gives hangs on where it stops. -/
theorem ev_scan2 {R : Type} (n : Nat) (P : Nat → Prop) (bad : Nat → R) (G : Nat → Nat → Option R) {r : R} (hr : ∀ i, i < n → ¬ P i → (∀ j, j < i → P j) → r = bad i)
    (hstep : ∀ i, i < n → (∀ j, j < i → P j) → (P i → Ev (fun k => G k (i + 1)) r) → (¬ P i → r = bad i) → Ev (fun k => G k i) r)
    (hend : (∀ i, i < n → P i) → Ev (fun k => G k n) r) : Ev (fun k => G k 0) r := by
  have key : ∀ d i, i + d = n → (∀ j, j < i → P j) → Ev (fun k => G k i) r := by
    intro d
    induction d with
    | zero => intro i hi hp; obtain rfl : i = n := by omega
              exact hend hp
    | succ d ih =>
      intro i hi hp
      refine hstep i (by omega) hp (fun h => ih (i + 1) (by omega) fun j hj => ?_) (fun h => hr i (by omega) h hp)
      rcases Nat.lt_or_ge j i with g | g
      · exact hp j g
      · obtain rfl : j = i := by omega
        exact h
  exact key n 0 (by omega) (fun j hj => absurd hj (by omega))
theorem sz_SingleS (x : (List S44)) (left : Int) (h0 : 0 ≤ left) (h1 : left ≤ 1048576) (ho : (x.length ≤ maxLen ∧ ∀ y ∈ x, ok44 y)) : Evx (fun k => laws_szSingleS.f x left) (fun r => r < 0 ∨ (0 ≤ r ∧ r ≤ left ∧ (x.length ≤ 1048576))) := by
  have hm : maxLen = 9223372036854775807 := rfl
  unfold laws_szSingleS.f
  obtain ⟨hl, hy⟩ := ho
  rw [wrap_id (by omega) (by omega)]
  refine Evx.ite (fun h => Evx.val (.inl (by decide))) (fun h => ?_)
  exact Evx.val (.inr ⟨by omega, by omega, by omega⟩)
theorem to_IntS (x : (List Int)) (hb : (x.length ≤ 1048576)) : Ev (fun k => laws_toIntS.f k x) x := by
  unfold laws_toIntS.f
  have hl := hb
  refine Ev.pos (by omega) (Ev.pos (by omega) ?_)
  rw [Int.toNat_natCast]
  refine ev_fill x id _ (fun k s i => laws_toIntS.l0 k x s (i : Int)) ?_ ?_
  · intro i hi s hs hn
    refine Ev.step (fun k => by simp only [laws_toIntS.l0]; rfl) ?_
    refine Ev.pos (by omega) (Ev.pos (by omega) ?_)
    rw [at_nat hi]
    refine Ev.pos (by omega) ?_
    rw [Int.toNat_natCast, wrap_succ hi (by omega)]
    exact hn
  · refine Ev.step (fun k => by simp only [laws_toIntS.l0]; rfl) ?_
    refine Ev.neg (by omega) (ev_val (List.map_id x))
theorem to_Single (x : S44) (hb : True) : Ev (fun k => laws_toSingle.f x) x := by
  unfold laws_toSingle.f
  exact ev_val rfl
theorem to_SingleS (x : (List S44)) (hb : (x.length ≤ 1048576)) : Ev (fun k => laws_toSingleS.f k x) x := by
  unfold laws_toSingleS.f
  have hl := hb
  refine Ev.pos (by omega) (Ev.pos (by omega) ?_)
  rw [Int.toNat_natCast]
  refine ev_fill x id _ (fun k s i => laws_toSingleS.l0 k x s (i : Int)) ?_ ?_
  · intro i hi s hs hn
    refine Ev.step (fun k => by simp only [laws_toSingleS.l0]; rfl) ?_
    refine Ev.pos (by omega) (Ev.pos (by omega) ?_)
    rw [at_nat hi]
    refine Ev.bind (to_Single x[i] trivial) ?_
    refine Ev.pos (by omega) ?_
    rw [Int.toNat_natCast, wrap_succ hi (by omega)]
    exact hn
  · refine Ev.step (fun k => by simp only [laws_toSingleS.l0]; rfl) ?_
    refine Ev.neg (by omega) (ev_val (List.map_id x))
theorem eq_IntS (x : (List Int)) (hb : (x.length ≤ 1048576)) : Ev (fun k => laws_eqIntS.f k x x) true := by
  unfold laws_eqIntS.f
  have hl := hb
  refine Ev.pos rfl ?_
  refine ev_fold (fun k i => laws_eqIntS.l0 k x x (i : Int)) x.length ?_ ?_
  · intro i hi hn
    refine Ev.step (fun k => by simp only [laws_eqIntS.l0]; rfl) ?_
    refine Ev.pos (by omega) (Ev.pos (by omega) ?_)
    try refine Ev.pos (by omega) ?_
    refine Ev.pos (by first | rfl | simp) ?_
    rw [wrap_succ hi (by omega)]
    exact hn
  · refine Ev.step (fun k => by simp only [laws_eqIntS.l0]; rfl) ?_
    exact Ev.neg (by omega) (ev_val rfl)
theorem eq_Single (x : S44) (hb : True) : Ev (fun k => laws_eqSingle.f x x) true := by
  unfold laws_eqSingle.f
  refine Ev.pos rfl ?_
  refine Ev.pos rfl ?_
  exact ev_val rfl
theorem eq_SingleS (x : (List S44)) (hb : (x.length ≤ 1048576)) : Ev (fun k => laws_eqSingleS.f k x x) true := by
  unfold laws_eqSingleS.f
  have hl := hb
  refine Ev.pos rfl ?_
  refine ev_fold (fun k i => laws_eqSingleS.l0 k x x (i : Int)) x.length ?_ ?_
  · intro i hi hn
    refine Ev.step (fun k => by simp only [laws_eqSingleS.l0]; rfl) ?_
    refine Ev.pos (by omega) (Ev.pos (by omega) ?_)
    try refine Ev.pos (by omega) ?_
    rw [at_nat hi]
    refine Ev.bind (eq_Single x[i] trivial) ?_
    refine Ev.pos (by first | rfl | simp) ?_
    rw [wrap_succ hi (by omega)]
    exact hn
  · refine Ev.step (fun k => by simp only [laws_eqSingleS.l0]; rfl) ?_
    exact Ev.neg (by omega) (ev_val rfl)
def mk_IntS (a : Int) (i : Nat) : Int := (a + (i : Int))
def mkd_IntS (m : Nat) (a : Int) : List Int := (List.range m).map (mk_IntS a)
theorem mkl_IntS (m : Nat) (a : Int) : (mkd_IntS m a).length = m := by simp [mkd_IntS]
theorem mks_IntS (i : Nat) (a : Int) (x : (List Int)) (hi : i < x.length) : (mkd_IntS i a ++ x.drop i).set i (mk_IntS a i) = mkd_IntS (i + 1) a ++ x.drop (i + 1) := by
  rw [List.set_append_right _ _ (by rw [mkl_IntS]; omega), mkl_IntS, Nat.sub_self, List.drop_eq_getElem_cons hi, List.set_cons_zero]
  simp [mkd_IntS, List.range_succ]
theorem mark_IntS (x : (List Int)) (hl : x.length ≤ 4194304) (a : Int) (h0 : 0 ≤ a) (h1 : a ≤ 1152921504606846976) : Ev (fun k => laws_markIntS.f k x a) (a + (x.length : Int), mkd_IntS x.length a) := by
  unfold laws_markIntS.f
  have hlen : ∀ i, i < x.length → (mkd_IntS i a ++ x.drop i).length = x.length := by
    intro i hi
    rw [List.length_append, mkl_IntS, List.length_drop]; omega
  have key := ev_fold (fun k i => laws_markIntS.l0 k (mkd_IntS i a ++ x.drop i) (a + (i : Int)) (i : Int)) x.length (r := (a + (x.length : Int), mkd_IntS x.length a)) ?_ ?_
  · have e : a + 0 = a := by omega
    simpa [mkd_IntS] using key
  · intro i hi hn
    refine Ev.step (fun k => by simp only [laws_markIntS.l0]; rfl) ?_
    refine Ev.pos (by rw [hlen i hi]; omega) (Ev.pos (by omega) ?_)
    try simp only [if_pos (show (i : Int) < ((mkd_IntS i a ++ x.drop i).length : Int) by rw [hlen i hi]; omega)]
    rw [Int.toNat_natCast]
    rw [wrap_id (x := a + (i : Int) + 1) (by omega) (by omega)]
    have e := mks_IntS i a x hi
    unfold mk_IntS at e
    rw [e, wrap_succ hi (by omega), show a + (i : Int) + 1 = a + ((i + 1 : Nat) : Int) by omega]
    exact hn
  · refine Ev.step (fun k => by simp only [laws_markIntS.l0]; rfl) ?_
    have e : mkd_IntS x.length a ++ x.drop x.length = mkd_IntS x.length a := by simp
    rw [e]
    exact Ev.neg (by rw [mkl_IntS]; omega) (ev_val rfl)
def mk_SingleS (a : Int) (i : Nat) : S44 := (⟨a + 2 * (i : Int), a + 2 * (i : Int) + 1⟩ : S44)
def mkd_SingleS (m : Nat) (a : Int) : List S44 := (List.range m).map (mk_SingleS a)
theorem mkl_SingleS (m : Nat) (a : Int) : (mkd_SingleS m a).length = m := by simp [mkd_SingleS]
theorem mks_SingleS (i : Nat) (a : Int) (x : (List S44)) (hi : i < x.length) : (mkd_SingleS i a ++ x.drop i).set i (mk_SingleS a i) = mkd_SingleS (i + 1) a ++ x.drop (i + 1) := by
  rw [List.set_append_right _ _ (by rw [mkl_SingleS]; omega), mkl_SingleS, Nat.sub_self, List.drop_eq_getElem_cons hi, List.set_cons_zero]
  simp [mkd_SingleS, List.range_succ]
theorem mark_SingleS (x : (List S44)) (hl : x.length ≤ 4194304) (a : Int) (h0 : 0 ≤ a) (h1 : a ≤ 1152921504606846976) : Ev (fun k => laws_markSingleS.f k x a) (a + 2 * (x.length : Int), mkd_SingleS x.length a) := by
  unfold laws_markSingleS.f
  have hlen : ∀ i, i < x.length → (mkd_SingleS i a ++ x.drop i).length = x.length := by
    intro i hi
    rw [List.length_append, mkl_SingleS, List.length_drop]; omega
  have key := ev_fold (fun k i => laws_markSingleS.l0 k (mkd_SingleS i a ++ x.drop i) (a + 2 * (i : Int)) (i : Int)) x.length (r := (a + 2 * (x.length : Int), mkd_SingleS x.length a)) ?_ ?_
  · have e : a + 2 * 0 = a := by omega
    simpa [mkd_SingleS] using key
  · intro i hi hn
    refine Ev.step (fun k => by simp only [laws_markSingleS.l0]; rfl) ?_
    refine Ev.pos (by rw [hlen i hi]; omega) (Ev.pos (by omega) ?_)
    try simp only [if_pos (show (i : Int) < ((mkd_SingleS i a ++ x.drop i).length : Int) by rw [hlen i hi]; omega)]
    rw [Int.toNat_natCast]
    rw [wrap_id (x := a + 2 * (i : Int) + 1) (by omega) (by omega)]
    rw [wrap_id (x := a + 2 * (i : Int) + 1 + 1) (by omega) (by omega)]
    have e := mks_SingleS i a x hi
    unfold mk_SingleS at e
    rw [e, wrap_succ hi (by omega), show a + 2 * (i : Int) + 1 + 1 = a + 2 * ((i + 1 : Nat) : Int) by omega]
    exact hn
  · refine Ev.step (fun k => by simp only [laws_markSingleS.l0]; rfl) ?_
    have e : mkd_SingleS x.length a ++ x.drop x.length = mkd_SingleS x.length a := by simp
    rw [e]
    exact Ev.neg (by rw [mkl_SingleS]; omega) (ev_val rfl)
theorem held_IntS (m : Nat) (hl : m ≤ 4194304) (a : Int) (h0 : 0 ≤ a) (h1 : a ≤ 1152921504606846976) : Ev (fun k => laws_heldIntS.f k (mkd_IntS m a) a) (a + (m : Int)) := by
  unfold laws_heldIntS.f
  have e : ∀ i (hi : i < m), (mkd_IntS m a)[i]'(by rw [mkl_IntS]; exact hi) = mk_IntS a i := by
    intro i hi
    simp [mkd_IntS]
  have key := ev_fold (fun k i => laws_heldIntS.l0 k (mkd_IntS m a) (a + (i : Int)) (i : Int)) m (r := a + (m : Int)) ?_ ?_
  · simpa using key
  · intro i hi hn
    refine Ev.step (fun k => by simp only [laws_heldIntS.l0]; rfl) ?_
    refine Ev.pos (by rw [mkl_IntS]; omega) (Ev.pos (by omega) ?_)
    rw [at_nat (show i < (mkd_IntS m a).length by rw [mkl_IntS]; exact hi), e i hi]
    unfold mk_IntS
    refine Ev.pos rfl ?_
    rw [wrap_id (x := a + (i : Int) + 1) (by omega) (by omega)]
    rw [wrap_succ hi (by omega), show a + (i : Int) + 1 = a + ((i + 1 : Nat) : Int) by omega]
    exact hn
  · refine Ev.step (fun k => by simp only [laws_heldIntS.l0]; rfl) ?_
    exact Ev.neg (by rw [mkl_IntS]; omega) (ev_val rfl)
theorem eq_impl_between (a b c : Int) : impl_between.f a b c = some (decide (b ≤ a ∧ a ≤ c)) := by
  unfold impl_between.f
  by_cases h : a ≥ b
  · rw [if_pos h]; simp [show b ≤ a from h]
  · rw [if_neg h]; simp [show ¬ b ≤ a from h]
theorem eq_spec_l01In (a b c : Int) : spec_l01In.f a b c = some (decide (b ≤ a ∧ a ≤ c)) := by
  unfold spec_l01In.f
  by_cases h : b ≤ a
  · rw [if_pos h]; simp [h]
  · rw [if_neg h]; simp [h]
/-- How many trains fit at a spot. -/
def fitsV (line : List Int) (spot : Int) : Int := if spot % 2 = 1 then 1 else at_ line (spot / 2)
def cntTo (ts : List S44) (i : Nat) (spot : Int) : Nat := (ts.take i).countP (fun t => t.f0 == spot)
theorem cntTo_succ {ts : List S44} {i : Nat} (h : i < ts.length) (spot : Int) : cntTo ts (i + 1) spot = cntTo ts i spot + (if ts[i].f0 = spot then 1 else 0) := by
  unfold cntTo
  rw [count_take _ h]
  simp [beq_iff_eq]
theorem cntTo_le (ts : List S44) (i : Nat) (spot : Int) : cntTo ts i spot ≤ ts.length := by
  unfold cntTo
  have := List.countP_le_length (p := fun t : S44 => t.f0 == spot) (l := ts.take i)
  rw [List.length_take] at this
  omega
def cntAt (ts : List S44) (spot : Int) : Nat := cntTo ts ts.length spot
def LineP (line : List Int) : Prop := (2 ≤ line.length ∧ line.length ≤ 5) ∧ ∀ i, i < line.length → 1 ≤ at_ line (i : Int) ∧ at_ line (i : Int) ≤ 4
def InP (line : List Int) (t : S44) : Prop := (0 ≤ t.f0 ∧ t.f0 ≤ 2 * (line.length : Int) - 2) ∧ (0 ≤ t.f1 ∧ t.f1 ≤ 2 * (line.length : Int) - 2) ∧ t.f1 % 2 = 0
def SinP (line : List Int) (ts : List S44) : Prop := LineP line ∧ ts.length ≤ 4 ∧ ∀ i, i < ts.length → InP line (at_ ts (i : Int)) ∧ (cntAt ts (at_ ts (i : Int)).f0 : Int) ≤ fitsV line (at_ ts (i : Int)).f0
theorem ev_spec_l07Line (line : List Int) (hl : line.length ≤ 1048576) (b : Bool) (hb : b = true ↔ LineP line) : Ev (fun k => spec_l07Line.f k line) b := by
  unfold spec_l07Line.f
  refine ev_allI line.length (fun i => 1 ≤ at_ line (i : Int) ∧ at_ line (i : Int) ≤ 4) (fun k i => spec_l07Line.l0 k line (i : Int)) (2 ≤ line.length ∧ line.length ≤ 5) (hb.trans ⟨fun h => ⟨h.2, h.1⟩, fun h => ⟨h.2, h.1⟩⟩) ?_ ?_ ?_
  · intro i hi hp hn
    refine Ev.step (fun k => by simp only [spec_l07Line.l0]; rfl) ?_
    refine Ev.pos (by omega) (Ev.pos (by omega) (Ev.opt (eq_spec_l01In _ _ _) (Ev.pos (decide_eq_true hp) ?_)))
    rw [wrap_succ hi (by omega)]
    exact hn
  · intro i hi hp
    refine Ev.step (fun k => by simp only [spec_l07Line.l0]; rfl) ?_
    exact Ev.pos (by omega) (Ev.pos (by omega) (Ev.opt (eq_spec_l01In _ _ _) (Ev.neg (by simpa using hp) (ev_val rfl))))
  · intro _ hq
    refine Ev.step (fun k => by simp only [spec_l07Line.l0]; rfl) ?_
    refine Ev.neg (by omega) (Ev.opt (eq_spec_l01In _ _ _) (ev_val ?_))
    rw [Bool.eq_iff_iff, decide_eq_true_iff, hq]
    omega
theorem ev_spec_l07At (ts : List S44) (spot : Int) (hl : ts.length ≤ 1048576) : Ev (fun k => spec_l07At.f k ts spot) (cntAt ts spot : Int) := by
  unfold spec_l07At.f
  refine ev_fold (fun k i => spec_l07At.l0 k ts spot (cntTo ts i spot : Int) (i : Int)) ts.length ?_ ?_
  · intro i hi hn
    refine Ev.step (fun k => by simp only [spec_l07At.l0]; rfl) ?_
    refine Ev.pos (by omega) (Ev.pos (by omega) ?_)
    have hc := cntTo_le ts i spot
    rw [at_nat hi, wrap_succ hi (by omega)]
    rw [cntTo_succ hi] at hn
    refine Ev.ite (fun h => ?_) (fun h => ?_)
    · rw [if_pos h] at hn
      rw [wrap_id (by omega) (by omega)]
      exact hn
    · rw [if_neg h] at hn
      exact hn
  · refine Ev.step (fun k => by simp only [spec_l07At.l0]; rfl) ?_
    exact Ev.neg (by omega) (ev_val rfl)
theorem half_ok {line : List Int} {s : Int} (h0 : 0 ≤ s) (h1 : s ≤ 2 * (line.length : Int) - 2) (hl : line.length ≤ 1048576) : wrap64 (s.tdiv 2) = s / 2 ∧ 0 ≤ s / 2 ∧ s / 2 < (line.length : Int) := by
  rw [tdiv_of 2 h0, wrap_id (by omega) (by omega)]
  omega
theorem eq_spec_l07Fits {line : List Int} {s : Int} (h0 : 0 ≤ s) (h1 : s ≤ 2 * (line.length : Int) - 2) (hl : line.length ≤ 1048576) : spec_l07Fits.f line s = some (fitsV line s) := by
  obtain ⟨e1, e2, e3⟩ := half_ok h0 h1 hl
  unfold spec_l07Fits.f fitsV
  rw [tmod_of 2 h0, e1]
  by_cases h : s % 2 = 1
  · rw [if_pos h, if_pos h]
  · rw [if_neg h, if_neg h, if_pos e2, if_pos e3]
theorem eq_impl_fits {line : List Int} {s : Int} (h0 : 0 ≤ s) (h1 : s ≤ 2 * (line.length : Int) - 2) (hl : line.length ≤ 1048576) : impl_fits.f line s = some (fitsV line s) := by
  obtain ⟨e1, e2, e3⟩ := half_ok h0 h1 hl
  unfold impl_fits.f fitsV
  rw [tmod_of 2 h0, e1]
  by_cases h : s % 2 = 0
  · rw [if_pos h, if_pos e2, if_pos e3, if_neg (by omega)]
  · rw [if_neg h, if_pos (by omega)]
theorem tmod2 (a : Int) : a.tmod 2 = 0 ↔ a % 2 = 0 := by
  rw [← Int.dvd_iff_tmod_eq_zero, Int.dvd_iff_emod_eq_zero]
theorem ev_spec_SinglesOk (line : List Int) (ts : List S44) (hl : line.length ≤ 1048576) (ht : ts.length ≤ 1048576) (b : Bool) (hb : b = true ↔ SinP line ts) : Ev (fun k => spec_SinglesOk.f k line ts) b := by
  classical
  unfold spec_SinglesOk.f
  have bad : ¬ (LineP line ∧ ts.length ≤ 4) → Ev (fun _ => some false) b := fun h => ev_val (bool_not hb fun e => h ⟨e.1, e.2.1⟩).symm
  refine Ev.bind (ev_spec_l07Line line hl (decide (LineP line)) decide_eq_true_iff) ?_
  refine Ev.ite (fun h => ?_) (fun h => bad fun g => h (decide_eq_true g.1))
  have hL := of_decide_eq_true h
  have hL5 := hL.1
  refine Ev.ite (fun h => bad fun g => by omega) (fun h4 => ?_)
  refine ev_allI ts.length (fun i => InP line (at_ ts (i : Int)) ∧ (cntAt ts (at_ ts (i : Int)).f0 : Int) ≤ fitsV line (at_ ts (i : Int)).f0) (fun k i => spec_SinglesOk.l0 k line ts (i : Int)) True (hb.trans ⟨fun e => ⟨e.2.2, trivial⟩, fun e => ⟨hL, by omega, e.1⟩⟩) ?_ ?_ ?_
  · intro i hi hp hn
    obtain ⟨⟨p1, p2, p3⟩, p4⟩ := hp
    refine Ev.step (fun k => by simp only [spec_SinglesOk.l0]; rfl) ?_
    rw [wrap_id (x := 2 * (line.length : Int)) (by omega) (by omega), wrap_id (x := 2 * (line.length : Int) - 2) (by omega) (by omega), wrap_succ hi (by omega)]
    refine Ev.pos (by omega) (Ev.pos (by omega) (Ev.opt (eq_spec_l01In _ _ _) (Ev.pos (decide_eq_true p1) (Ev.opt (eq_spec_l01In _ _ _) (Ev.pos (decide_eq_true p2) (Ev.pos ((tmod2 _).2 p3) ?_))))))
    exact Ev.bind (ev_spec_l07At ts _ ht) (Ev.opt (eq_spec_l07Fits p1.1 p1.2 hl) (Ev.neg (by omega) hn))
  · intro i hi hp
    refine Ev.step (fun k => by simp only [spec_SinglesOk.l0]; rfl) ?_
    rw [wrap_id (x := 2 * (line.length : Int)) (by omega) (by omega), wrap_id (x := 2 * (line.length : Int) - 2) (by omega) (by omega), wrap_succ hi (by omega)]
    refine Ev.pos (by omega) (Ev.pos (by omega) (Ev.opt (eq_spec_l01In _ _ _) (Ev.ite (fun q1 => ?_) (fun _ => ev_val rfl))))
    have p1 := of_decide_eq_true q1
    refine Ev.opt (eq_spec_l01In _ _ _) (Ev.ite (fun q2 => Ev.ite (fun q3 => ?_) (fun _ => ev_val rfl)) (fun _ => ev_val rfl))
    have p2 := of_decide_eq_true q2
    exact Ev.bind (ev_spec_l07At ts _ ht) (Ev.opt (eq_spec_l07Fits p1.1 p1.2 hl) (Ev.pos (Int.not_le.1 fun g => hp ⟨⟨p1, p2, (tmod2 _).1 q3⟩, g⟩) (ev_val rfl)))
  · intro _ hq
    refine Ev.step (fun k => by simp only [spec_SinglesOk.l0]; rfl) ?_
    exact Ev.neg (by omega) (ev_val (hq.2 trivial).symm)
/-- Places so far, spot by spot. -/
def thereTo (ts : List S44) (i : Nat) : List Int := (List.range 9).map fun (s : Nat) => (cntTo ts i (s : Int) : Int)
theorem there_len (ts : List S44) (i : Nat) : (thereTo ts i).length = 9 := by simp [thereTo]
theorem there_at (ts : List S44) (i : Nat) {s : Int} (h0 : 0 ≤ s) (h1 : s < 9) : at_ (thereTo ts i) s = cntTo ts i s := by
  unfold thereTo
  rw [range_at h0 (by omega), show ((s.toNat : Nat) : Int) = s by omega]
theorem there_set {ts : List S44} {i : Nat} (hi : i < ts.length) (h0 : 0 ≤ ts[i].f0) : (thereTo ts i).set ts[i].f0.toNat ((cntTo ts i ts[i].f0 : Int) + 1) = thereTo ts (i + 1) := by
  unfold thereTo
  rw [range_set]
  refine range_congr fun j hj => ?_
  rw [cntTo_succ hi]
  by_cases e : j = ts[i].f0.toNat
  · have e2 : ts[i].f0 = (j : Int) := by omega
    rw [if_pos e, if_pos e2, e2]; omega
  · rw [if_neg e, if_neg (by omega)]; omega
theorem last_cnt (ts : List S44) (F : Int → Int) : ∀ m, m ≤ ts.length → ((∀ i, i < m → (cntTo ts (i + 1) (at_ ts (i : Int)).f0 : Int) ≤ F (at_ ts (i : Int)).f0) ↔ ∀ i, i < m → (cntTo ts m (at_ ts (i : Int)).f0 : Int) ≤ F (at_ ts (i : Int)).f0)
  | 0, _ => ⟨fun _ i h => absurd h (by omega), fun _ i h => absurd h (by omega)⟩
  | m + 1, hm => by
    have ih := last_cnt ts F m (by omega)
    have hms : m < ts.length := by omega
    constructor
    · intro h i hi
      by_cases e : (at_ ts (i : Int)).f0 = (at_ ts (m : Int)).f0
      · have := h m (by omega); rw [e]; exact this
      · have hne : i ≠ m := fun g => e (by rw [g])
        have := ih.1 (fun j hj => h j (by omega)) i (by omega)
        rw [cntTo_succ hms, if_neg (fun g => e (by rw [at_nat hms]; exact g.symm))]
        omega
    · intro h i hi
      have mono : ∀ n j, j ≤ n → n ≤ ts.length → ∀ s, cntTo ts j s ≤ cntTo ts n s := by
        intro n
        induction n with
        | zero => intro j hj _ s; obtain rfl : j = 0 := by omega
                  exact Nat.le_refl _
        | succ n ihn =>
          intro j hj hn s
          by_cases e : j = n + 1
          · rw [e]; exact Nat.le_refl _
          · have := ihn j (by omega) (by omega) s
            rw [cntTo_succ (by omega : n < ts.length)]; omega
      have := mono (m + 1) (i + 1) (by omega) hm (at_ ts (i : Int)).f0
      have := h i hi
      omega
theorem ev_impl_SinglesOk (line : List Int) (ts : List S44) (hl : line.length ≤ 1048576) (ht : ts.length ≤ 1048576) (b : Bool) (hb : b = true ↔ SinP line ts) : Ev (fun k => impl_SinglesOk.f k line ts) b := by
  classical
  unfold impl_SinglesOk.f
  have bad : ¬ (LineP line ∧ ts.length ≤ 4) → Ev (fun _ => some false) b := fun h => ev_val (bool_not hb fun e => h ⟨e.1, e.2.1⟩).symm
  refine Ev.opt (eq_impl_between _ _ _) (Ev.ite (fun h => ?_) (fun h => bad fun g => h (decide_eq_true (by have := g.1.1; omega))))
  have hL5 := of_decide_eq_true h
  refine Ev.ite (fun h => bad fun g => by omega) (fun h4 => ?_)
  have hb' : b = true ↔ (∀ i, i < line.length → 1 ≤ at_ line (i : Int) ∧ at_ line (i : Int) ≤ 4) ∧ ∀ i, i < ts.length → InP line (at_ ts (i : Int)) ∧ (cntTo ts (i + 1) (at_ ts (i : Int)).f0 : Int) ≤ fitsV line (at_ ts (i : Int)).f0 := by
    have := last_cnt ts (fitsV line) ts.length (Nat.le_refl _)
    refine hb.trans ⟨fun e => ⟨e.1.2, fun i hi => ⟨(e.2.2 i hi).1, this.2 (fun j hj => (e.2.2 j hj).2) i hi⟩⟩, fun e => ⟨⟨by omega, e.1⟩, by omega, fun i hi => ⟨(e.2 i hi).1, this.1 (fun j hj => (e.2 j hj).2) i hi⟩⟩⟩
  refine ev_allI line.length (fun i => 1 ≤ at_ line (i : Int) ∧ at_ line (i : Int) ≤ 4) (fun k i => impl_SinglesOk.l0 k line ts (i : Int)) _ hb' ?_ ?_ ?_
  · intro i hi hp hn
    refine Ev.step (fun k => by simp only [impl_SinglesOk.l0]; rfl) ?_
    refine Ev.pos (by omega) (Ev.pos (by omega) (Ev.opt (eq_impl_between _ _ _) (Ev.pos (decide_eq_true hp) ?_)))
    rw [wrap_succ hi (by omega)]
    exact hn
  · intro i hi hp
    refine Ev.step (fun k => by simp only [impl_SinglesOk.l0]; rfl) ?_
    exact Ev.pos (by omega) (Ev.pos (by omega) (Ev.opt (eq_impl_between _ _ _) (Ev.neg (by simpa using hp) (ev_val rfl))))
  · intro _ hq
    refine Ev.step (fun k => by simp only [impl_SinglesOk.l0]; rfl) ?_
    refine Ev.neg (by omega) ?_
    have e0 : List.replicate 9 (0 : Int) = thereTo ts 0 := by simp [thereTo, cntTo]; rfl
    rw [e0]
    refine ev_allI ts.length (fun i => InP line (at_ ts (i : Int)) ∧ (cntTo ts (i + 1) (at_ ts (i : Int)).f0 : Int) ≤ fitsV line (at_ ts (i : Int)).f0) (fun k i => impl_SinglesOk.l1 k line ts (thereTo ts i) (i : Int)) True (hq.trans ⟨fun e => ⟨e, trivial⟩, fun e => e.1⟩) ?_ ?_ ?_
    · intro i hi hp hn
      obtain ⟨⟨p1, p2, p3⟩, p4⟩ := hp
      have hc := cntTo_le ts i (at_ ts (i : Int)).f0
      refine Ev.step (fun k => by simp only [impl_SinglesOk.l1]; rfl) ?_
      rw [wrap_id (x := 2 * (line.length : Int)) (by omega) (by omega), wrap_id (x := 2 * (line.length : Int) - 2) (by omega) (by omega), wrap_succ hi (by omega)]
      refine Ev.pos (by omega) (Ev.pos (by omega) (Ev.opt (eq_impl_between _ _ _) (Ev.pos (decide_eq_true p1) (Ev.opt (eq_impl_between _ _ _) (Ev.pos (decide_eq_true p2) (Ev.pos ((tmod2 _).2 p3) ?_))))))
      refine Ev.pos p1.1 (Ev.pos (by omega) (Ev.pos (by rw [there_len]; omega) (Ev.opt (eq_impl_fits p1.1 p1.2 hl) ?_)))
      rw [there_at ts i p1.1 (by omega), wrap_id (by omega) (by omega)]
      rw [at_nat hi] at p1 p4 ⊢
      rw [there_set hi p1.1]
      rw [cntTo_succ hi, if_pos rfl] at p4
      exact Ev.neg (by omega) hn
    · intro i hi hp
      have hc := cntTo_le ts i (at_ ts (i : Int)).f0
      refine Ev.step (fun k => by simp only [impl_SinglesOk.l1]; rfl) ?_
      rw [wrap_id (x := 2 * (line.length : Int)) (by omega) (by omega), wrap_id (x := 2 * (line.length : Int) - 2) (by omega) (by omega), wrap_succ hi (by omega)]
      refine Ev.pos (by omega) (Ev.pos (by omega) (Ev.opt (eq_impl_between _ _ _) (Ev.ite (fun q1 => ?_) (fun _ => ev_val rfl))))
      have p1 := of_decide_eq_true q1
      refine Ev.opt (eq_impl_between _ _ _) (Ev.ite (fun q2 => Ev.ite (fun q3 => ?_) (fun _ => ev_val rfl)) (fun _ => ev_val rfl))
      have p2 := of_decide_eq_true q2
      refine Ev.pos p1.1 (Ev.pos (by omega) (Ev.pos (by rw [there_len]; omega) (Ev.opt (eq_impl_fits p1.1 p1.2 hl) ?_)))
      rw [there_at ts i p1.1 (by omega), wrap_id (by omega) (by omega)]
      refine Ev.pos (Int.not_le.1 fun g => hp ⟨⟨p1, p2, (tmod2 _).1 q3⟩, ?_⟩) (ev_val rfl)
      rw [at_nat hi] at g ⊢
      rw [cntTo_succ hi, if_pos rfl]
      omega
    · intro _ hq2
      refine Ev.step (fun k => by simp only [impl_SinglesOk.l1]; rfl) ?_
      exact Ev.neg (by omega) (ev_val (hq2.2 trivial).symm)
def nextV (t : S44) : Int := if t.f0 < t.f1 then t.f0 + 1 else t.f0 - 1
def MayP (line : List Int) (ts : List S44) (i : Int) : Prop := SinP line ts ∧ (0 ≤ i ∧ i ≤ (ts.length : Int) - 1) ∧ (at_ ts i).f0 ≠ (at_ ts i).f1 ∧ (cntAt ts (nextV (at_ ts i)) : Int) < fitsV line (nextV (at_ ts i))
theorem sin_in {line : List Int} {ts : List S44} (h : SinP line ts) {i : Int} (h0 : 0 ≤ i) (h1 : i < (ts.length : Int)) : InP line (at_ ts i) := all_idx (p := fun t => InP line t) (fun j hj => (h.2.2 j hj).1) h0 h1
theorem next_in {line : List Int} {t : S44} (h : InP line t) (hn : t.f0 ≠ t.f1) : 0 ≤ nextV t ∧ nextV t ≤ 2 * (line.length : Int) - 2 := by
  obtain ⟨h1, h2, _⟩ := h
  unfold nextV
  split <;> omega
theorem eq_spec_l07Next {line : List Int} {t : S44} (h : InP line t) (hl : line.length ≤ 1048576) : spec_l07Next.f t = some (nextV t) := by
  obtain ⟨h1, h2, _⟩ := h
  unfold spec_l07Next.f nextV
  split
  · rw [wrap_id (by omega) (by omega)]
  · rw [wrap_id (by omega) (by omega)]
theorem eq_impl_nextSpot {line : List Int} {t : S44} (h : InP line t) (hl : line.length ≤ 1048576) : impl_nextSpot.f t = some (nextV t) := by
  obtain ⟨h1, h2, _⟩ := h
  unfold impl_nextSpot.f nextV
  split
  · rw [wrap_id (by omega) (by omega)]
  · rw [wrap_id (by omega) (by omega)]
theorem ev_spec_MayMove (line : List Int) (ts : List S44) (i : Int) (hl : line.length ≤ 1048576) (ht : ts.length ≤ 1048576) (b : Bool) (hb : b = true ↔ MayP line ts i) : Ev (fun k => spec_MayMove.f k line ts i) b := by
  classical
  unfold spec_MayMove.f
  have bad : ¬ MayP line ts i → Ev (fun _ => some false) b := fun h => ev_val (bool_not hb h).symm
  refine Ev.bind (ev_spec_SinglesOk line ts hl ht (decide (SinP line ts)) decide_eq_true_iff) ?_
  refine Ev.ite (fun h => ?_) (fun h => bad fun g => h (decide_eq_true g.1))
  have hS := of_decide_eq_true h
  rw [wrap_id (by omega) (by omega)]
  refine Ev.opt (eq_spec_l01In _ _ _) (Ev.ite (fun h => ?_) (fun h => bad fun g => h (decide_eq_true g.2.1)))
  have hi := of_decide_eq_true h
  refine Ev.pos hi.1 (Ev.pos (by omega) (Ev.ite (fun h => bad fun g => g.2.2.1 h) (fun hne => ?_)))
  have hin := sin_in hS hi.1 (by omega)
  have hnx := next_in hin hne
  refine Ev.opt (eq_spec_l07Next hin hl) (Ev.bind (ev_spec_l07At ts _ ht) (Ev.opt (eq_spec_l07Fits hnx.1 hnx.2 hl) (ev_val ?_)))
  rw [Bool.eq_iff_iff, decide_eq_true_iff, hb]
  exact ⟨fun g => ⟨hS, hi, hne, g⟩, fun g => g.2.2.2⟩
theorem ev_impl_mayMove (line : List Int) (ts : List S44) (i : Int) (hl : line.length ≤ 1048576) (ht : ts.length ≤ 1048576) (hS : SinP line ts) (hi : 0 ≤ i ∧ i ≤ (ts.length : Int) - 1) (b : Bool) (hb : b = true ↔ MayP line ts i) : Ev (fun k => impl_mayMove.f k line ts i) b := by
  unfold impl_mayMove.f
  have bad : ¬ MayP line ts i → Ev (fun _ => some false) b := fun h => ev_val (bool_not hb h).symm
  refine Ev.pos hi.1 (Ev.pos (by omega) (Ev.ite (fun h => bad fun g => g.2.2.1 h) (fun hne => ?_)))
  have hin := sin_in hS hi.1 (by omega)
  have hnx := next_in hin hne
  refine Ev.opt (eq_impl_nextSpot hin hl) ?_
  refine ev_fold (fun k j => impl_mayMove.l0 k line ts (nextV (at_ ts i)) (cntTo ts j (nextV (at_ ts i)) : Int) (j : Int)) ts.length ?_ ?_
  · intro j hj hn
    refine Ev.step (fun k => by simp only [impl_mayMove.l0]; rfl) ?_
    refine Ev.pos (by omega) (Ev.pos (by omega) ?_)
    have hc := cntTo_le ts j (nextV (at_ ts i))
    rw [cntTo_succ hj] at hn
    rw [at_nat hj, wrap_succ hj (by omega)]
    refine Ev.ite (fun h => ?_) (fun h => ?_)
    · rw [if_pos h] at hn
      rw [wrap_id (by omega) (by omega)]
      exact hn
    · rw [if_neg h] at hn
      exact hn
  · refine Ev.step (fun k => by simp only [impl_mayMove.l0]; rfl) ?_
    refine Ev.neg (by omega) (Ev.opt (eq_impl_fits hnx.1 hnx.2 hl) (ev_val ?_))
    rw [Bool.eq_iff_iff, decide_eq_true_iff, hb]
    exact ⟨fun g => ⟨hS, hi, hne, g⟩, fun g => g.2.2.2⟩
def DoneP (ts : List S44) : Prop := ∀ i, i < ts.length → (at_ ts (i : Int)).f0 = (at_ ts (i : Int)).f1
theorem ev_spec_l07Done (ts : List S44) (ht : ts.length ≤ 1048576) (b : Bool) (hb : b = true ↔ DoneP ts) : Ev (fun k => spec_l07Done.f k ts) b := by
  unfold spec_l07Done.f
  refine ev_allI ts.length (fun i => (at_ ts (i : Int)).f0 = (at_ ts (i : Int)).f1) (fun k i => spec_l07Done.l0 k ts (i : Int)) True (hb.trans ⟨fun e => ⟨e, trivial⟩, fun e => e.1⟩) ?_ ?_ ?_
  · intro i hi hp hn
    refine Ev.step (fun k => by simp only [spec_l07Done.l0]; rfl) ?_
    rw [wrap_succ hi (by omega)]
    exact Ev.pos (by omega) (Ev.pos (by omega) (Ev.pos hp hn))
  · intro i hi hp
    refine Ev.step (fun k => by simp only [spec_l07Done.l0]; rfl) ?_
    exact Ev.pos (by omega) (Ev.pos (by omega) (Ev.neg hp (ev_val rfl)))
  · intro _ hq
    refine Ev.step (fun k => by simp only [spec_l07Done.l0]; rfl) ?_
    exact Ev.neg (by omega) (ev_val (hq.2 trivial).symm)
theorem ev_impl_home (ts : List S44) (ht : ts.length ≤ 1048576) (b : Bool) (hb : b = true ↔ DoneP ts) : Ev (fun k => impl_home.f k ts) b := by
  unfold impl_home.f
  refine ev_allI ts.length (fun i => (at_ ts (i : Int)).f0 = (at_ ts (i : Int)).f1) (fun k i => impl_home.l0 k ts (i : Int)) True (hb.trans ⟨fun e => ⟨e, trivial⟩, fun e => e.1⟩) ?_ ?_ ?_
  · intro i hi hp hn
    refine Ev.step (fun k => by simp only [impl_home.l0]; rfl) ?_
    rw [wrap_succ hi (by omega)]
    exact Ev.pos (by omega) (Ev.pos (by omega) (Ev.pos hp hn))
  · intro i hi hp
    refine Ev.step (fun k => by simp only [impl_home.l0]; rfl) ?_
    exact Ev.pos (by omega) (Ev.pos (by omega) (Ev.neg hp (ev_val rfl)))
  · intro _ hq
    refine Ev.step (fun k => by simp only [impl_home.l0]; rfl) ?_
    exact Ev.neg (by omega) (ev_val (hq.2 trivial).symm)
def StuckP (line : List Int) (ts : List S44) : Prop := (∀ i, i < ts.length → ¬ MayP line ts (i : Int)) ∧ SinP line ts ∧ ¬ DoneP ts
def movedV (ts : List S44) (i : Int) : List S44 := ts.set i.toNat ⟨nextV (at_ ts i), (at_ ts i).f1⟩
theorem moved_len (ts : List S44) (i : Int) : (movedV ts i).length = ts.length := List.length_set ..
theorem moved_get (ts : List S44) (i : Int) (j : Nat) (hj : j < ts.length) (hj2 : j < (movedV ts i).length) : (movedV ts i)[j] = if i.toNat = j then ⟨nextV (at_ ts i), (at_ ts i).f1⟩ else ts[j] := by
  have h : (movedV ts i)[j]? = (ts.set i.toNat ⟨nextV (at_ ts i), (at_ ts i).f1⟩)[j]? := rfl
  rw [List.getElem?_eq_getElem hj2, List.getElem?_eq_getElem (by rw [List.length_set]; exact hj), List.getElem_set] at h
  exact Option.some.inj h
theorem ev_spec_MoveOn (line : List Int) (ts : List S44) (i : Int) (hl : line.length ≤ 1048576) (ht : ts.length ≤ 1048576) (r : List S44 × Bool) (h1 : MayP line ts i → r = (movedV ts i, true)) (h2 : ¬ MayP line ts i → r = ([], false)) : Ev (fun k => spec_MoveOn.f k line ts i) r := by
  classical
  unfold spec_MoveOn.f
  refine Ev.bind (ev_spec_MayMove line ts i hl ht (decide (MayP line ts i)) decide_eq_true_iff) ?_
  refine Ev.ite (fun h => ?_) (fun h => ev_val (h2 fun g => h (decide_eq_true g)).symm)
  have hM := of_decide_eq_true h
  obtain ⟨hS, hi, hne, hc⟩ := hM
  rw [h1 (of_decide_eq_true h)]
  refine ev_fold (fun k j => spec_MoveOn.l0 k ts i ((movedV ts i).take j) (j : Int)) ts.length ?_ ?_
  · intro j hj hn
    have hj2 : j < (movedV ts i).length := by rw [moved_len]; exact hj
    have hlt : ((movedV ts i).take j).length = j := by rw [List.length_take]; omega
    refine Ev.step (fun k => by simp only [spec_MoveOn.l0]; rfl) ?_
    rw [wrap_succ hj (by omega)]
    rw [take_succ' hj2] at hn
    refine Ev.pos (by omega) (Ev.pos (by omega) (Ev.ite (fun h => ?_) (fun h => ?_)))
    · refine Ev.opt (eq_spec_l07Next (sin_in hS (by omega) (by omega)) hl) (Ev.pos (by simp only [List.length_cons, List.length_nil]; omega) ?_)
      have e : (movedV ts i)[j] = ⟨nextV (at_ ts (j : Int)), (at_ ts (j : Int)).f1⟩ := by
        rw [moved_get ts i j hj hj2, if_pos (by omega), h]
      rw [e] at hn
      exact hn
    · refine Ev.pos (by simp only [List.length_cons, List.length_nil]; omega) ?_
      have e : (movedV ts i)[j] = at_ ts (j : Int) := by
        rw [moved_get ts i j hj hj2, if_neg (by omega), at_nat hj]
      rw [e] at hn
      exact hn
  · refine Ev.step (fun k => by simp only [spec_MoveOn.l0]; rfl) ?_
    refine Ev.neg (by omega) (ev_val ?_)
    rw [← moved_len ts i, List.take_length]
theorem eq_impl_moved {line : List Int} (ts : List S44) (i : Int) (hl : line.length ≤ 1048576) (ht : ts.length ≤ 1048576) (hi : 0 ≤ i ∧ i ≤ (ts.length : Int) - 1) (hin : InP line (at_ ts i)) : impl_moved.f ts i = some (movedV ts i) := by
  unfold impl_moved.f
  simp only [List.nil_append, List.length_nil]
  rw [if_pos (by omega), if_pos hi.1, if_pos (by omega), eq_impl_nextSpot hin hl]
  rfl
theorem moveR (line : List Int) (ts : List S44) (i : Int) : ∃ r : List S44 × Bool, (MayP line ts i → r = (movedV ts i, true)) ∧ (¬ MayP line ts i → r = ([], false)) := by
  classical
  by_cases h : MayP line ts i
  · exact ⟨_, fun _ => rfl, fun g => absurd h g⟩
  · exact ⟨_, fun g => absurd g h, fun _ => rfl⟩
-- trains on a single line: how far, what can be reached
def dist (ts : List S44) : Nat := (ts.map fun t => (t.f0 - t.f1).natAbs).sum
theorem sum_set : ∀ (l : List Nat) (i : Nat) (h : i < l.length) (a : Nat), (l.set i a).sum + l[i] = l.sum + a
  | x :: r, 0, _, a => by simp; omega
  | x :: r, i + 1, h, a => by
    have := sum_set r i (by simpa using h) a
    simp only [List.set_cons_succ, List.sum_cons, List.getElem_cons_succ]
    omega
theorem may_lt {line : List Int} {ts : List S44} {i : Int} (h : MayP line ts i) : i.toNat < ts.length ∧ ((i.toNat : Nat) : Int) = i := by
  have := h.2.1
  omega
theorem dist_moved {line : List Int} {ts : List S44} {i : Int} (h : MayP line ts i) : dist (movedV ts i) + 1 = dist ts := by
  obtain ⟨hi, _⟩ := may_lt h
  have hne := h.2.2.1
  have e : at_ ts i = ts[i.toNat] := at_int (by have := h.2.1; omega) (by have := h.2.1; omega)
  have := sum_set (ts.map fun t => (t.f0 - t.f1).natAbs) i.toNat (by simpa using hi) (nextV (at_ ts i) - (at_ ts i).f1).natAbs
  unfold dist movedV
  rw [List.map_set]
  rw [List.getElem_map, ← e] at this
  dsimp only
  unfold nextV at this ⊢
  split at this <;> rename_i g
  · simp only [if_pos g]
    omega
  · simp only [if_neg g]
    omega
theorem moved_goals (ts : List S44) (i : Int) (h : i.toNat < ts.length) (h0 : 0 ≤ i) : (movedV ts i).map (fun t => t.f1) = ts.map fun t => t.f1 := by
  have e : at_ ts i = ts[i.toNat] := at_int h0 (by omega)
  unfold movedV
  rw [List.map_set]
  refine List.ext_getElem (by simp) fun j h1 h2 => ?_
  rw [List.getElem_set]
  split
  · rename_i g
    subst g
    rw [List.getElem_map, e]
  · rfl
theorem cntAt_eq (ts : List S44) (s : Int) : cntAt ts s = ts.countP (fun t => t.f0 == s) := by
  unfold cntAt cntTo
  rw [List.take_length]
theorem sin_moved {line : List Int} {ts : List S44} {i : Int} (h : MayP line ts i) : SinP line (movedV ts i) := by
  obtain ⟨hi, hii⟩ := may_lt h
  obtain ⟨hS, h01, hne, hlt⟩ := h
  have e : at_ ts i = ts[i.toNat] := at_int (by omega) (by omega)
  have hin := sin_in hS (i := i) (by omega) (by omega)
  have hcnt : ∀ s, (cntAt (movedV ts i) s : Int) = cntAt ts s - (if (at_ ts i).f0 = s then 1 else 0) + (if nextV (at_ ts i) = s then 1 else 0) := by
    intro s
    have hp : (at_ ts i).f0 = s → 1 ≤ ts.countP (fun t => t.f0 == s) := fun g => List.countP_pos_iff.2 ⟨ts[i.toNat], List.getElem_mem hi, by rw [← e]; simpa using g⟩
    rw [cntAt_eq, cntAt_eq]
    unfold movedV
    rw [List.countP_set hi, ← e]
    simp only [beq_iff_eq]
    by_cases g : (at_ ts i).f0 = s
    · have := hp g
      rw [if_pos g, if_pos g]
      split <;> omega
    · rw [if_neg g, if_neg g]
      split <;> omega
  have hne2 : nextV (at_ ts i) ≠ (at_ ts i).f0 := by unfold nextV; split <;> omega
  have hnx := next_in hin hne
  refine ⟨hS.1, by rw [moved_len]; exact hS.2.1, fun j hj => ?_⟩
  rw [moved_len] at hj
  have hold := hS.2.2 j hj
  by_cases ej : i.toNat = j
  · have ea : at_ (movedV ts i) (j : Int) = ⟨nextV (at_ ts i), (at_ ts i).f1⟩ := by
      rw [at_nat (by rw [moved_len]; exact hj), moved_get ts i j hj, if_pos ej]
    rw [ea]
    refine ⟨⟨hnx, hin.2⟩, ?_⟩
    dsimp only
    rw [hcnt, if_neg (fun g => hne2 g.symm), if_pos rfl]
    omega
  · have ea : at_ (movedV ts i) (j : Int) = at_ ts (j : Int) := by
      rw [at_nat (by rw [moved_len]; exact hj), moved_get ts i j hj, if_neg ej, at_nat hj]
    rw [ea]
    refine ⟨hold.1, ?_⟩
    rw [hcnt]
    by_cases g : nextV (at_ ts i) = (at_ ts (j : Int)).f0
    · rw [if_pos g, ← g, if_neg (fun q => hne2 q.symm)]
      omega
    · rw [if_neg g]
      have := hold.2
      split <;> omega
/-- They can all come home. -/
inductive CanP (line : List Int) : List S44 → Prop
  | done {ts : List S44} (h : DoneP ts) : CanP line ts
  | step {ts : List S44} {i : Int} (h : MayP line ts i) (hc : CanP line (movedV ts i)) : CanP line ts
theorem can_iff {line : List Int} {ts : List S44} (hd : ¬ DoneP ts) : CanP line ts ↔ ∃ j : Nat, j < ts.length ∧ MayP line ts (j : Int) ∧ CanP line (movedV ts (j : Int)) := by
  constructor
  · intro h
    cases h with
    | done h => exact absurd h hd
    | step h hc =>
      obtain ⟨h1, h2⟩ := may_lt h
      rw [← h2] at h hc
      exact ⟨_, h1, h, hc⟩
  · rintro ⟨j, _, h1, h2⟩
    exact .step h1 h2
def StP (line : List Int) (G : List Int) (us : List S44) : Prop := SinP line us ∧ us.map (fun t => t.f1) = G
theorem st_moved {line G : List Int} {ts : List S44} {i : Int} (h : StP line G ts) (hm : MayP line ts i) : StP line G (movedV ts i) := by
  obtain ⟨h1, h2⟩ := may_lt hm
  exact ⟨sin_moved hm, (moved_goals ts i h1 (by omega)).trans h.2⟩
theorem st_len {line G : List Int} {us : List S44} (h : StP line G us) : us.length = G.length := by
  have := congrArg List.length h.2
  simpa using this
theorem st_eq {line G : List Int} {us ts : List S44} (hu : StP line G us) (ht : StP line G ts) (h : ∀ j : Nat, j < ts.length → (at_ us (j : Int)).f0 = (at_ ts (j : Int)).f0) : us = ts := by
  have hl : us.length = ts.length := (st_len hu).trans (st_len ht).symm
  refine List.ext_getElem hl fun j h1 h2 => ?_
  have e0 := h j h2
  rw [at_nat h1, at_nat h2] at e0
  have e1 : us[j].f1 = ts[j].f1 := by
    have := hu.2.trans ht.2.symm
    have h3 : (us.map fun t => t.f1)[j]'(by simpa using h1) = (ts.map fun t => t.f1)[j]'(by simpa using h2) := by simp only [this]
    simpa using h3
  cases hx : us[j] with
  | mk a b => cases hy : ts[j] with
    | mk c d => rw [hx, hy] at e0 e1; simp at e0 e1; rw [e0, e1]
-- the program's key
def keyV (ts : List S44) : List Int := (List.range 4).map fun (j : Nat) => if j < ts.length then (at_ ts (j : Int)).f0 else 0
theorem key_len (ts : List S44) : (keyV ts).length = 4 := by simp [keyV]
theorem key_at (ts : List S44) {j : Nat} (h : j < 4) : at_ (keyV ts) (j : Int) = if j < ts.length then (at_ ts (j : Int)).f0 else 0 := by
  rw [at_nat (by rw [key_len]; exact h)]
  simp [keyV]
theorem key_inj {line G : List Int} {us ts : List S44} (hu : StP line G us) (ht : StP line G ts) (h : keyV us = keyV ts) : us = ts := by
  refine st_eq hu ht fun j hj => ?_
  have h4 := ht.1.2.1
  have hl : us.length = ts.length := (st_len hu).trans (st_len ht).symm
  have e := key_at us (j := j) (by omega)
  rw [h, key_at ts (by omega), if_pos hj, if_pos (by omega)] at e
  exact e.symm
theorem key_ok {line : List Int} {ts : List S44} (h : SinP line ts) : kOk1 4 (keyV ts) = true := by
  have hl := h.1.1
  unfold kOk1
  rw [Bool.and_eq_true, decide_eq_true_eq, List.all_eq_true]
  refine ⟨key_len ts, fun n hn => ?_⟩
  obtain ⟨j, _, rfl⟩ := List.mem_map.1 hn
  have : 0 ≤ (if j < ts.length then (at_ ts (j : Int)).f0 else 0) ∧ (if j < ts.length then (at_ ts (j : Int)).f0 else 0) ≤ 1000 := by
    split
    · rename_i g
      have := (h.2.2 j g).1.1
      omega
    · omega
  generalize (if j < ts.length then (at_ ts (j : Int)).f0 else 0) = q at this
  have h1 : IntKind.i64.min = -9223372036854775808 := by decide
  have h2 : IntKind.i64.max = 9223372036854775807 := by decide
  simp only [Lit.wf, Bool.and_eq_true, decide_eq_true_eq]
  omega
-- the program's search
def LostP (line G : List Int) (L : List (List Int)) : Prop := kOk 4 L = true ∧ ∀ us, StP line G us → keyV us ∈ L → ¬ CanP line us
theorem kHas_iff (L : List (List Int)) (x : List Int) : kHas L x = true ↔ x ∈ L := by
  unfold kHas
  rw [List.any_eq_true]
  constructor
  · rintro ⟨y, hy, h⟩
    rw [of_decide_eq_true h]; exact hy
  · intro h
    exact ⟨x, h, decide_eq_true rfl⟩
theorem lost_ins {line G : List Int} {L : List (List Int)} {ts : List S44} (h : LostP line G L) (ht : StP line G ts) (hn : ¬ CanP line ts) : LostP line G (kIns L (keyV ts)) := by
  unfold kIns
  split
  · exact h
  · refine ⟨?_, fun us hu hm => ?_⟩
    · have := h.1
      unfold kOk at this ⊢
      rw [List.all_append, this]
      simp [key_ok ht.1]
    · rcases List.mem_append.1 hm with g | g
      · exact h.2 us hu g
      · rw [List.mem_singleton] at g
        rw [key_inj hu ht g]; exact hn
/-- The least place whose move leads on. -/
def FirstP (line : List Int) (ts : List S44) (r : Int) : Prop := (0 ≤ r ∧ r < (ts.length : Int) ∧ MayP line ts r ∧ CanP line (movedV ts r) ∧ ∀ j : Nat, (j : Int) < r → ¬ (MayP line ts (j : Int) ∧ CanP line (movedV ts (j : Int)))) ∨
  (r = -1 ∧ ∀ j : Nat, j < ts.length → ¬ (MayP line ts (j : Int) ∧ CanP line (movedV ts (j : Int))))
theorem evx_first {line G : List Int} {ts : List S44} (ht : StP line G ts) (ih : ∀ us L, dist us < dist ts → StP line G us → LostP line G L → Evx (fun k => impl_search_canFinish.f k ⟨line, L⟩ us) (fun r => (r.1 = true ↔ CanP line us) ∧ r.2.1.f0 = line ∧ LostP line G r.2.2)) (L : List (List Int)) (hL : LostP line G L) :
    Evx (fun k => impl_search_first.f k ⟨line, L⟩ ts) (fun r => FirstP line ts r.1 ∧ r.2.1.f0 = line ∧ LostP line G r.2.2) := by
  classical
  have h4 := ht.1.2.1
  have hll := ht.1.1.1
  refine Evx.step (fun k => by simp only [impl_search_first.f]; rfl) ?_
  refine evx_loop (fun k i (s : List Int × List (List Int)) => impl_search_first.l0 k ts s.1 s.2 (i : Int)) ts.length (fun i s => s.1 = line ∧ LostP line G s.2 ∧ ∀ j : Nat, j < i → ¬ (MayP line ts (j : Int) ∧ CanP line (movedV ts (j : Int)))) _ ?_ ?_ (line, L) ⟨rfl, hL, fun j hj => by omega⟩
  · intro i s hi hI hn
    obtain ⟨l, M⟩ := s
    obtain ⟨i1, i2, i3⟩ := hI
    dsimp only at i1 i2
    subst i1
    have hin := sin_in ht.1 (i := (i : Int)) (by omega) (by omega)
    refine Evx.step (fun k => by simp only [impl_search_first.l0]; rfl) ?_
    rw [wrap_succ hi (by omega)]
    refine Evx.pos (by omega) (Evx.bindv (ev_impl_mayMove l ts (i : Int) (by omega) (by omega) ht.1 (by omega) (decide (MayP l ts (i : Int))) decide_eq_true_iff) ?_)
    by_cases hm : MayP l ts (i : Int)
    · rw [decide_eq_true hm]
      refine Evx.pos rfl (Evx.opt (eq_impl_moved ts (i : Int) (by omega) (by omega) (by omega) hin) ?_)
      have hd := dist_moved hm
      refine Evx.bind (ih (movedV ts (i : Int)) M (by omega) (st_moved ht hm) i2) (fun r ⟨r1, r2, r3⟩ => Evx.ite (fun g => Evx.val ⟨.inl ⟨by omega, by omega, hm, r1.1 g, fun j hj => i3 j (by omega)⟩, r2, r3⟩) (fun g => ?_))
      refine hn (r.2.1.f0, r.2.2) ⟨r2, r3, fun j hj => ?_⟩
      by_cases e : j = i
      · subst e; exact fun q => g (r1.2 q.2)
      · exact i3 j (by omega)
    · rw [decide_eq_false hm]
      refine Evx.neg (by decide) (hn (l, M) ⟨rfl, i2, fun j hj => ?_⟩)
      by_cases e : j = i
      · subst e; exact fun q => hm q.1
      · exact i3 j (by omega)
  · intro s hI
    obtain ⟨l, M⟩ := s
    obtain ⟨i1, i2, i3⟩ := hI
    dsimp only at i1 i2
    subst i1
    refine Evx.step (fun k => by simp only [impl_search_first.l0]; rfl) ?_
    exact Evx.neg (by omega) (Evx.val ⟨.inr ⟨rfl, i3⟩, rfl, i2⟩)
theorem evx_can {line G : List Int} : ∀ d ts L, dist ts < d → StP line G ts → LostP line G L → Evx (fun k => impl_search_canFinish.f k ⟨line, L⟩ ts) (fun r => (r.1 = true ↔ CanP line ts) ∧ r.2.1.f0 = line ∧ LostP line G r.2.2) := by
  classical
  intro d
  induction d with
  | zero => intro ts L h; omega
  | succ d ih =>
    intro ts L hd ht hL
    have h4 := ht.1.2.1
    have hll := ht.1.1.1
    refine Evx.step (fun k => by simp only [impl_search_canFinish.f]; rfl) ?_
    refine Evx.bindv (ev_impl_home ts (by omega) (decide (DoneP ts)) decide_eq_true_iff) ?_
    by_cases hD : DoneP ts
    · rw [decide_eq_true hD]
      exact Evx.pos rfl (Evx.val ⟨⟨fun _ => .done hD, fun _ => rfl⟩, rfl, hL⟩)
    · rw [decide_eq_false hD]
      refine Evx.neg (by decide) ?_
      refine evx_loop (fun k i (xs : List Int) => impl_search_canFinish.l0 k ⟨line, L⟩ ts xs (i : Int)) ts.length (fun i xs => xs.length = 4 ∧ ∀ j : Nat, j < 4 → at_ xs (j : Int) = if j < i then (at_ ts (j : Int)).f0 else 0) _ ?_ ?_ _ ⟨by simp, fun j hj => ?_⟩
      · intro i xs hi ⟨i1, i2⟩ hn
        refine Evx.step (fun k => by simp only [impl_search_canFinish.l0]; rfl) ?_
        rw [wrap_succ hi (by omega), Int.toNat_natCast]
        refine Evx.pos (by omega) (Evx.pos (by omega) (Evx.pos (by omega) (Evx.pos (by omega) (hn _ ⟨by rw [List.length_set]; exact i1, fun j hj => ?_⟩))))
        by_cases e : j = i
        · rw [e, at_set_eq (by omega), if_pos (by omega)]
        · rw [at_set_ne (by omega) (by omega), i2 j hj]
          by_cases g : j < i
          · rw [if_pos g, if_pos (by omega)]
          · rw [if_neg g, if_neg (by omega)]
      · intro xs ⟨i1, i2⟩
        have e : xs = keyV ts := by
          refine List.ext_getElem (by rw [i1, key_len]) fun j h1 h2 => ?_
          have := (i2 j (by omega)).trans (key_at ts (j := j) (by omega)).symm
          rwa [at_nat h1, at_nat h2] at this
        subst e
        refine Evx.step (fun k => by simp only [impl_search_canFinish.l0]; rfl) ?_
        refine Evx.neg (by omega) (Evx.pos (key_len ts) (Evx.pos hL.1 (Evx.pos (key_ok ht.1) (Evx.ite (fun g => ?_) (fun g => ?_)))))
        · have hn := hL.2 ts ht ((kHas_iff _ _).1 g)
          exact Evx.val ⟨⟨fun q => (by cases q), fun q => absurd q hn⟩, rfl, hL⟩
        · refine Evx.bind (evx_first ht (fun us M h1 h2 h3 => ih us M (by omega) h2 h3) L hL) (fun r ⟨r1, r2, r3⟩ => Evx.ite (fun g2 => ?_) (fun g2 => ?_))
          · have hc : CanP line ts := by
              rcases r1 with ⟨_, _, q1, q2, _⟩ | ⟨q, _⟩
              · exact .step q1 q2
              · omega
            exact Evx.val ⟨⟨fun _ => hc, fun _ => rfl⟩, r2, r3⟩
          · have hn : ¬ CanP line ts := by
              rcases r1 with ⟨q, _⟩ | ⟨_, q⟩
              · omega
              · intro hc
                obtain ⟨j, j1, j2, j3⟩ := (can_iff hD).1 hc
                exact q j j1 ⟨j2, j3⟩
            exact Evx.pos r3.1 (Evx.val ⟨⟨fun q => (by cases q), fun q => absurd q hn⟩, r2, lost_ins r3 ht hn⟩)
      · rw [at_rep 4 0 (by omega) (by omega), if_neg (by omega)]
theorem lost_nil (line G : List Int) : LostP line G [] := ⟨rfl, fun us _ h => by simp at h⟩
-- the reference's search
def keyTo (b : Int) (ts : List S44) : Nat → Int
  | 0 => 0
  | i + 1 => keyTo b ts i * b + (at_ ts (i : Int)).f0
def powTo (b : Int) : Nat → Int
  | 0 => 1
  | i + 1 => powTo b i * b
def baseV (line : List Int) : Int := 2 * (line.length : Int) - 1
def keyN (line : List Int) (ts : List S44) : Int := keyTo (baseV line) ts ts.length
theorem pow_small {b : Int} (hb : 3 ≤ b ∧ b ≤ 9) : ∀ i, i ≤ 4 → 1 ≤ powTo b i ∧ powTo b i ≤ 6561 := by
  have hc : b = 3 ∨ b = 4 ∨ b = 5 ∨ b = 6 ∨ b = 7 ∨ b = 8 ∨ b = 9 := by omega
  intro i hi
  have hi2 : i = 0 ∨ i = 1 ∨ i = 2 ∨ i = 3 ∨ i = 4 := by omega
  rcases hc with rfl | rfl | rfl | rfl | rfl | rfl | rfl <;> rcases hi2 with rfl | rfl | rfl | rfl | rfl <;> decide
theorem base_bd {line : List Int} (h : LineP line) : 3 ≤ baseV line ∧ baseV line ≤ 9 := by
  have := h.1
  unfold baseV
  omega
theorem key_bd {line : List Int} {ts : List S44} (h : SinP line ts) : ∀ i, i ≤ ts.length → 0 ≤ keyTo (baseV line) ts i ∧ keyTo (baseV line) ts i < powTo (baseV line) i
  | 0, _ => by unfold keyTo powTo; omega
  | i + 1, hi => by
    have ih := key_bd h i (by omega)
    have hin := (sin_in h (i := (i : Int)) (by omega) (by omega)).1
    have hb := base_bd h.1
    unfold keyTo powTo
    have e : baseV line = 2 * (line.length : Int) - 1 := rfl
    have h1 : 0 ≤ keyTo (baseV line) ts i * baseV line := Int.mul_nonneg ih.1 (by omega)
    have h2 : (keyTo (baseV line) ts i + 1) * baseV line ≤ powTo (baseV line) i * baseV line := Int.mul_le_mul_of_nonneg_right (by omega) (by omega)
    rw [Int.add_mul, Int.one_mul] at h2
    omega
theorem dig_inj {b p q x y : Int} (hb : 0 < b) (hx : 0 ≤ x ∧ x < b) (hy : 0 ≤ y ∧ y < b) (h : p * b + x = q * b + y) : p = q ∧ x = y := by
  have h1 : (p * b + x) % b = x := by rw [Int.add_comm, Int.add_mul_emod_self_right, Int.emod_eq_of_lt hx.1 hx.2]
  have h2 : (q * b + y) % b = y := by rw [Int.add_comm, Int.add_mul_emod_self_right, Int.emod_eq_of_lt hy.1 hy.2]
  have e : x = y := h1.symm.trans ((congrArg (· % b) h).trans h2)
  have h3 : p * b = q * b := by omega
  exact ⟨Int.eq_of_mul_eq_mul_right (by omega) h3, e⟩
theorem keyN_inj {line G : List Int} {us ts : List S44} (hu : StP line G us) (ht : StP line G ts) (h : keyN line us = keyN line ts) : us = ts := by
  have hl : us.length = ts.length := (st_len hu).trans (st_len ht).symm
  have hb := base_bd ht.1.1
  have e : baseV line = 2 * (line.length : Int) - 1 := rfl
  have key : ∀ i, i ≤ ts.length → keyTo (baseV line) us i = keyTo (baseV line) ts i → ∀ j : Nat, j < i → (at_ us (j : Int)).f0 = (at_ ts (j : Int)).f0 := by
    intro i
    induction i with
    | zero => intro _ _ j hj; omega
    | succ i ih =>
      intro hi hk j hj
      have h1 := (sin_in hu.1 (i := (i : Int)) (by omega) (by omega)).1
      have h2 := (sin_in ht.1 (i := (i : Int)) (by omega) (by omega)).1
      obtain ⟨g1, g2⟩ := dig_inj (by omega) (by omega) (by omega) hk
      by_cases ej : j = i
      · subst ej; exact g2
      · exact ih (by omega) g1 j (by omega)
  unfold keyN at h
  rw [hl] at h
  exact st_eq hu ht (key ts.length (Nat.le_refl _) h)
theorem ev_spec_l07Key {line : List Int} {ts : List S44} (h : SinP line ts) : Ev (fun k => spec_l07Key.f k line ts) (keyN line ts) := by
  have h4 := h.2.1
  have hll := h.1.1
  have hb := base_bd h.1
  unfold spec_l07Key.f
  refine ev_fold (fun k i => spec_l07Key.l0 k line ts (keyTo (baseV line) ts i) (i : Int)) ts.length ?_ ?_
  · intro i hi hn
    have hk := key_bd h i (by omega)
    have hp := pow_small hb i (by omega)
    have hk2 := key_bd h (i + 1) (by omega)
    have hp2 := pow_small hb (i + 1) (by omega)
    have hin := (sin_in h (i := (i : Int)) (by omega) (by omega)).1
    have e : baseV line = 2 * (line.length : Int) - 1 := rfl
    have hm0 : 0 ≤ keyTo (baseV line) ts i * baseV line := Int.mul_nonneg hk.1 (by omega)
    have e2 : keyTo (baseV line) ts (i + 1) = keyTo (baseV line) ts i * baseV line + (at_ ts (i : Int)).f0 := rfl
    refine Ev.step (fun k => by simp only [spec_l07Key.l0]; rfl) ?_
    rw [wrap_succ hi (by omega), wrap_id (x := 2 * (line.length : Int)) (by omega) (by omega), wrap_id (x := 2 * (line.length : Int) - 1) (by omega) (by omega), ← e, wrap_id (x := keyTo (baseV line) ts i * baseV line) (by omega) (by omega), wrap_id (x := keyTo (baseV line) ts i * baseV line + (at_ ts (i : Int)).f0) (by omega) (by omega), ← e2]
    exact Ev.pos (by omega) (Ev.pos (by omega) hn)
  · refine Ev.step (fun k => by simp only [spec_l07Key.l0]; rfl) ?_
    exact Ev.neg (by omega) (ev_val rfl)
def SeenB (line : List Int) (seen : List Bool) (us : List S44) : Prop := at_ seen (keyN line us) = true
theorem evx_search {line G : List Int} : ∀ d ts seen, dist ts < d → StP line G ts → (seen.length : Int) = powTo (baseV line) ts.length → (∀ us, StP line G us → SeenB line seen us → dist us < dist ts → ¬ CanP line us) →
    Evx (fun k => spec_l07Search.f k line ts seen) (fun r => r.2.length = seen.length ∧ (r.1 = true ↔ CanP line ts) ∧ (r.1 = false → ∀ us, StP line G us → SeenB line r.2 us → SeenB line seen us ∨ ¬ CanP line us)) := by
  classical
  intro d
  induction d with
  | zero => intro ts seen h; omega
  | succ d ih =>
    intro ts seen hd ht hlen hpre
    have h4 := ht.1.2.1
    have hll := ht.1.1.1
    have hb := base_bd ht.1.1
    have hkb : ∀ us, StP line G us → 0 ≤ keyN line us ∧ keyN line us < (seen.length : Int) := by
      intro us hu
      have := key_bd hu.1 us.length (Nat.le_refl _)
      have e : us.length = ts.length := (st_len hu).trans (st_len ht).symm
      rw [hlen]
      unfold keyN
      rw [e] at this ⊢
      exact this
    have hk := hkb ts ht
    refine Evx.step (fun k => by simp only [spec_l07Search.f]; rfl) ?_
    refine Evx.bindv (ev_spec_l07Done ts (by omega) (decide (DoneP ts)) decide_eq_true_iff) ?_
    by_cases hD : DoneP ts
    · rw [decide_eq_true hD]
      exact Evx.pos rfl (Evx.val ⟨rfl, ⟨fun _ => .done hD, fun _ => rfl⟩, fun q => by cases q⟩)
    · rw [decide_eq_false hD]
      refine Evx.neg (by decide) (Evx.bindv (ev_spec_l07Key ht.1) (Evx.pos hk.1 (Evx.pos hk.2 ?_)))
      have hset : ∀ (xs : List Bool) us, StP line G us → xs.length = seen.length → SeenB line (xs.set (keyN line ts).toNat true) us → SeenB line xs us ∨ us = ts := by
        intro xs us hu hl h
        by_cases e : us = ts
        · exact .inr e
        · refine .inl ?_
          unfold SeenB at h ⊢
          rwa [at_set_ne (hkb us hu).1 (fun g => e (keyN_inj hu ht (by omega)))] at h
      refine evx_loop (fun k i (s : List Bool) => spec_l07Search.l0 k line ts s (i : Int)) ts.length (fun i s => s.length = seen.length ∧ (∀ us, StP line G us → SeenB line s us → SeenB line seen us ∨ us = ts ∨ ¬ CanP line us) ∧ ∀ j : Nat, j < i → ¬ (MayP line ts (j : Int) ∧ CanP line (movedV ts (j : Int)))) _ ?_ ?_ _ ⟨List.length_set .., fun us hu h => (hset seen us hu rfl h).imp id .inl, fun j hj => by omega⟩
      · intro i s hi ⟨i1, i2, i3⟩ hn
        obtain ⟨r, r1, r2⟩ := moveR line ts (i : Int)
        refine Evx.step (fun k => by simp only [spec_l07Search.l0]; rfl) ?_
        rw [wrap_succ hi (by omega)]
        refine Evx.pos (by omega) (Evx.bindv (ev_spec_MoveOn line ts (i : Int) (by omega) (by omega) r r1 r2) ?_)
        by_cases hm : MayP line ts (i : Int)
        · rw [r1 hm]
          have hst := st_moved ht hm
          have hdm := dist_moved hm
          have hkm := hkb _ hst
          refine Evx.pos rfl (Evx.bindv (ev_spec_l07Key hst.1) (Evx.pos hkm.1 (Evx.pos (by dsimp only; omega) (Evx.ite (fun g => ?_) (fun g => ?_)))))
          · refine hn s ⟨i1, i2, fun j hj => ?_⟩
            by_cases e : j = i
            · subst e
              rintro ⟨_, hc⟩
              rcases i2 _ hst g with q | q | q
              · exact hpre _ hst q (by omega) hc
              · have := congrArg dist q; omega
              · exact q hc
            · exact i3 j (by omega)
          · refine Evx.bind (ih (movedV ts (i : Int)) s (by omega) hst (by rw [i1, hlen, moved_len]) (fun us hu hs hlt => ?_)) (fun r ⟨q1, q2, q3⟩ => Evx.ite (fun g2 => ?_) (fun g2 => ?_))
            · rcases i2 us hu hs with q | q | q
              · exact hpre us hu q (by omega)
              · subst q; omega
              · exact q
            · exact Evx.val ⟨q1.trans i1, ⟨fun _ => .step hm (q2.1 g2), fun _ => rfl⟩, fun q => by cases q⟩
            · have hf : r.1 = false := by simpa using g2
              refine hn r.2 ⟨q1.trans i1, fun us hu hs => ?_, fun j hj => ?_⟩
              · rcases q3 hf us hu hs with q | q
                · exact i2 us hu q
                · exact .inr (.inr q)
              · by_cases e : j = i
                · subst e; exact fun q => g2 (q2.2 q.2)
                · exact i3 j (by omega)
        · rw [r2 hm]
          refine Evx.neg (by decide) (hn s ⟨i1, i2, fun j hj => ?_⟩)
          by_cases e : j = i
          · subst e; exact fun q => hm q.1
          · exact i3 j (by omega)
      · intro s ⟨i1, i2, i3⟩
        have hn : ¬ CanP line ts := by
          intro hc
          obtain ⟨j, j1, j2, j3⟩ := (can_iff hD).1 hc
          exact i3 j j1 ⟨j2, j3⟩
        refine Evx.step (fun k => by simp only [spec_l07Search.l0]; rfl) ?_
        refine Evx.neg (by omega) (Evx.val ⟨i1, ⟨fun q => (by cases q), fun q => absurd q hn⟩, fun _ us hu hs => ?_⟩)
        rcases i2 us hu hs with q | q | q
        · exact .inl q
        · exact .inr (by rw [q]; exact hn)
        · exact .inr q
theorem ev_spec_CanFinish (line : List Int) (ts : List S44) (hl : line.length ≤ 1048576) (ht : ts.length ≤ 1048576) (b : Bool) (hb : b = true ↔ SinP line ts ∧ CanP line ts) : Ev (fun k => spec_CanFinish.f k line ts) b := by
  classical
  unfold spec_CanFinish.f
  by_cases hS : SinP line ts
  · have h4 := hS.2.1
    have hll := hS.1.1
    have hbs := base_bd hS.1
    have e : baseV line = 2 * (line.length : Int) - 1 := rfl
    refine Ev.bind (ev_spec_SinglesOk line ts hl ht true (by simp [hS])) (Ev.pos rfl (Evx.ev ?_))
    refine evx_loop (fun k i (_ : Unit) => spec_CanFinish.l0 k line ts (powTo (baseV line) i) (i : Int)) ts.length (fun _ _ => True) _ ?_ ?_ () trivial
    · intro i _ hi _ hn
      have hp := pow_small hbs i (by omega)
      have hp2 := pow_small hbs (i + 1) (by omega)
      have e2 : powTo (baseV line) (i + 1) = powTo (baseV line) i * baseV line := rfl
      refine Evx.step (fun k => by simp only [spec_CanFinish.l0]; rfl) ?_
      rw [wrap_succ hi (by omega), wrap_id (x := 2 * (line.length : Int)) (by omega) (by omega), wrap_id (x := 2 * (line.length : Int) - 1) (by omega) (by omega), ← e, ← e2, wrap_id (x := powTo (baseV line) (i + 1)) (by omega) (by omega)]
      exact Evx.pos (by omega) (hn () trivial)
    · intro _ _
      have hp := pow_small hbs ts.length (by omega)
      refine Evx.step (fun k => by simp only [spec_CanFinish.l0]; rfl) ?_
      refine Evx.neg (by omega) (Evx.pos (by omega) (Evx.pos (by omega) (Evx.bind (evx_search (G := ts.map fun t => t.f1) (dist ts + 1) ts _ (by omega) ⟨hS, rfl⟩ (by rw [List.length_replicate]; omega) (fun us hu hs _ => ?_)) (fun r ⟨_, q, _⟩ => Evx.val ?_))))
      · have hk := key_bd hu.1 us.length (Nat.le_refl _)
        have el : us.length = ts.length := by have := st_len hu; simpa using this
        unfold SeenB keyN at hs
        rw [el] at hk hs
        rw [at_rep _ _ hk.1 (by omega)] at hs
        cases hs
      · have : r.1 = true ↔ b = true := by rw [q, hb]; exact ⟨fun g => ⟨hS, g⟩, fun g => g.2⟩
        cases hr : r.1 <;> cases hbb : b <;> simp [hr, hbb] at this ⊢
  · have hf : b = false := by
      cases hbb : b with
      | false => rfl
      | true => exact absurd (hb.1 hbb).1 hS
    rw [hf]
    exact Ev.bind (ev_spec_SinglesOk line ts hl ht false (by simp [hS])) (Ev.neg (by decide) (ev_val rfl))
-- the first move
theorem first_uniq {line : List Int} {ts : List S44} {r s : Int} (h : FirstP line ts r) (h' : FirstP line ts s) : r = s := by
  rcases h with ⟨a1, a2, a3, a4, a5⟩ | ⟨a1, a2⟩
  · have ea : ((r.toNat : Nat) : Int) = r := by omega
    rcases h' with ⟨b1, b2, b3, b4, b5⟩ | ⟨b1, b2⟩
    · have eb : ((s.toNat : Nat) : Int) = s := by omega
      rcases Int.lt_trichotomy r s with g | g | g
      · exact absurd ⟨by rw [ea]; exact a3, by rw [ea]; exact a4⟩ (b5 r.toNat (by omega))
      · exact g
      · exact absurd ⟨by rw [eb]; exact b3, by rw [eb]; exact b4⟩ (a5 s.toNat (by omega))
    · exact absurd ⟨by rw [ea]; exact a3, by rw [ea]; exact a4⟩ (b2 r.toNat (by omega))
  · rcases h' with ⟨b1, b2, b3, b4, b5⟩ | ⟨b1, b2⟩
    · have eb : ((s.toNat : Nat) : Int) = s := by omega
      exact absurd ⟨by rw [eb]; exact b3, by rw [eb]; exact b4⟩ (a2 s.toNat (by omega))
    · omega
theorem ev_spec_FirstMove (line : List Int) (ts : List S44) (hl : line.length ≤ 1048576) (ht : ts.length ≤ 1048576) (w : Int) (hw : FirstP line ts w) : Ev (fun k => spec_FirstMove.f k line ts) w := by
  classical
  unfold spec_FirstMove.f
  refine Evx.ev (evx_loop (fun k i (_ : Unit) => spec_FirstMove.l0 k line ts (i : Int)) ts.length (fun i _ => ∀ j : Nat, j < i → ¬ (MayP line ts (j : Int) ∧ CanP line (movedV ts (j : Int)))) _ ?_ ?_ () (fun j hj => by omega))
  · intro i _ hi hI hn
    obtain ⟨r, r1, r2⟩ := moveR line ts (i : Int)
    refine Evx.step (fun k => by simp only [spec_FirstMove.l0]; rfl) ?_
    rw [wrap_succ hi (by omega)]
    refine Evx.pos (by omega) (Evx.bindv (ev_spec_MoveOn line ts (i : Int) hl ht r r1 r2) ?_)
    by_cases hm : MayP line ts (i : Int)
    · rw [r1 hm]
      have hs := sin_moved hm
      refine Evx.pos rfl (Evx.bindv (ev_spec_CanFinish line (movedV ts (i : Int)) hl (by rw [moved_len]; exact ht) (decide (CanP line (movedV ts (i : Int)))) (by rw [decide_eq_true_eq]; exact ⟨fun q => ⟨hs, q⟩, fun q => q.2⟩)) ?_)
      by_cases hc : CanP line (movedV ts (i : Int))
      · rw [decide_eq_true hc]
        exact Evx.pos rfl (Evx.val (first_uniq (.inl ⟨by omega, by omega, hm, hc, fun j hj => hI j (by omega)⟩) hw))
      · rw [decide_eq_false hc]
        refine Evx.neg (by decide) (hn () (fun j hj => ?_))
        by_cases e : j = i
        · subst e; exact fun q => hc q.2
        · exact hI j (by omega)
    · rw [r2 hm]
      refine Evx.neg (by decide) (hn () (fun j hj => ?_))
      by_cases e : j = i
      · subst e; exact fun q => hm q.1
      · exact hI j (by omega)
  · intro _ hI
    refine Evx.step (fun k => by simp only [spec_FirstMove.l0]; rfl) ?_
    exact Evx.neg (by omega) (Evx.val (first_uniq (.inr ⟨rfl, hI⟩) hw))
-- the way home
inductive WayP (line : List Int) : List S44 → List Int → Prop
  | done {ts : List S44} (h : DoneP ts) : WayP line ts []
  | step {ts : List S44} {i : Int} {w : List Int} (hd : ¬ DoneP ts) (hf : FirstP line ts i) (h0 : 0 ≤ i) (h : WayP line (movedV ts i) w) : WayP line ts (i :: w)
theorem first_may {line : List Int} {ts : List S44} {i : Int} (h : FirstP line ts i) (h0 : 0 ≤ i) : MayP line ts i ∧ CanP line (movedV ts i) := by
  rcases h with ⟨_, _, a, b, _⟩ | ⟨a, _⟩
  · exact ⟨a, b⟩
  · omega
theorem dist_done {ts : List S44} (h : DoneP ts) : dist ts = 0 := by
  unfold dist
  have : ts.map (fun t => (t.f0 - t.f1).natAbs) = List.replicate ts.length 0 := by
    refine List.ext_getElem (by simp) fun j h1 h2 => ?_
    have hj : j < ts.length := by simpa using h1
    have := h j hj
    rw [at_nat hj] at this
    simp [this]
  rw [this]
  simp
theorem sum_zero : ∀ (l : List Nat), l.sum = 0 → ∀ j (h : j < l.length), l[j] = 0
  | x :: r, h, 0, _ => by simp at h; simpa using h.1
  | x :: r, h, j + 1, hj => by
    have h2 : r.sum = 0 := by simp only [List.sum_cons] at h; omega
    simpa using sum_zero r h2 j (by simpa using hj)
theorem dist_zero {ts : List S44} (h : dist ts = 0) : DoneP ts := by
  intro j hj
  have := sum_zero _ h j (by simpa using hj)
  rw [List.getElem_map] at this
  rw [at_nat hj]
  omega
theorem sum_le (m : Nat) : ∀ (l : List Nat), (∀ x, x ∈ l → x ≤ m) → l.sum ≤ m * l.length
  | [], _ => by simp
  | x :: r, h => by
    have h1 := h x (by simp)
    have h2 := sum_le m r (fun y hy => h y (List.mem_cons_of_mem _ hy))
    simp only [List.sum_cons, List.length_cons, Nat.mul_succ]
    omega
theorem dist_le {line : List Int} {ts : List S44} (h : SinP line ts) : dist ts ≤ 32 := by
  have h4 := h.2.1
  have hll := h.1.1
  have := sum_le 8 (ts.map fun t => (t.f0 - t.f1).natAbs) (fun x hx => by
    obtain ⟨t, ht, rfl⟩ := List.mem_map.1 hx
    obtain ⟨j, hj, e⟩ := mem_at.1 ht
    have hin := (h.2.2 j hj).1
    rw [e] at hin
    obtain ⟨a, b, _⟩ := hin
    omega)
  rw [List.length_map] at this
  unfold dist
  omega
theorem way_len {line : List Int} {ts : List S44} {w : List Int} (h : WayP line ts w) : w.length = dist ts := by
  induction h with
  | done h => rw [dist_done h]; rfl
  | step hd hf h0 _ ih =>
    have := dist_moved (first_may hf h0).1
    rw [List.length_cons, ih]
    exact this
theorem first_ex {line : List Int} {ts : List S44} (hS : SinP line ts) : ∃ r, FirstP line ts r := by
  obtain ⟨r, _, h, _⟩ := evx_first (G := ts.map fun t => t.f1) ⟨hS, rfl⟩ (fun us M h1 h2 h3 => evx_can (dist ts) us M h1 h2 h3) [] (lost_nil _ _)
  exact ⟨r.1, h⟩
theorem way_ex {line : List Int} : ∀ d ts, dist ts < d → SinP line ts → CanP line ts → ∃ w, WayP line ts w := by
  classical
  intro d
  induction d with
  | zero => intro ts h; omega
  | succ d ih =>
    intro ts hd hS hc
    have h4 := hS.2.1
    have hll := hS.1.1
    by_cases hD : DoneP ts
    · exact ⟨[], .done hD⟩
    · obtain ⟨r, hr⟩ := first_ex hS
      have h0 : 0 ≤ r := by
        rcases hr with ⟨a, _⟩ | ⟨_, b⟩
        · exact a
        · obtain ⟨j, j1, j2, j3⟩ := (can_iff hD).1 hc
          exact absurd ⟨j2, j3⟩ (b j j1)
      obtain ⟨hm, hc2⟩ := first_may hr h0
      have := dist_moved hm
      obtain ⟨w, hw⟩ := ih (movedV ts r) (by omega) (sin_moved hm) hc2
      exact ⟨r :: w, .step hD hr h0 hw⟩
theorem ev_impl_fin {line G : List Int} {ts : List S44} {w : List Int} (h : WayP line ts w) : ∀ (acc : List Int) (L : List (List Int)), StP line G ts → LostP line G L → acc.length + w.length ≤ 1000 → Ev (fun k => impl_Finish.l0 k L line acc ts) (acc ++ w) := by
  classical
  induction h with
  | @done ts h =>
    intro acc L ht hL hl
    have h4 := ht.1.2.1
    refine Ev.step (fun k => by simp only [impl_Finish.l0]; rfl) ?_
    rw [List.append_nil]
    exact Ev.bind (ev_impl_home ts (by omega) true (by simp [h])) (Ev.pos rfl (ev_val rfl))
  | @step ts i w hd hf h0 _ ih =>
    intro acc L ht hL hl
    have h4 := ht.1.2.1
    have hll := ht.1.1.1
    obtain ⟨hm, hc⟩ := first_may hf h0
    have hi := hm.2.1
    rw [List.length_cons] at hl
    refine Ev.step (fun k => by simp only [impl_Finish.l0]; rfl) (Evx.ev ?_)
    refine Evx.bindv (ev_impl_home ts (by omega) false (by simp [hd])) (Evx.neg (by decide) ?_)
    refine Evx.bind (evx_first ht (fun us M h1 h2 h3 => evx_can (dist ts) us M h1 h2 h3) L hL) (fun r ⟨q1, q2, q3⟩ => ?_)
    have e := first_uniq q1 hf
    rw [q2, e]
    refine Evx.neg (by omega) (Evx.pos (by simp only [List.length_cons, List.length_nil]; omega) (Evx.opt (eq_impl_moved ts i (by omega) (by omega) hi (sin_in ht.1 (by omega) (by omega))) ?_))
    have := ih (acc ++ [i]) r.2.2 (st_moved ht hm) q3 (by simp only [List.length_append, List.length_singleton]; omega)
    rw [List.append_assoc] at this
    exact Evx.of this rfl
theorem ev_impl_Finish1 {line : List Int} {ts : List S44} {w : List Int} (hS : SinP line ts) (h : WayP line ts w) : Ev (fun k => impl_Finish.f k line ts) w := by
  have h4 := hS.2.1
  have hll := hS.1.1
  have hd := dist_le hS
  have hw := way_len h
  unfold impl_Finish.f impl_newSearch.f
  refine Ev.bind (ev_impl_SinglesOk line ts (by omega) (by omega) true (by simp [hS])) (Ev.pos rfl (Ev.opt rfl ?_))
  have := ev_impl_fin (G := ts.map fun t => t.f1) h [] [] ⟨hS, rfl⟩ (lost_nil _ _) (by simp; omega)
  simpa using this
theorem ev_impl_Finish0 {line : List Int} {ts : List S44} (hl : line.length ≤ 1048576) (ht : ts.length ≤ 1048576) (h : ¬ (SinP line ts ∧ CanP line ts)) : Ev (fun k => impl_Finish.f k line ts) [] := by
  classical
  unfold impl_Finish.f impl_newSearch.f
  by_cases hS : SinP line ts
  · have hn : ¬ CanP line ts := fun q => h ⟨hS, q⟩
    have hD : ¬ DoneP ts := fun q => hn (.done q)
    refine Ev.bind (ev_impl_SinglesOk line ts hl ht true (by simp [hS])) (Ev.pos rfl (Ev.opt rfl (Ev.step (fun k => by simp only [impl_Finish.l0]; rfl) (Evx.ev ?_))))
    refine Evx.bindv (ev_impl_home ts ht false (by simp [hD])) (Evx.neg (by decide) ?_)
    refine Evx.bind (evx_first (G := ts.map fun t => t.f1) ⟨hS, rfl⟩ (fun us M h1 h2 h3 => evx_can (dist ts) us M h1 h2 h3) [] (lost_nil _ _)) (fun r ⟨q1, q2, q3⟩ => ?_)
    have : r.1 = -1 := by
      rcases q1 with ⟨_, _, a, b, _⟩ | ⟨a, _⟩
      · exact absurd (CanP.step a b) hn
      · exact a
    exact Evx.pos (by omega) (Evx.val rfl)
  · exact Ev.bind (ev_impl_SinglesOk line ts hl ht false (by simp [hS])) (Ev.neg (by decide) (ev_val rfl))
-- .. as the reference tells it
theorem ev_spec_fin {line : List Int} {ts : List S44} {w : List Int} (h : WayP line ts w) : ∀ (acc : List Int), SinP line ts → acc.length + w.length ≤ 1000 → Ev (fun k => spec_Finish.l0 k line acc ts) (acc ++ w) := by
  classical
  induction h with
  | @done ts h =>
    intro acc hS hl
    have h4 := hS.2.1
    refine Ev.step (fun k => by simp only [spec_Finish.l0]; rfl) ?_
    rw [List.append_nil]
    exact Ev.bind (ev_spec_l07Done ts (by omega) true (by simp [h])) (Ev.pos rfl (ev_val rfl))
  | @step ts i w hd hf h0 _ ih =>
    intro acc hS hl
    have h4 := hS.2.1
    have hll := hS.1.1
    obtain ⟨hm, hc⟩ := first_may hf h0
    rw [List.length_cons] at hl
    refine Ev.step (fun k => by simp only [spec_Finish.l0]; rfl) ?_
    refine Ev.bind (ev_spec_l07Done ts (by omega) false (by simp [hd])) (Ev.neg (by decide) (Ev.bind (ev_spec_FirstMove line ts (by omega) (by omega) i hf) (Ev.pos (by simp only [List.length_cons, List.length_nil]; omega) (Ev.bind (ev_spec_MoveOn line ts i (by omega) (by omega) (movedV ts i, true) (fun _ => rfl) (fun q => absurd hm q)) ?_))))
    have := ih (acc ++ [i]) (sin_moved hm) (by simp only [List.length_append, List.length_singleton]; omega)
    rw [List.append_assoc] at this
    exact this
theorem main_FnExactFinish (x0 : (List Int)) (x1 : (List S44)) (h0 : (x0.length ≤ maxLen ∧ ∀ y ∈ x0, (Lit.int .i64 y).wf = true)) (h1 : (x1.length ≤ maxLen ∧ ∀ y ∈ x1, ok44 y)) (b0 : (x0.length ≤ 1048576)) (b1 : (x1.length ≤ 1048576)) : ∃ w, Ev (fun k => spec_Finish.f k x0 x1) w ∧ Ev (fun k => impl_Finish.f k x0 x1) w ∧ (w.length ≤ 1048576) := by
  classical
  by_cases h : SinP x0 x1 ∧ CanP x0 x1
  · obtain ⟨w, hw⟩ := way_ex (dist x1 + 1) x1 (by omega) h.1 h.2
    have hl := way_len hw
    have hd := dist_le h.1
    refine ⟨w, ?_, ev_impl_Finish1 h.1 hw, by omega⟩
    unfold spec_Finish.f
    have := ev_spec_fin hw [] h.1 (by simp; omega)
    exact Ev.bind (ev_spec_CanFinish x0 x1 b0 b1 true (by simp [h])) (Ev.pos rfl (by simpa using this))
  · refine ⟨[], ?_, ev_impl_Finish0 b0 b1 h, by decide⟩
    unfold spec_Finish.f
    exact Ev.bind (ev_spec_CanFinish x0 x1 b0 b1 false (by simp only [Bool.false_eq_true, false_iff]; exact h)) (Ev.neg (by decide) (ev_val rfl))
theorem pure_FnExactFinish : Pure := by
  intro x0 x1 h0 h1
  refine Ev.rounds ?_
  unfold laws_FnExactFinish.f
  refine Ev.ite (fun _ => ev_val rfl) (fun g0 => ?_)
  have b0 : (x0.length ≤ 1048576) := by omega
  obtain ⟨r1, e1, hr1⟩ := sz_SingleS x1 1048576 (by omega) (by omega) h1
  refine Ev.bind e1 ?_
  refine Ev.ite (fun _ => ev_val rfl) (fun g1 => ?_)
  obtain ⟨p1, q1, b1⟩ := hr1.resolve_left g1
  obtain ⟨w, es, ei, hb⟩ := main_FnExactFinish x0 x1 h0 h1 b0 b1
  refine Ev.bind (to_IntS x0 b0) ?_
  refine Ev.bind (to_SingleS x1 b1) ?_
  refine Ev.bind es ?_
  refine Ev.bind (to_IntS x0 b0) ?_
  refine Ev.bind (to_SingleS x1 b1) ?_
  refine Ev.bind ei ?_
  refine Ev.bind (eq_IntS _ (by first | exact hb | exact hb.1 | exact hb.2 | trivial)) ?_
  refine Ev.pos (by first | rfl | simp [sEq] | omega) ?_
  refine Ev.bind (to_IntS x0 b0) ?_
  refine Ev.bind (eq_IntS _ b0) ?_
  refine Ev.pos (by first | rfl | simp [sEq] | omega) ?_
  refine Ev.bind (to_SingleS x1 b1) ?_
  refine Ev.bind (eq_SingleS _ b1) ?_
  refine Ev.pos (by first | rfl | simp [sEq] | omega) ?_
  refine Ev.bind (mark_IntS _ (by first | omega | (have := hb; omega) | (have := hb.1; omega) | (have := hb.2; omega) | (rw [List.length_map]; omega)) _ (by first | omega | (dsimp only; omega)) (by first | omega | (dsimp only; omega))) ?_
  refine Ev.bind (mark_SingleS _ (by first | omega | (have := hb; omega) | (have := hb.1; omega) | (have := hb.2; omega) | (rw [List.length_map]; omega)) _ (by first | omega | (dsimp only; omega)) (by first | omega | (dsimp only; omega))) ?_
  refine Ev.neg (by first | omega | simp [sEq]) ?_
  refine Ev.bind (eq_IntS _ (by first | exact hb | exact hb.1 | exact hb.2 | trivial)) ?_
  refine Ev.pos (by first | rfl | simp [sEq] | omega) ?_
  refine Ev.bind (mark_IntS _ (by first | omega | (have := hb; omega) | (have := hb.1; omega) | (have := hb.2; omega) | (rw [List.length_map]; omega)) _ (by first | omega | (dsimp only; omega)) (by first | omega | (dsimp only; omega))) ?_
  refine Ev.bind (held_IntS _ (by first | omega | (have := hb; omega) | (have := hb.1; omega) | (have := hb.2; omega)) _ (by first | omega | (dsimp only; omega)) (by first | omega | (dsimp only; omega))) ?_
  refine Ev.neg (by first | omega | simp [sEq]) ?_
  refine Ev.pos (by first | rfl | simp [sEq] | omega) ?_
  refine Ev.bind (to_IntS x0 b0) ?_
  refine Ev.bind (to_SingleS x1 b1) ?_
  refine Ev.bind ei ?_
  refine Ev.bind (eq_IntS _ (by first | exact hb | exact hb.1 | exact hb.2 | trivial)) ?_
  refine Ev.pos (by first | rfl | simp [sEq] | omega) ?_
  refine Ev.bind (held_IntS _ (by first | omega | (have := hb; omega) | (have := hb.1; omega) | (have := hb.2; omega)) _ (by first | omega | (dsimp only; omega)) (by first | omega | (dsimp only; omega))) ?_
  refine Ev.neg (by first | omega | simp [sEq]) ?_
  refine Ev.pos (by first | rfl | simp [sEq] | omega) ?_
  exact ev_val rfl

end Go.Proofs.Ytpjmefdpjlhkhaa.Fns
