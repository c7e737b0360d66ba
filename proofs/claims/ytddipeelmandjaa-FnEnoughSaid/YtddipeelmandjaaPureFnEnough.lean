/- The pure statement of the law FnEnough: its function, told by the engine, gives true for every input. -/
import Derived.Test.YtddipeelmandjaaSFnEnough
namespace Go.Proofs.Ytddipeelmandjaa.Fns
open Go.RowKit Go.WideShapes Go.Proofs.Ytddipeelmandjaa.Eng
set_option linter.unusedVariables false
set_option linter.unusedSimpArgs false
/-- From some number of rounds on there is one answer, and C holds of it. -/
def Evx {α : Type} (g : Nat → Option α) (C : α → Prop) : Prop := ∃ r, Ev g r ∧ C r
section
variable {α β : Type}
theorem Evx.val {a : α} {C : α → Prop} (h : C a) : Evx (fun _ => some a) C := ⟨a, Ev.now a, h⟩
theorem Evx.of {g : Nat → Option α} {r : α} {C : α → Prop} (h : Ev g r) (hc : C r) : Evx g C := ⟨r, h, hc⟩
theorem Evx.bind {g : Nat → Option α} {f : Nat → α → Option β} {P : α → Prop} {C : β → Prop} (h : Evx g P) (k : ∀ a, P a → Evx (fun n => f n a) C) : Evx (fun n => (g n).bind (f n)) C := by
  obtain ⟨a, h1, h2⟩ := h
  obtain ⟨r, h3, h4⟩ := k a h2
  exact ⟨r, Ev.bind h1 h3, h4⟩
theorem Evx.bindv {g : Nat → Option α} {f : Nat → α → Option β} {a : α} {C : β → Prop} (h : Ev g a) (k : Evx (fun n => f n a) C) : Evx (fun n => (g n).bind (f n)) C := by
  obtain ⟨r, h3, h4⟩ := k
  exact ⟨r, Ev.bind h h3, h4⟩
theorem Evx.opt {g : Option α} {f : Nat → α → Option β} {a : α} {C : β → Prop} (h : g = some a) (k : Evx (fun n => f n a) C) : Evx (fun n => g.bind (f n)) C := by subst h; exact k
theorem Evx.step {g f : Nat → Option α} {C : α → Prop} (h : ∀ k, g (k + 1) = f k) (k : Evx f C) : Evx g C := by
  obtain ⟨r, h3, h4⟩ := k
  exact ⟨r, Ev.step h h3, h4⟩
theorem Evx.congr {g f : Nat → Option α} {C : α → Prop} (h : ∀ k, g k = f k) (k : Evx f C) : Evx g C := by
  obtain ⟨r, h3, h4⟩ := k
  exact ⟨r, Ev.congr h h3, h4⟩
theorem Evx.ite {c : Prop} [Decidable c] {g f : Nat → Option α} {C : α → Prop} (h : c → Evx g C) (h' : ¬ c → Evx f C) : Evx (fun k => if c then g k else f k) C := by
  by_cases hc : c
  · simp only [if_pos hc]; exact h hc
  · simp only [if_neg hc]; exact h' hc
theorem Evx.pos {c : Prop} [Decidable c] {g f : Nat → Option α} {C : α → Prop} (hc : c) (h : Evx g C) : Evx (fun k => if c then g k else f k) C := by simp only [if_pos hc]; exact h
theorem Evx.neg {c : Prop} [Decidable c] {g f : Nat → Option α} {C : α → Prop} (hc : ¬ c) (h : Evx f C) : Evx (fun k => if c then g k else f k) C := by simp only [if_neg hc]; exact h
theorem Evx.mono {g : Nat → Option α} {C D : α → Prop} (h : Evx g C) (hd : ∀ r, C r → D r) : Evx g D := by
  obtain ⟨r, h1, h2⟩ := h
  exact ⟨r, h1, hd r h2⟩
theorem Evx.ev {g : Nat → Option α} {r : α} (h : Evx g (fun x => x = r)) : Ev g r := by
  obtain ⟨a, h1, rfl⟩ := h
  exact h1
theorem Ev.uniq {g : Nat → Option α} {a b : α} (h : Ev g a) (h' : Ev g b) : a = b := by
  obtain ⟨K, hK⟩ := h
  obtain ⟨K', hK'⟩ := h'
  have e1 := hK (max K K') (by omega)
  have e2 := hK' (max K K') (by omega)
  rw [e1] at e2
  exact Option.some.inj e2
end
/-- A loop that counts up, with what holds of its state at each place. -/
theorem evx_loop {R σ : Type} (G : Nat → Nat → σ → Option R) (n : Nat) (Inv : Nat → σ → Prop) (C : R → Prop)
    (hstep : ∀ i s, i < n → Inv i s → (∀ s', Inv (i + 1) s' → Evx (fun k => G k (i + 1) s') C) → Evx (fun k => G k i s) C)
    (hend : ∀ s, Inv n s → Evx (fun k => G k n s) C) : ∀ s, Inv 0 s → Evx (fun k => G k 0 s) C := by
  have key : ∀ d i, i + d = n → ∀ s, Inv i s → Evx (fun k => G k i s) C := by
    intro d
    induction d with
    | zero => intro i hi s hs; obtain rfl : i = n := by omega
              exact hend s hs
    | succ d ih => intro i hi s hs; exact hstep i s (by omega) hs (fun s' hs' => ih (i + 1) (by omega) s' hs')
  exact fun s hs => key n 0 (by omega) s hs
-- counting, taking, placing
theorem at_getD {α : Type} [Inhabited α] (xs : List α) (i : Int) : at_ xs i = xs.getD i.toNat default := rfl
theorem at_int {α : Type} [Inhabited α] {xs : List α} {i : Int} (h0 : 0 ≤ i) (h1 : i < (xs.length : Int)) : at_ xs i = xs[i.toNat]'(by omega) := by
  have h : i.toNat < xs.length := by omega
  rw [at_getD, List.getD_eq_getElem?_getD, List.getElem?_eq_getElem h]
  rfl
theorem at_mem {α : Type} [Inhabited α] {xs : List α} {i : Int} (h0 : 0 ≤ i) (h1 : i < (xs.length : Int)) : at_ xs i ∈ xs := by
  rw [at_int h0 h1]; exact List.getElem_mem _
theorem all_at {α : Type} [Inhabited α] {xs : List α} {p : α → Prop} (h : ∀ y, y ∈ xs → p y) {i : Int} (h0 : 0 ≤ i) (h1 : i < (xs.length : Int)) : p (at_ xs i) := h _ (at_mem h0 h1)
theorem all_idx {α : Type} [Inhabited α] {xs : List α} {p : α → Prop} (h : ∀ i, i < xs.length → p (at_ xs (i : Int))) {i : Int} (h0 : 0 ≤ i) (h1 : i < (xs.length : Int)) : p (at_ xs i) := by
  have := h i.toNat (by omega)
  rwa [show ((i.toNat : Nat) : Int) = i by omega] at this
theorem all_iff {α : Type} [Inhabited α] {xs : List α} {p : α → Prop} : (∀ i, i < xs.length → p (at_ xs (i : Int))) ↔ ∀ y, y ∈ xs → p y := by
  refine ⟨fun h y hy => ?_, fun h i hi => h _ (at_mem (by omega) (by omega))⟩
  obtain ⟨i, hi, rfl⟩ := List.getElem_of_mem hy
  have := h i hi
  rwa [at_nat hi] at this
theorem take_succ' {α : Type} {xs : List α} {i : Nat} (h : i < xs.length) : xs.take (i + 1) = xs.take i ++ [xs[i]] := List.take_succ_eq_append_getElem h
theorem count_take {α : Type} (p : α → Bool) {xs : List α} {i : Nat} (h : i < xs.length) : (xs.take (i + 1)).countP p = (xs.take i).countP p + (if p xs[i] then 1 else 0) := by
  rw [take_succ' h, List.countP_append, List.countP_singleton]
theorem count_le {α : Type} (p : α → Bool) (xs : List α) : xs.countP p ≤ xs.length := List.countP_le_length
theorem set_take {α : Type} {xs : List α} {i j : Nat} (v : α) (h : j < xs.length) : (xs.set i v)[j]'(by rw [List.length_set]; exact h) = if i = j then v else xs[j] := by rw [List.getElem_set]
theorem at_set_ne {α : Type} [Inhabited α] {xs : List α} {i : Nat} {j : Int} {v : α} (h0 : 0 ≤ j) (h : (i : Int) ≠ j) : at_ (xs.set i v) j = at_ xs j := by
  rw [at_getD, at_getD, List.getD_eq_getElem?_getD, List.getD_eq_getElem?_getD, List.getElem?_set_ne (by omega)]
theorem at_set_eq {α : Type} [Inhabited α] {xs : List α} {i : Nat} {v : α} (h : i < xs.length) : at_ (xs.set i v) (i : Int) = v := by
  rw [at_getD, List.getD_eq_getElem?_getD, Int.toNat_natCast, List.getElem?_set_self h]; rfl
theorem at_app_left {α : Type} [Inhabited α] (a b : List α) {i : Int} (h0 : 0 ≤ i) (h : i < (a.length : Int)) : at_ (a ++ b) i = at_ a i := by
  rw [at_getD, at_getD, List.getD_eq_getElem?_getD, List.getD_eq_getElem?_getD, List.getElem?_append_left (by omega)]
theorem at_app_right {α : Type} [Inhabited α] (a b : List α) {i : Int} (h : (a.length : Int) ≤ i) : at_ (a ++ b) i = at_ b (i - a.length) := by
  rw [at_getD, at_getD, List.getD_eq_getElem?_getD, List.getD_eq_getElem?_getD, List.getElem?_append_right (by omega)]
  congr 2; omega
theorem at_app_last {α : Type} [Inhabited α] (a : List α) (v : α) : at_ (a ++ [v]) (a.length : Int) = v := by
  rw [at_app_right a [v] (by omega), Int.sub_self]; rfl
theorem at_take {α : Type} [Inhabited α] (xs : List α) {n : Nat} {i : Int} (h0 : 0 ≤ i) (h : i < n) : at_ (xs.take n) i = at_ xs i := by
  rw [at_getD, at_getD, List.getD_eq_getElem?_getD, List.getD_eq_getElem?_getD, List.getElem?_take_of_lt (by omega)]
theorem at_rep {α : Type} [Inhabited α] (n : Nat) (v : α) {i : Int} (h0 : 0 ≤ i) (h : i < n) : at_ (List.replicate n v) i = v := by
  rw [at_int h0 (by simpa using h)]; simp
theorem tmod_of {a : Int} (b : Int) (h : 0 ≤ a) : a.tmod b = a % b := Int.tmod_eq_emod_of_nonneg h
theorem tdiv_of {a : Int} (b : Int) (h : 0 ≤ a) : a.tdiv b = a / b := Int.tdiv_eq_ediv_of_nonneg h
theorem range_at {n : Nat} {f : Nat → Int} {i : Int} (h0 : 0 ≤ i) (h : i < n) : at_ ((List.range n).map f) i = f i.toNat := by
  rw [at_int h0 (by simpa using h)]; simp
theorem range_set {α : Type} (n : Nat) (f : Nat → α) (i : Nat) (v : α) : ((List.range n).map f).set i v = (List.range n).map (fun j => if j = i then v else f j) := by
  refine List.ext_getElem (by simp) fun j h1 h2 => ?_
  simp only [List.getElem_set, List.getElem_map, List.getElem_range]
  by_cases e : i = j
  · rw [if_pos e, if_pos e.symm]
  · rw [if_neg e, if_neg (fun g => e g.symm)]
theorem range_congr {α : Type} {n : Nat} {f g : Nat → α} (h : ∀ j, j < n → f j = g j) : (List.range n).map f = (List.range n).map g :=
  List.map_congr_left fun j hj => h j (List.mem_range.1 hj)
/-- A loop that counts up and stops where P does not hold. -/
theorem ev_scan {R : Type} (n : Nat) (P : Nat → Prop) (bad : R) (G : Nat → Nat → Option R) {r : R} (hr : (∃ i, i < n ∧ ¬ P i) → r = bad)
    (hstep : ∀ i, i < n → (∀ j, j < i → P j) → (P i → Ev (fun k => G k (i + 1)) r) → (¬ P i → r = bad) → Ev (fun k => G k i) r)
    (hend : (∀ i, i < n → P i) → Ev (fun k => G k n) r) : Ev (fun k => G k 0) r := by
  have key : ∀ d i, i + d = n → (∀ j, j < i → P j) → Ev (fun k => G k i) r := by
    intro d
    induction d with
    | zero => intro i hi hp; obtain rfl : i = n := by omega
              exact hend hp
    | succ d ih =>
      intro i hi hp
      refine hstep i (by omega) hp (fun h => ih (i + 1) (by omega) fun j hj => ?_) (fun h => hr ⟨i, by omega, h⟩)
      rcases Nat.lt_or_ge j i with g | g
      · exact hp j g
      · obtain rfl : j = i := by omega
        exact h
  exact key n 0 (by omega) (fun j hj => absurd hj (by omega))
theorem bool_eq {b : Bool} {P : Prop} (hb : b = true ↔ P) (h : P) : b = true := hb.2 h
theorem not_all {n : Nat} {P : Nat → Prop} (h : ¬ ∀ i, i < n → P i) : ∃ i, i < n ∧ ¬ P i := by
  classical
  exact Classical.byContradiction fun g => h fun i hi => Classical.byContradiction fun q => g ⟨i, hi, q⟩
theorem mem_take_iff {α : Type} [Inhabited α] {xs : List α} {n : Nat} {v : α} (h : n ≤ xs.length) : v ∈ xs.take n ↔ ∃ i, i < n ∧ at_ xs (i : Int) = v := by
  constructor
  · intro hv
    obtain ⟨i, hi, e⟩ := List.getElem_of_mem hv
    rw [List.length_take] at hi
    rw [List.getElem_take] at e
    exact ⟨i, by omega, by rw [at_nat (by omega)]; exact e⟩
  · rintro ⟨i, hi, e⟩
    rw [at_nat (by omega)] at e
    rw [← e]
    exact List.mem_take_iff_getElem.2 ⟨i, by omega, rfl⟩
theorem mem_at {α : Type} [Inhabited α] {xs : List α} {v : α} : v ∈ xs ↔ ∃ i, i < xs.length ∧ at_ xs (i : Int) = v := by
  have := mem_take_iff (xs := xs) (v := v) (Nat.le_refl _)
  rwa [List.take_length] at this
open Classical in
/-- The first place where P holds, or -1. -/
noncomputable def firstI (n : Nat) (P : Nat → Prop) : Int := if h : ∃ i, i < n ∧ P i then ((Classical.choose (least_of h) : Nat) : Int) else -1
theorem firstI_spec (n : Nat) (P : Nat → Prop) : (firstI n P = -1 ∧ ∀ i, i < n → ¬ P i) ∨ ∃ i, i < n ∧ P i ∧ (∀ j, j < i → ¬ P j) ∧ firstI n P = (i : Int) := by
  classical
  unfold firstI
  by_cases h : ∃ i, i < n ∧ P i
  · rw [dif_pos h]
    have hs := Classical.choose_spec (least_of h)
    exact .inr ⟨_, hs.1.1, hs.1.2, fun j hj hp => hs.2 j hj ⟨by have := hs.1.1; omega, hp⟩, rfl⟩
  · rw [dif_neg h]
    exact .inl ⟨rfl, fun i hi hp => h ⟨i, hi, hp⟩⟩
theorem firstI_lo (n : Nat) (P : Nat → Prop) : -1 ≤ firstI n P ∧ firstI n P < (n : Int) ∧ (0 ≤ firstI n P ↔ ∃ i, i < n ∧ P i) := by
  rcases firstI_spec n P with ⟨h, h2⟩ | ⟨i, h1, h2, _, h3⟩
  · rw [h]; exact ⟨by omega, by omega, fun g => by omega, fun ⟨i, hi, hp⟩ => absurd hp (h2 i hi)⟩
  · rw [h3]; exact ⟨by omega, by omega, fun _ => ⟨i, h1, h2⟩, fun _ => by omega⟩
theorem firstI_at {n : Nat} {P : Nat → Prop} (h : 0 ≤ firstI n P) : P (firstI n P).toNat := by
  rcases firstI_spec n P with ⟨h1, _⟩ | ⟨i, h1, h2, _, h3⟩
  · omega
  · rw [h3]; exact h2
theorem firstI_find {R : Type} (n : Nat) (P : Nat → Prop) (out : Int → R) : FindR n P (fun i => out (i : Int)) (out (-1)) (out (firstI n P)) := by
  rcases firstI_spec n P with ⟨h, h2⟩ | ⟨i, h1, h2, h4, h3⟩
  · exact .inl ⟨by rw [h], h2⟩
  · exact .inr ⟨i, h1, h2, h4, by rw [h3]⟩
theorem firstI_congr {n : Nat} {P Q : Nat → Prop} (h : ∀ i, i < n → (P i ↔ Q i)) : firstI n P = firstI n Q := by
  rcases firstI_spec n P with ⟨h1, h2⟩ | ⟨i, h1, h2, h4, h3⟩
  · rcases firstI_spec n Q with ⟨g1, g2⟩ | ⟨j, g1, g2, g4, g3⟩
    · rw [h1, g1]
    · exact absurd ((h j g1).2 g2) (h2 j g1)
  · rcases firstI_spec n Q with ⟨g1, g2⟩ | ⟨j, g1, g2, g4, g3⟩
    · exact absurd ((h i h1).1 h2) (g2 i h1)
    · rw [h3, g3]
      rcases Nat.lt_trichotomy i j with w | w | w
      · exact absurd ((h i h1).1 h2) (g4 i w)
      · rw [w]
      · exact absurd ((h j g1).2 g2) (h4 j w)
theorem firstI_eq {n : Nat} {P : Nat → Prop} {i : Nat} (h : i < n) (hp : P i) (hm : ∀ j, j < i → ¬ P j) : firstI n P = (i : Int) := by
  rcases firstI_spec n P with ⟨_, h2⟩ | ⟨j, h1, h2, h4, h3⟩
  · exact absurd hp (h2 i h)
  · rw [h3]
    rcases Nat.lt_trichotomy i j with w | w | w
    · exact absurd hp (h4 i w)
    · rw [w]
    · exact absurd h2 (hm j w)
theorem firstI_no {n : Nat} {P : Nat → Prop} (h : ∀ i, i < n → ¬ P i) : firstI n P = -1 := by
  rcases firstI_spec n P with ⟨h1, _⟩ | ⟨j, h1, h2, _, _⟩
  · exact h1
  · exact absurd h2 (h j h1)
/-- .. and what it gives hangs on where it stops. -/
theorem ev_scan2 {R : Type} (n : Nat) (P : Nat → Prop) (bad : Nat → R) (G : Nat → Nat → Option R) {r : R} (hr : ∀ i, i < n → ¬ P i → (∀ j, j < i → P j) → r = bad i)
    (hstep : ∀ i, i < n → (∀ j, j < i → P j) → (P i → Ev (fun k => G k (i + 1)) r) → (¬ P i → r = bad i) → Ev (fun k => G k i) r)
    (hend : (∀ i, i < n → P i) → Ev (fun k => G k n) r) : Ev (fun k => G k 0) r := by
  have key : ∀ d i, i + d = n → (∀ j, j < i → P j) → Ev (fun k => G k i) r := by
    intro d
    induction d with
    | zero => intro i hi hp; obtain rfl : i = n := by omega
              exact hend hp
    | succ d ih =>
      intro i hi hp
      refine hstep i (by omega) hp (fun h => ih (i + 1) (by omega) fun j hj => ?_) (fun h => hr i (by omega) h hp)
      rcases Nat.lt_or_ge j i with g | g
      · exact hp j g
      · obtain rfl : j = i := by omega
        exact h
  exact key n 0 (by omega) (fun j hj => absurd hj (by omega))
theorem eq_impl_between (a b c : Int) : impl_between.f a b c = some (decide (b ≤ a ∧ a ≤ c)) := by
  unfold impl_between.f
  by_cases h : a ≥ b
  · rw [if_pos h]; simp [show b ≤ a from h]
  · rw [if_neg h]; simp [show ¬ b ≤ a from h]
theorem eq_spec_l01In (a b c : Int) : spec_l01In.f a b c = some (decide (b ≤ a ∧ a ≤ c)) := by
  unfold spec_l01In.f
  by_cases h : b ≤ a
  · rw [if_pos h]; simp [h]
  · rw [if_neg h]; simp [h]
/-- A loop that counts down. -/
theorem evx_down {R σ : Type} (G : Nat → Nat → σ → Option R) (Inv : Nat → σ → Prop) (C : R → Prop)
    (hstep : ∀ i s, Inv (i + 1) s → (∀ s', Inv i s' → Evx (fun k => G k i s') C) → Evx (fun k => G k (i + 1) s) C)
    (hend : ∀ s, Inv 0 s → Evx (fun k => G k 0 s) C) : ∀ n s, Inv n s → Evx (fun k => G k n s) C
  | 0, s, h => hend s h
  | n + 1, s, h => hstep n s h fun s' h' => evx_down G Inv C hstep hend n s' h'
theorem band_bd (a : Int) (n : Nat) (hn : n < 9223372036854775808) : 0 ≤ bAnd a (n : Int) ∧ bAnd a (n : Int) ≤ n := by
  unfold bAnd
  rw [i64w]
  have h : (BitVec.ofInt 64 a &&& BitVec.ofInt 64 (n : Int)).toNat ≤ n := by
    rw [BitVec.toNat_and]
    refine Nat.le_trans Nat.and_le_right ?_
    have : BitVec.ofInt 64 (n : Int) = BitVec.ofNat 64 n := by simp [BitVec.ofInt_natCast]
    rw [this, BitVec.toNat_ofNat]
    exact Nat.mod_le _ _
  rw [wrap_id (by omega) (by omega)]
  omega
theorem u8_bd {y : Int} (h : (Lit.int .u8 y).wf = true) : 0 ≤ y ∧ y ≤ 255 := by
  simp only [Lit.wf, Bool.and_eq_true, decide_eq_true_eq] at h
  have h1 : IntKind.u8.min = 0 := by decide
  have h2 : IntKind.u8.max = 255 := by decide
  omega
def CodeP (code : List Int) : Prop := code.length ≤ 1048576 ∧ ∀ y, y ∈ code → 0 ≤ y ∧ y ≤ 255
def CurP (c : S69) : Prop := CodeP c.f0 ∧ 0 ≤ c.f1 ∧ c.f1 ≤ (c.f0.length : Int)
theorem byte_ok (c : S69) (h : CurP c) : ∃ r, spec_l01Byte.f c = some r ∧ CurP r.2 ∧ 0 ≤ r.1 ∧ r.1 ≤ 255 := by
  obtain ⟨⟨h1, h4⟩, h2, h3⟩ := h
  unfold spec_l01Byte.f
  by_cases g : c.f1 < (c.f0.length : Int)
  · rw [if_pos g, if_pos h2]
    refine ⟨_, rfl, ⟨⟨h1, h4⟩, ?_, ?_⟩, (band_bd _ 255 (by omega)).1, (band_bd _ 255 (by omega)).2⟩
    · show 0 ≤ wrap64 (c.f1 + 1); rw [wrap_id (by omega) (by omega)]; omega
    · show wrap64 (c.f1 + 1) ≤ _; rw [wrap_id (by omega) (by omega)]; show _ ≤ (c.f0.length : Int); omega
  · rw [if_neg g]
    exact ⟨_, rfl, ⟨⟨h1, h4⟩, h2, h3⟩, (band_bd _ 255 (by omega)).1, (band_bd _ 255 (by omega)).2⟩
theorem tmod_bd {a n : Int} (h0 : 0 ≤ a) (hn : 0 < n) : 0 ≤ a.tmod n ∧ a.tmod n < n := by
  rw [tmod_of n h0]
  exact ⟨Int.emod_nonneg _ (by omega), Int.emod_lt_of_pos _ hn⟩
theorem below_ok (c : S69) (n : Int) (h : CurP c) : ∃ r, spec_l01Below.f c n = some r ∧ CurP r.2 ∧ 0 ≤ r.1 ∧ (0 < n → r.1 < n) ∧ (n ≤ 0 → r.1 = 0) := by
  unfold spec_l01Below.f
  by_cases h0 : n ≤ 0
  · rw [if_pos h0]
    exact ⟨_, rfl, h, Int.le_refl _, fun g => by omega, fun _ => rfl⟩
  · rw [if_neg h0]
    by_cases h1 : n ≤ 256
    · rw [if_pos h1]
      obtain ⟨r, e, a1, a2, a3⟩ := byte_ok c h
      rw [e, Option.bind_some, if_pos (by omega)]
      have := tmod_bd a2 (show 0 < n by omega)
      exact ⟨_, rfl, a1, this.1, fun _ => this.2, fun g => by omega⟩
    · rw [if_neg h1]
      obtain ⟨r, e, a1, a2, a3⟩ := byte_ok c h
      obtain ⟨r2, e2, b1, b2, b3⟩ := byte_ok r.2 a1
      obtain ⟨r3, e3, c1, c2, c3⟩ := byte_ok r2.2 b1
      rw [e, Option.bind_some, e2, Option.bind_some, e3, Option.bind_some, if_pos (by omega)]
      rw [wrap_id (x := r.1 * 65536) (by omega) (by omega), wrap_id (x := r2.1 * 256) (by omega) (by omega), wrap_id (x := r.1 * 65536 + r2.1 * 256) (by omega) (by omega), wrap_id (x := r.1 * 65536 + r2.1 * 256 + r3.1) (by omega) (by omega)]
      have := tmod_bd (a := r.1 * 65536 + r2.1 * 256 + r3.1) (by omega) (show 0 < n by omega)
      exact ⟨_, rfl, c1, this.1, fun _ => this.2, fun g => by omega⟩
theorem evx_l01New (code : List Int) (h : CodeP code) : Evx (fun k => spec_l01New.f k code) CurP := by
  unfold spec_l01New.f
  have fin : ∀ x : Int, CurP ⟨code, 0, x⟩ := fun x => ⟨h, Int.le_refl _, by show (0 : Int) ≤ (code.length : Int); omega⟩
  have hl := h.1
  refine evx_loop (fun k i (x : Int) => spec_l01New.l0 k code x (i : Int)) (min code.length 4000) (fun _ _ => True) _ ?_ ?_ _ trivial
  · intro i s hi _ hn
    refine Evx.step (fun k => by simp only [spec_l01New.l0]; rfl) ?_
    rw [wrap_succ hi (by omega)]
    exact Evx.pos (by omega) (Evx.pos (by omega) (Evx.pos (by omega) (hn _ trivial)))
  · intro s _
    refine Evx.step (fun k => by simp only [spec_l01New.l0]; rfl) ?_
    rcases Nat.lt_or_ge code.length 4001 with g | g
    · by_cases e : code.length ≤ 4000
      · refine Evx.ite (fun q => ?_) (fun _ => Evx.val (fin s))
        refine Evx.ite (fun q2 => by omega) (fun _ => Evx.val (fin s))
      · omega
    · exact Evx.pos (by omega) (Evx.neg (by omega) (Evx.val (fin s)))
theorem code_ok {code : List Int} (h : code.length ≤ maxLen ∧ ∀ y ∈ code, (Lit.int .u8 y).wf = true) (hl : ¬ (code.length : Int) > 1048576) : CodeP code := ⟨by omega, fun y hy => u8_bd (h.2 y hy)⟩
theorem size_ok (code : List Int) (h : CodeP code) (m : Int) (hm : 2 ≤ m) (hm2 : m ≤ 1000) : ∃ r, spec_l01Size.f code m = some r ∧ 2 ≤ r ∧ r ≤ m := by
  have hl := h.1
  unfold spec_l01Size.f
  rw [tdiv_of 16 (by omega), wrap_id (x := (code.length : Int) / 16) (by omega) (by omega), wrap_id (x := 2 + (code.length : Int) / 16) (by omega) (by omega)]
  by_cases g : 2 + (code.length : Int) / 16 > m
  · rw [if_pos g]; exact ⟨_, rfl, hm, Int.le_refl _⟩
  · rw [if_neg g]; exact ⟨_, rfl, by omega, by omega⟩
-- sorting, told by places
section
variable {α : Type} [Inhabited α]
theorem at_ext {xs ys : List α} (hl : ys.length = xs.length) (h : ∀ k : Nat, k < xs.length → at_ ys (k : Int) = at_ xs (k : Int)) : ys = xs := by
  refine List.ext_getElem hl fun k h1 h2 => ?_
  have := h k h2
  rwa [at_nat h1, at_nat h2] at this
def swp (xs : List α) (i j : Nat) : List α := (xs.set i (at_ xs (j : Int))).set j (at_ xs (i : Int))
theorem swp_len (xs : List α) (i j : Nat) : (swp xs i j).length = xs.length := by simp [swp]
theorem swp_at {xs : List α} {i j : Nat} (k : Nat) (hi : i < xs.length) (hj : j < xs.length) : at_ (swp xs i j) (k : Int) = if k = j then at_ xs (i : Int) else if k = i then at_ xs (j : Int) else at_ xs (k : Int) := by
  unfold swp
  by_cases e : k = j
  · rw [if_pos e, e, at_set_eq (by rw [List.length_set]; exact hj)]
  · rw [if_neg e, at_set_ne (by omega) (by omega)]
    by_cases e2 : k = i
    · rw [if_pos e2, e2, at_set_eq hi]
    · rw [if_neg e2, at_set_ne (by omega) (by omega)]
/-- What stands at k in the second came from the place σ k of the first. -/
def Via (xs ys : List α) (σ : Nat → Nat) : Prop := ys.length = xs.length ∧ ∀ k : Nat, k < xs.length → at_ ys (k : Int) = at_ xs ((σ k : Nat) : Int)
theorem Via.trans {xs ys zs : List α} {σ τ υ : Nat → Nat} (h : Via xs ys σ) (h2 : Via ys zs τ) (hτ : ∀ k, k < xs.length → τ k < xs.length) (e : ∀ k, k < xs.length → σ (τ k) = υ k) : Via xs zs υ :=
  ⟨h2.1.trans h.1, fun k hk => by rw [h2.2 k (by rw [h.1]; exact hk), h.2 _ (hτ k hk), e k hk]⟩
theorem Via.congr {xs ys : List α} {σ τ : Nat → Nat} (h : Via xs ys σ) (e : ∀ k, k < xs.length → σ k = τ k) : Via xs ys τ := ⟨h.1, fun k hk => by rw [h.2 k hk, e k hk]⟩
theorem Via.id (xs : List α) {σ : Nat → Nat} (e : ∀ k, k < xs.length → σ k = k) : Via xs xs σ := ⟨rfl, fun k hk => by rw [e k hk]⟩
theorem Via.swp {xs : List α} {i j : Nat} (hi : i < xs.length) (hj : j < xs.length) {σ : Nat → Nat} (e : ∀ k, k < xs.length → σ k = if k = j then i else if k = i then j else k) : Via xs (swp xs i j) σ := by
  refine ⟨swp_len _ _ _, fun k hk => ?_⟩
  rw [swp_at k hi hj, e k hk]
  by_cases e1 : k = j
  · rw [if_pos e1, if_pos e1]
  · rw [if_neg e1, if_neg e1]
    by_cases e2 : k = i
    · rw [if_pos e2, if_pos e2]
    · rw [if_neg e2, if_neg e2]
def swI (a b n k : Nat) : Nat := if a ≤ k ∧ k < a + n then k + b - a else if b ≤ k ∧ k < b + n then k + a - b else k
def rotI (a m b k : Nat) : Nat := if a ≤ k ∧ k < a + (b - m) then k + m - a else if a + (b - m) ≤ k ∧ k < b then k - (b - m) else k
theorem rot_same {m i k : Nat} (hi : i ≤ m) : swI (m - i) m i k = rotI (m - i) m (m + i) k := by
  unfold swI rotI
  repeat' split
  all_goals omega
theorem rot_gt {m i j k : Nat} (hi : i ≤ m) (h : j < i) (hj : 0 < j) : swI (m - i) m j (rotI (m - (i - j)) m (m + j) k) = rotI (m - i) m (m + j) k := by
  unfold swI rotI
  repeat' split
  all_goals omega
theorem rot_lt {m i j k : Nat} (hi : i ≤ m) (h : i < j) (h0 : 0 < i) : swI (m - i) (m + j - i) i (rotI (m - i) m (m + (j - i)) k) = rotI (m - i) m (m + j) k := by
  unfold swI rotI
  repeat' split
  all_goals omega
theorem rotI_lt {a m b n k : Nat} (h1 : a ≤ m) (h2 : m ≤ b) (h3 : b ≤ n) (hk : k < n) : rotI a m b k < n := by
  unfold rotI
  repeat' split
  all_goals omega
theorem swI_lt {a b c n k : Nat} (h1 : a + c ≤ b) (h3 : b + c ≤ n) (hk : k < n) : swI a b c k < n := by
  unfold swI
  repeat' split
  all_goals omega
/-- Nothing outside a .. b is changed, and what stands there came from there. -/
def Out (xs ys : List α) (a b : Nat) : Prop := ys.length = xs.length ∧ (∀ k : Nat, (k < a ∨ b ≤ k) → at_ ys (k : Int) = at_ xs (k : Int)) ∧ ∀ k : Nat, a ≤ k → k < b → ∃ l : Nat, a ≤ l ∧ l < b ∧ at_ ys (k : Int) = at_ xs (l : Int)
theorem Out.refl (xs : List α) (a b : Nat) : Out xs xs a b := ⟨rfl, fun _ _ => rfl, fun k h1 h2 => ⟨k, h1, h2, rfl⟩⟩
theorem Out.mono {xs ys : List α} {a b a' b' : Nat} (h : Out xs ys a b) (h1 : a' ≤ a) (h2 : b ≤ b') : Out xs ys a' b' := by
  refine ⟨h.1, fun k hk => h.2.1 k (by omega), fun k k1 k2 => ?_⟩
  by_cases g : a ≤ k ∧ k < b
  · obtain ⟨l, l1, l2, e⟩ := h.2.2 k g.1 g.2
    exact ⟨l, by omega, by omega, e⟩
  · exact ⟨k, k1, k2, h.2.1 k (by omega)⟩
theorem Out.trans {xs ys zs : List α} {a b : Nat} (h : Out xs ys a b) (h2 : Out ys zs a b) : Out xs zs a b := by
  refine ⟨h2.1.trans h.1, fun k hk => (h2.2.1 k hk).trans (h.2.1 k hk), fun k k1 k2 => ?_⟩
  obtain ⟨l, l1, l2, e⟩ := h2.2.2 k k1 k2
  obtain ⟨l', m1, m2, e'⟩ := h.2.2 l l1 l2
  exact ⟨l', m1, m2, e.trans e'⟩
theorem Out.via {xs ys : List α} {a b : Nat} {σ : Nat → Nat} (h : Via xs ys σ) (hb : b ≤ xs.length) (h1 : ∀ k, k < xs.length → (k < a ∨ b ≤ k) → σ k = k) (h2 : ∀ k, a ≤ k → k < b → a ≤ σ k ∧ σ k < b) : Out xs ys a b := by
  refine ⟨h.1, fun k hk => ?_, fun k k1 k2 => ⟨σ k, (h2 k k1 k2).1, (h2 k k1 k2).2, h.2 k (by omega)⟩⟩
  by_cases g : k < xs.length
  · rw [h.2 k g, h1 k g hk]
  · rw [at_getD, at_getD, List.getD_eq_getElem?_getD, List.getD_eq_getElem?_getD, List.getElem?_eq_none (by rw [h.1]; omega), List.getElem?_eq_none (by omega)]
def SortedOn (lt : α → α → Prop) (xs : List α) (a b : Nat) : Prop := ∀ p q : Nat, a ≤ p → p < q → q < b → lt (at_ xs (p : Int)) (at_ xs (q : Int))
def BeforeP (pos : α → α → Prop) (xs : List α) (a m b : Nat) : Prop := ∀ p q : Nat, a ≤ p → p < m → m ≤ q → q < b → pos (at_ xs (p : Int)) (at_ xs (q : Int))
def OnP (P : α → Prop) (xs : List α) (a b : Nat) : Prop := ∀ p : Nat, a ≤ p → p < b → P (at_ xs (p : Int))
theorem OnP.out {P : α → Prop} {xs ys : List α} {a b : Nat} (h : OnP P xs a b) (ho : Out xs ys a b) : OnP P ys a b := fun p h1 h2 => by
  obtain ⟨l, l1, l2, e⟩ := ho.2.2 p h1 h2
  rw [e]; exact h l l1 l2
end
section
variable {α : Type}
/-- The order: by the key, then as they stood. -/
def LtK (key : α → Int) (pos : α → α → Prop) (u v : α) : Prop := key u < key v ∨ (key u = key v ∧ pos u v)
structure OrdP (key : α → Int) (pos : α → α → Prop) : Prop where
  tr : ∀ u v w, pos u v → pos v w → pos u w
theorem LtK.trans {key : α → Int} {pos : α → α → Prop} (h : OrdP key pos) {u v w : α} (h1 : LtK key pos u v) (h2 : LtK key pos v w) : LtK key pos u w := by
  unfold LtK at *
  rcases h1 with h1 | ⟨h1, g1⟩
  · rcases h2 with h2 | ⟨h2, _⟩
    · exact .inl (by omega)
    · exact .inl (by omega)
  · rcases h2 with h2 | ⟨h2, g2⟩
    · exact .inl (by omega)
    · exact .inr ⟨by omega, h.tr _ _ _ g1 g2⟩
theorem LtK.less {key : α → Int} {pos : α → α → Prop} {u v : α} (h : key u < key v) : LtK key pos u v := .inl h
theorem LtK.not {key : α → Int} {pos : α → α → Prop} {u v : α} (hp : pos v u) (h : ¬ key u < key v) : LtK key pos v u := by
  unfold LtK
  by_cases e : key v = key u
  · exact .inr ⟨e, hp⟩
  · exact .inl (by omega)
def CmpP {γ : Type} (f : α → α → γ → Option (Int × γ)) (P : α → Prop) (key : α → Int) (cap : γ) : Prop := ∀ u v, P u → P v → ∃ c, f u v cap = some (c, cap) ∧ (c < 0 ↔ key u < key v)
end
theorem half_ok (a b : Nat) (h : a + b < 4611686018427387904) : IntKind.i64.wrap ((IntKind.u64.wrap (wrap64 ((a : Int) + (b : Int)))).fdiv (2 ^ 1)) = (((a + b) / 2 : Nat) : Int) := by
  rw [wrap_id (by omega) (by omega)]
  have e : IntKind.u64.wrap ((a : Int) + (b : Int)) = (a : Int) + (b : Int) := by
    show ((a : Int) + (b : Int)) % 18446744073709551616 = _
    omega
  rw [e, show ((2 : Int) ^ 1) = 2 from rfl, Int.fdiv_eq_ediv_of_nonneg _ (by omega), i64w, wrap_id (by omega) (by omega)]
  omega
abbrev El := Int
abbrev Cap := List S49
abbrev cmpF := impl_inTurn_1.f
theorem evx_swapRange (xs : List El) (a b n : Nat) (cap : Cap) (h1 : a + n ≤ b) (h2 : b + n ≤ xs.length) (hl : xs.length ≤ 1048576) : Evx (fun k => slices_swapRangeCmpFunc_1.f k xs (a : Int) (b : Int) (n : Int) cap) (fun r => r.2 = cap ∧ Via xs r.1 (swI a b n)) := by
  unfold slices_swapRangeCmpFunc_1.f
  refine evx_loop (fun k i (zs : List El) => slices_swapRangeCmpFunc_1.l0 k (a : Int) (b : Int) (n : Int) cap zs (i : Int)) n (fun i zs => Via xs zs (swI a b i)) _ ?_ ?_ xs (Via.id xs fun k _ => by unfold swI; rw [if_neg (by omega), if_neg (by omega)])
  · intro i zs hi hI hn
    have hz := hI.1
    refine Evx.step (fun k => by simp only [slices_swapRangeCmpFunc_1.l0]; rfl) ?_
    rw [wrap_succ hi (by omega), show wrap64 ((b : Int) + (i : Int)) = ((b + i : Nat) : Int) by rw [wrap_id (by omega) (by omega)]; omega, show wrap64 ((a : Int) + (i : Int)) = ((a + i : Nat) : Int) by rw [wrap_id (by omega) (by omega)]; omega, Int.toNat_natCast, Int.toNat_natCast]
    refine Evx.pos (by omega) (Evx.pos (by omega) (Evx.pos (by omega) (Evx.pos (by omega) (Evx.pos (by omega) ?_))))
    refine hn (swp zs (a + i) (b + i)) (Via.trans hI (Via.swp (σ := fun k => if k = b + i then a + i else if k = a + i then b + i else k) (by omega) (by omega) (fun _ _ => rfl)) (fun k hk => ?_) (fun k hk => ?_))
    · repeat' split
      all_goals omega
    · unfold swI
      repeat' split
      all_goals omega
  · intro zs hI
    refine Evx.step (fun k => by simp only [slices_swapRangeCmpFunc_1.l0]; rfl) ?_
    exact Evx.neg (by omega) (Evx.val ⟨rfl, hI⟩)
theorem evx_rotate0 (m : Nat) (cap : Cap) : ∀ (d i j : Nat) (xs : List El), i + j ≤ d → 1 ≤ i → 1 ≤ j → i ≤ m → m + j ≤ xs.length → xs.length ≤ 1048576 → Evx (fun k => slices_rotateCmpFunc_1.l0 k (m : Int) xs cap (i : Int) (j : Int)) (fun r => r.2 = cap ∧ Via xs r.1 (rotI (m - i) m (m + j))) := by
  intro d
  induction d with
  | zero => intro i j xs h0 h1 h2; omega
  | succ d ih =>
    intro i j xs h0 h1 h2 h3 h4 h5
    refine Evx.step (fun k => by simp only [slices_rotateCmpFunc_1.l0]; rfl) ?_
    rw [show wrap64 ((m : Int) - (i : Int)) = ((m - i : Nat) : Int) by rw [wrap_id (by omega) (by omega)]; omega]
    refine Evx.ite (fun e => ?_) (fun e => Evx.ite (fun g => ?_) (fun g => ?_))
    · obtain rfl : i = j := by omega
      exact Evx.bind (evx_swapRange xs (m - i) m i cap (by omega) (by omega) h5) (fun r ⟨r1, r2⟩ => Evx.val ⟨r1, r2.congr fun k _ => rot_same h3⟩)
    · refine Evx.bind (evx_swapRange xs (m - i) m j cap (by omega) (by omega) h5) (fun r ⟨r1, r2⟩ => ?_)
      rw [r1, show wrap64 ((i : Int) - (j : Int)) = ((i - j : Nat) : Int) by rw [wrap_id (by omega) (by omega)]; omega]
      have hr := r2.1
      refine Evx.mono (ih (i - j) j r.1 (by omega) (by omega) h2 (by omega) (by omega) (by omega)) (fun q ⟨q1, q2⟩ => ⟨q1, Via.trans r2 q2 (fun k hk => rotI_lt (by omega) (by omega) h4 hk) (fun k hk => rot_gt h3 (by omega) (by omega))⟩)
    · rw [show wrap64 (wrap64 ((m : Int) + (j : Int)) - (i : Int)) = ((m + j - i : Nat) : Int) by rw [wrap_id (x := (m : Int) + (j : Int)) (by omega) (by omega), wrap_id (by omega) (by omega)]; omega]
      refine Evx.bind (evx_swapRange xs (m - i) (m + j - i) i cap (by omega) (by omega) h5) (fun r ⟨r1, r2⟩ => ?_)
      rw [r1, show wrap64 ((j : Int) - (i : Int)) = ((j - i : Nat) : Int) by rw [wrap_id (by omega) (by omega)]; omega]
      have hr := r2.1
      refine Evx.mono (ih i (j - i) r.1 (by omega) h1 (by omega) h3 (by omega) (by omega)) (fun q ⟨q1, q2⟩ => ⟨q1, Via.trans r2 q2 (fun k hk => rotI_lt (by omega) (by omega) (by omega) hk) (fun k hk => rot_lt h3 (by omega) (by omega))⟩)
theorem evx_rotate (xs : List El) (a m b : Nat) (cap : Cap) (h1 : a < m) (h2 : m < b) (h3 : b ≤ xs.length) (hl : xs.length ≤ 1048576) : Evx (fun k => slices_rotateCmpFunc_1.f k xs (a : Int) (m : Int) (b : Int) cap) (fun r => r.2 = cap ∧ Via xs r.1 (rotI a m b)) := by
  unfold slices_rotateCmpFunc_1.f
  rw [show wrap64 ((m : Int) - (a : Int)) = ((m - a : Nat) : Int) by rw [wrap_id (by omega) (by omega)]; omega, show wrap64 ((b : Int) - (m : Int)) = ((b - m : Nat) : Int) by rw [wrap_id (by omega) (by omega)]; omega]
  have := evx_rotate0 m cap (m - a + (b - m)) (m - a) (b - m) xs (Nat.le_refl _) (by omega) (by omega) (by omega) (by omega) hl
  rw [show m - (m - a) = a by omega, show m + (b - m) = b by omega] at this
  exact this
/-- Insertion, from places that stand as they stood at first. -/
theorem evx_insertion {P : El → Prop} {key : El → Int} {pos : El → El → Prop} {cap : Cap} (hO : OrdP key pos) (hC : CmpP cmpF P key cap) (xs : List El) (a b : Nat) (h1 : a < b) (h2 : b ≤ xs.length) (hl : xs.length ≤ 1048576) (hP : OnP P xs a b) (hS : SortedOn pos xs a b) : Evx (fun k => slices_insertionSortCmpFunc_1.f k xs (a : Int) (b : Int) cap) (fun r => r.2 = cap ∧ Out xs r.1 a b ∧ SortedOn (LtK key pos) r.1 a b) := by
  unfold slices_insertionSortCmpFunc_1.f
  rw [wrap_id (x := (a : Int) + 1) (by omega) (by omega)]
  have key1 := evx_loop (fun k i (zs : List El) => slices_insertionSortCmpFunc_1.l0 k (a : Int) (b : Int) zs cap ((a + 1 + i : Nat) : Int)) (b - (a + 1)) (fun i zs => Out xs zs a (a + 1 + i) ∧ SortedOn (LtK key pos) zs a (a + 1 + i)) (fun r => r.2 = cap ∧ Out xs r.1 a b ∧ SortedOn (LtK key pos) r.1 a b) ?_ ?_ xs ⟨Out.refl xs _ _, fun p q p1 p2 p3 => by omega⟩
  · simpa using key1
  · intro i ys hi ⟨hI, hT⟩ hn
    have hy := hI.1
    refine Evx.step (fun k => by simp only [slices_insertionSortCmpFunc_1.l0]; rfl) ?_
    refine Evx.pos (by omega) ?_
    -- the one that goes down
    have hx : at_ ys ((a + 1 + i : Nat) : Int) = at_ xs ((a + 1 + i : Nat) : Int) := hI.2.1 _ (by omega)
    have hpos : ∀ p : Nat, a ≤ p → p < a + 1 + i → pos (at_ ys (p : Int)) (at_ xs ((a + 1 + i : Nat) : Int)) := fun p p1 p2 => by
      obtain ⟨l, l1, l2, e⟩ := hI.2.2 p p1 p2
      rw [e]; exact hS l _ l1 l2 (by omega)
    have fin : ∀ zs : List El, Out ys zs a (a + 1 + (i + 1)) → SortedOn (LtK key pos) zs a (a + 1 + (i + 1)) → Evx (fun k => slices_insertionSortCmpFunc_1.l0 k (a : Int) (b : Int) zs cap (wrap64 (((a + 1 + i : Nat) : Int) + 1))) (fun r => r.2 = cap ∧ Out xs r.1 a b ∧ SortedOn (LtK key pos) r.1 a b) := fun zs z1 z2 => by
      rw [wrap_id (x := ((a + 1 + i : Nat) : Int) + 1) (by omega) (by omega), show ((a + 1 + i : Nat) : Int) + 1 = ((a + 1 + (i + 1) : Nat) : Int) by omega]
      exact hn zs ⟨Out.trans (hI.mono (by omega) (by omega)) z1, z2⟩
    have key2 := evx_down (fun k d (zs : List El) => slices_insertionSortCmpFunc_1.l1 k (a : Int) (b : Int) ((a + 1 + i : Nat) : Int) zs cap ((a + d : Nat) : Int))
      (fun d zs => d ≤ 1 + i ∧ Out ys zs a (a + 1 + (i + 1)) ∧ at_ zs ((a + d : Nat) : Int) = at_ xs ((a + 1 + i : Nat) : Int) ∧ (∀ p : Nat, a ≤ p → p < a + 1 + (i + 1) → p ≠ a + d → pos (at_ zs (p : Int)) (at_ xs ((a + 1 + i : Nat) : Int))) ∧ (∀ p q : Nat, a ≤ p → p < q → q < a + 1 + (i + 1) → p ≠ a + d → q ≠ a + d → LtK key pos (at_ zs (p : Int)) (at_ zs (q : Int))) ∧ (∀ q : Nat, a + d < q → q < a + 1 + (i + 1) → LtK key pos (at_ xs ((a + 1 + i : Nat) : Int)) (at_ zs (q : Int))))
      (fun r => r.2 = cap ∧ Out xs r.1 a b ∧ SortedOn (LtK key pos) r.1 a b) ?_ ?_ (1 + i) ys ⟨by omega, Out.refl ys _ _, by rw [show a + (1 + i) = a + 1 + i by omega]; exact hx, fun p p1 p2 p3 => hpos p p1 (by omega), fun p q p1 p2 p3 p4 p5 => hT p q p1 p2 (by omega), fun q q1 q2 => by omega⟩
    · rw [show a + (1 + i) = a + 1 + i by omega] at key2; exact key2
    · rintro d zs ⟨d1, d2, d3, d4, d5, d6⟩ hnx
      have hz := d2.1
      refine Evx.step (fun k => by simp only [slices_insertionSortCmpFunc_1.l1]; rfl) ?_
      rw [show wrap64 (((a + (d + 1) : Nat) : Int) - 1) = ((a + d : Nat) : Int) by rw [wrap_id (by omega) (by omega)]; omega, Int.toNat_natCast, Int.toNat_natCast]
      have P1 : P (at_ zs ((a + (d + 1) : Nat) : Int)) := by rw [d3]; exact hP _ (by omega) (by omega)
      have P2 : P (at_ zs ((a + d : Nat) : Int)) := by
        obtain ⟨l, l1, l2, e⟩ := (Out.trans (hI.mono (Nat.le_refl a) (show a + 1 + i ≤ a + 1 + (i + 1) by omega)) d2).2.2 (a + d) (by omega) (by omega)
        rw [e]; exact hP _ l1 (by omega)
      obtain ⟨c, c1, c2⟩ := hC _ _ P1 P2
      refine Evx.pos (by omega) (Evx.pos (by omega) (Evx.pos (by omega) (Evx.pos (by omega) (Evx.pos (by omega) (Evx.opt c1 (Evx.ite (fun g => ?_) (fun g => ?_)))))))
      · have hlt := LtK.less (pos := pos) (c2.1 g)
        rw [d3] at hlt
        have hsw := fun k => swp_at (xs := zs) (i := a + (d + 1)) (j := a + d) k (by omega) (by omega)
        refine hnx (swp zs (a + (d + 1)) (a + d)) ⟨by omega, Out.trans d2 (Out.via (Via.swp (σ := fun k => if k = a + d then a + (d + 1) else if k = a + (d + 1) then a + d else k) (by omega) (by omega) (fun _ _ => rfl)) (by omega) (fun k _ hk => by (repeat' split) <;> omega) (fun k k1 k2 => by (repeat' split) <;> omega)), ?_, ?_, ?_, ?_⟩
        · rw [hsw, if_pos rfl]; exact d3
        · intro p p1 p2 p3
          rw [hsw, if_neg p3]
          split
          · exact d4 _ (by omega) (by omega) (by omega)
          · exact d4 _ p1 p2 (by omega)
        · intro p q p1 p2 p3 p4 p5
          rw [hsw, hsw, if_neg p4, if_neg p5]
          by_cases e1 : p = a + (d + 1)
          · rw [if_pos e1, if_neg (by omega)]
            exact d5 _ _ (by omega) (by omega) p3 (by omega) (by omega)
          · rw [if_neg e1]
            by_cases e2 : q = a + (d + 1)
            · rw [if_pos e2]
              exact d5 _ _ p1 (by omega) (by omega) e1 (by omega)
            · rw [if_neg e2]
              exact d5 _ _ p1 p2 p3 e1 e2
        · intro q q1 q2
          rw [hsw, if_neg (by omega)]
          by_cases e2 : q = a + (d + 1)
          · rw [if_pos e2]; exact hlt
          · rw [if_neg e2]; exact d6 q (by omega) q2
      · have hge : LtK key pos (at_ zs ((a + d : Nat) : Int)) (at_ xs ((a + 1 + i : Nat) : Int)) := by
          refine LtK.not (d4 _ (by omega) (by omega) (by omega)) ?_
          rw [← d3]
          exact fun w => g (c2.2 w)
        refine fin zs d2 (fun p q p1 p2 p3 => ?_)
        by_cases e1 : p = a + (d + 1)
        · rw [e1, d3]; exact d6 q (by omega) p3
        · by_cases e2 : q = a + (d + 1)
          · rw [e2, d3]
            by_cases e3 : p = a + d
            · rw [e3]; exact hge
            · exact LtK.trans hO (d5 p (a + d) p1 (by omega) (by omega) e1 (by omega)) hge
          · exact d5 p q p1 p2 p3 e1 e2
    · rintro zs ⟨d1, d2, d3, d4, d5, d6⟩
      refine Evx.step (fun k => by simp only [slices_insertionSortCmpFunc_1.l1]; rfl) ?_
      refine Evx.neg (by omega) (fin zs d2 (fun p q p1 p2 p3 => ?_))
      by_cases e1 : p = a + 0
      · rw [e1, d3]; exact d6 q (by omega) p3
      · exact d5 p q p1 p2 p3 e1 (by omega)
  · intro ys ⟨hI, hT⟩
    rw [show a + 1 + (b - (a + 1)) = b by omega] at hI hT
    refine Evx.step (fun k => by simp only [slices_insertionSortCmpFunc_1.l0]; rfl) ?_
    exact Evx.neg (by omega) (Evx.val ⟨rfl, hI, hT⟩)
section
variable {P : El → Prop} {key : El → Int} {pos : El → El → Prop} {cap : Cap}
theorem sort_le (hO : OrdP key pos) {xs : List El} {a b p q : Nat} (h : SortedOn (LtK key pos) xs a b) (h1 : a ≤ p) (h2 : p ≤ q) (h3 : q < b) {v : El} (hv : LtK key pos (at_ xs (q : Int)) v) : LtK key pos (at_ xs (p : Int)) v := by
  by_cases e : p = q
  · rw [e]; exact hv
  · exact LtK.trans hO (h p q h1 (by omega) h3) hv
theorem sort_ge (hO : OrdP key pos) {xs : List El} {a b p q : Nat} (h : SortedOn (LtK key pos) xs a b) (h1 : a ≤ p) (h2 : p ≤ q) (h3 : q < b) {v : El} (hv : LtK key pos v (at_ xs (p : Int))) : LtK key pos v (at_ xs (q : Int)) := by
  by_cases e : p = q
  · rw [← e]; exact hv
  · exact LtK.trans hO hv (h p q h1 (by omega) h3)
/-- One at the left end is put in its place. -/
theorem evx_merge_l (hO : OrdP key pos) (hC : CmpP cmpF P key cap) (xs : List El) (a b : Nat) (h1 : a + 1 < b) (h2 : b ≤ xs.length) (hl : xs.length ≤ 1048576) (hP : OnP P xs a b) (hB : BeforeP pos xs a (a + 1) b) (hS : SortedOn (LtK key pos) xs (a + 1) b) : ∀ (d i j : Nat), j - i ≤ d → a + 1 ≤ i → i ≤ j → j ≤ b → (∀ k : Nat, a + 1 ≤ k → k < i → LtK key pos (at_ xs (k : Int)) (at_ xs (a : Int))) → (∀ k : Nat, j ≤ k → k < b → LtK key pos (at_ xs (a : Int)) (at_ xs (k : Int))) → Evx (fun k => slices_symMergeCmpFunc_1.l0 k xs (a : Int) cap (i : Int) (j : Int)) (fun r => r.2 = cap ∧ Out xs r.1 a b ∧ SortedOn (LtK key pos) r.1 a b) := by
  have fin : ∀ i : Nat, a + 1 ≤ i → i ≤ b → (∀ k : Nat, a + 1 ≤ k → k < i → LtK key pos (at_ xs (k : Int)) (at_ xs (a : Int))) → (∀ k : Nat, i ≤ k → k < b → LtK key pos (at_ xs (a : Int)) (at_ xs (k : Int))) → Evx (fun k => slices_symMergeCmpFunc_1.l1 k cap (i : Int) xs (a : Int)) (fun r => r.2 = cap ∧ Out xs r.1 a b ∧ SortedOn (LtK key pos) r.1 a b) := by
    intro i i1 i2 hA hZ
    refine evx_loop (fun k c (zs : List El) => slices_symMergeCmpFunc_1.l1 k cap (i : Int) zs ((a + c : Nat) : Int)) (i - 1 - a) (fun c zs => Via xs zs (fun p => if p < a then p else if p < a + c then p + 1 else if p = a + c then a else p)) _ ?_ ?_ xs (Via.id xs fun k _ => by (repeat' split) <;> omega)
    · intro c zs hc hI hn
      have hz := hI.1
      refine Evx.step (fun k => by simp only [slices_symMergeCmpFunc_1.l1]; rfl) ?_
      rw [show wrap64 (((a + c : Nat) : Int) + 1) = ((a + (c + 1) : Nat) : Int) by rw [wrap_id (by omega) (by omega)]; omega, wrap_id (x := (i : Int) - 1) (by omega) (by omega), Int.toNat_natCast, Int.toNat_natCast]
      refine Evx.pos (by omega) (Evx.pos (by omega) (Evx.pos (by omega) (Evx.pos (by omega) (Evx.pos (by omega) ?_))))
      refine hn (swp zs (a + c) (a + (c + 1))) (Via.trans hI (Via.swp (σ := fun k => if k = a + (c + 1) then a + c else if k = a + c then a + (c + 1) else k) (by omega) (by omega) (fun _ _ => rfl)) (fun k hk => by (repeat' split) <;> omega) (fun k hk => by (repeat' split) <;> omega))
    · intro zs hI
      refine Evx.step (fun k => by simp only [slices_symMergeCmpFunc_1.l1]; rfl) ?_
      rw [wrap_id (x := (i : Int) - 1) (by omega) (by omega)]
      refine Evx.neg (by omega) (Evx.val ⟨rfl, Out.via hI h2 (fun k hk g => by (repeat' split) <;> omega) (fun k k1 k2 => by (repeat' split) <;> omega), fun p q p1 p2 p3 => ?_⟩)
      rw [hI.2 p (by omega), hI.2 q (by omega)]
      dsimp only
      rw [if_neg (show ¬ p < a by omega), if_neg (show ¬ q < a by omega)]
      by_cases e1 : p < a + (i - 1 - a)
      · rw [if_pos e1]
        by_cases e2 : q < a + (i - 1 - a)
        · rw [if_pos e2]; exact hS _ _ (by omega) (by omega) (by omega)
        · rw [if_neg e2]
          by_cases e3 : q = a + (i - 1 - a)
          · rw [if_pos e3]; exact hA _ (by omega) (by omega)
          · rw [if_neg e3]; exact hS _ _ (by omega) (by omega) (by omega)
      · rw [if_neg e1, if_neg (show ¬ q < a + (i - 1 - a) by omega), if_neg (show ¬ q = a + (i - 1 - a) by omega)]
        by_cases e2 : p = a + (i - 1 - a)
        · rw [if_pos e2]; exact hZ _ (by omega) (by omega)
        · rw [if_neg e2]; exact hS _ _ (by omega) (by omega) (by omega)
  intro d
  induction d with
  | zero =>
    intro i j h0 i1 i2 i3 hA hZ
    obtain rfl : i = j := by omega
    refine Evx.step (fun k => by simp only [slices_symMergeCmpFunc_1.l0]; rfl) ?_
    exact Evx.neg (by omega) (fin i i1 i3 hA hZ)
  | succ d ih =>
    intro i j h0 i1 i2 i3 hA hZ
    refine Evx.step (fun k => by simp only [slices_symMergeCmpFunc_1.l0]; rfl) ?_
    refine Evx.ite (fun g => ?_) (fun g => by
      obtain rfl : i = j := by omega
      exact fin i i1 i3 hA hZ)
    rw [half_ok i j (by omega)]
    generalize hh : (i + j) / 2 = h
    have hb : i ≤ h ∧ h < j := by omega
    obtain ⟨c, c1, c2⟩ := hC _ _ (hP h (by omega) (by omega)) (hP a (by omega) (by omega))
    refine Evx.pos (by omega) (Evx.pos (by omega) (Evx.pos (by omega) (Evx.pos (by omega) (Evx.opt c1 (Evx.ite (fun q => ?_) (fun q => ?_))))))
    · rw [wrap_succ (n := 1048576) (by omega) (by omega)]
      exact ih (h + 1) j (by omega) (by omega) (by omega) i3 (fun k k1 k2 => sort_le hO hS k1 (by omega) (by omega) (LtK.less (c2.1 q))) hZ
    · exact ih i h (by omega) i1 (by omega) (by omega) hA (fun k k1 k2 => sort_ge hO hS (by omega) k1 k2 (LtK.not (hB a h (by omega) (by omega) (by omega) (by omega)) (fun w => q (c2.2 w))))
/-- One at the right end is put in its place. -/
theorem evx_merge_r (hO : OrdP key pos) (hC : CmpP cmpF P key cap) (xs : List El) (a m : Nat) (h1 : a < m) (h2 : m + 1 ≤ xs.length) (hl : xs.length ≤ 1048576) (hP : OnP P xs a (m + 1)) (hB : BeforeP pos xs a m (m + 1)) (hS : SortedOn (LtK key pos) xs a m) : ∀ (d i j : Nat), j - i ≤ d → a ≤ i → i ≤ j → j ≤ m → (∀ k : Nat, a ≤ k → k < i → LtK key pos (at_ xs (k : Int)) (at_ xs (m : Int))) → (∀ k : Nat, j ≤ k → k < m → LtK key pos (at_ xs (m : Int)) (at_ xs (k : Int))) → Evx (fun k => slices_symMergeCmpFunc_1.l2 k xs (m : Int) cap (i : Int) (j : Int)) (fun r => r.2 = cap ∧ Out xs r.1 a (m + 1) ∧ SortedOn (LtK key pos) r.1 a (m + 1)) := by
  have fin : ∀ i : Nat, a ≤ i → i ≤ m → (∀ k : Nat, a ≤ k → k < i → LtK key pos (at_ xs (k : Int)) (at_ xs (m : Int))) → (∀ k : Nat, i ≤ k → k < m → LtK key pos (at_ xs (m : Int)) (at_ xs (k : Int))) → Evx (fun k => slices_symMergeCmpFunc_1.l3 k cap (i : Int) xs (m : Int)) (fun r => r.2 = cap ∧ Out xs r.1 a (m + 1) ∧ SortedOn (LtK key pos) r.1 a (m + 1)) := by
    intro i i1 i2 hA hZ
    have key1 := evx_down (fun k c (zs : List El) => slices_symMergeCmpFunc_1.l3 k cap (i : Int) zs ((i + c : Nat) : Int)) (fun c zs => i + c ≤ m ∧ Via xs zs (fun p => if p < i + c then p else if p = i + c then m else if p ≤ m then p - 1 else p)) (fun r => r.2 = cap ∧ Out xs r.1 a (m + 1) ∧ SortedOn (LtK key pos) r.1 a (m + 1)) ?_ ?_ (m - i) xs ⟨by omega, Via.id xs fun k _ => by (repeat' split) <;> omega⟩
    · rw [show i + (m - i) = m by omega] at key1; exact key1
    · rintro c zs ⟨hc, hI⟩ hn
      have hz := hI.1
      refine Evx.step (fun k => by simp only [slices_symMergeCmpFunc_1.l3]; rfl) ?_
      rw [show wrap64 (((i + (c + 1) : Nat) : Int) - 1) = ((i + c : Nat) : Int) by rw [wrap_id (by omega) (by omega)]; omega, Int.toNat_natCast, Int.toNat_natCast]
      refine Evx.pos (by omega) (Evx.pos (by omega) (Evx.pos (by omega) (Evx.pos (by omega) (Evx.pos (by omega) ?_))))
      refine hn (swp zs (i + (c + 1)) (i + c)) ⟨by omega, Via.trans hI (Via.swp (σ := fun k => if k = i + c then i + (c + 1) else if k = i + (c + 1) then i + c else k) (by omega) (by omega) (fun _ _ => rfl)) (fun k hk => by (repeat' split) <;> omega) (fun k hk => by (repeat' split) <;> omega)⟩
    · rintro zs ⟨_, hI⟩
      refine Evx.step (fun k => by simp only [slices_symMergeCmpFunc_1.l3]; rfl) ?_
      refine Evx.neg (by omega) (Evx.val ⟨rfl, Out.via hI h2 (fun k hk g => by (repeat' split) <;> omega) (fun k k1 k2 => by (repeat' split) <;> omega), fun p q p1 p2 p3 => ?_⟩)
      rw [hI.2 p (by omega), hI.2 q (by omega)]
      dsimp only
      by_cases e1 : p < i + 0
      · rw [if_pos e1]
        by_cases e2 : q < i + 0
        · rw [if_pos e2]; exact hS _ _ p1 p2 (by omega)
        · rw [if_neg e2]
          by_cases e3 : q = i + 0
          · rw [if_pos e3]; exact hA _ p1 (by omega)
          · rw [if_neg e3, if_pos (by omega)]; exact hS _ _ p1 (by omega) (by omega)
      · rw [if_neg e1, if_neg (by omega : ¬ q < i + 0), if_neg (by omega : ¬ q = i + 0), if_pos (by omega : q ≤ m)]
        by_cases e2 : p = i + 0
        · rw [if_pos e2]; exact hZ _ (by omega) (by omega)
        · rw [if_neg e2, if_pos (by omega)]; exact hS _ _ (by omega) (by omega) (by omega)
  intro d
  induction d with
  | zero =>
    intro i j h0 i1 i2 i3 hA hZ
    obtain rfl : i = j := by omega
    refine Evx.step (fun k => by simp only [slices_symMergeCmpFunc_1.l2]; rfl) ?_
    exact Evx.neg (by omega) (fin i i1 i3 hA hZ)
  | succ d ih =>
    intro i j h0 i1 i2 i3 hA hZ
    refine Evx.step (fun k => by simp only [slices_symMergeCmpFunc_1.l2]; rfl) ?_
    refine Evx.ite (fun g => ?_) (fun g => by
      obtain rfl : i = j := by omega
      exact fin i i1 i3 hA hZ)
    rw [half_ok i j (by omega)]
    generalize hh : (i + j) / 2 = h
    have hb : i ≤ h ∧ h < j := by omega
    obtain ⟨c, c1, c2⟩ := hC _ _ (hP m (by omega) (by omega)) (hP h (by omega) (by omega))
    refine Evx.pos (by omega) (Evx.pos (by omega) (Evx.pos (by omega) (Evx.pos (by omega) (Evx.opt c1 (Evx.ite (fun q => ?_) (fun q => ?_))))))
    · exact ih i h (by omega) i1 (by omega) (by omega) hA (fun k k1 k2 => sort_ge hO hS (by omega) k1 k2 (LtK.less (c2.1 q)))
    · rw [wrap_succ (n := 1048576) (by omega) (by omega)]
      exact ih (h + 1) j (by omega) (by omega) (by omega) i3 (fun k k1 k2 => sort_le hO hS k1 (by omega) (by omega) (LtK.not (hB h m (by omega) (by omega) (by omega) (by omega)) (fun w => q (c2.2 w)))) hZ
/-- What merging is asked for. -/
def MergeP (P : El → Prop) (key : El → Int) (pos : El → El → Prop) (xs : List El) (a m b : Nat) : Prop := OnP P xs a b ∧ BeforeP pos xs a m b ∧ SortedOn (LtK key pos) xs a m ∧ SortedOn (LtK key pos) xs m b
theorem evx_symMerge (hO : OrdP key pos) (hC : CmpP cmpF P key cap) : ∀ (d a m b : Nat) (xs : List El), b - a ≤ d → a < m → m < b → b ≤ xs.length → xs.length ≤ 1048576 → MergeP P key pos xs a m b → Evx (fun k => slices_symMergeCmpFunc_1.f k xs (a : Int) (m : Int) (b : Int) cap) (fun r => r.2 = cap ∧ Out xs r.1 a b ∧ SortedOn (LtK key pos) r.1 a b) := by
  intro d
  induction d with
  | zero => intro a m b xs h0 h1 h2; omega
  | succ d ih =>
    intro a m b xs h0 h1 h2 h3 h4 ⟨hP, hB, hL, hR⟩
    refine Evx.step (fun k => by simp only [slices_symMergeCmpFunc_1.f]; rfl) ?_
    rw [wrap_id (x := (m : Int) - (a : Int)) (by omega) (by omega), wrap_id (x := (b : Int) - (m : Int)) (by omega) (by omega)]
    refine Evx.ite (fun g => ?_) (fun g1 => Evx.ite (fun g => ?_) (fun g2 => ?_))
    · obtain rfl : m = a + 1 := by omega
      exact evx_merge_l hO hC xs a b (by omega) h3 h4 hP hB hR (b - (a + 1)) (a + 1) b (by omega) (by omega) (by omega) (by omega) (fun k k1 k2 => by omega) (fun k k1 k2 => by omega)
    · obtain rfl : b = m + 1 := by omega
      exact evx_merge_r hO hC xs a m h1 h3 h4 hP hB hL (m - a) a m (by omega) (by omega) (by omega) (by omega) (fun k k1 k2 => by omega) (fun k k1 k2 => by omega)
    rw [half_ok a b (by omega)]
    have hc0 : 2 * ((a + b) / 2) ≤ a + b ∧ a + b < 2 * ((a + b) / 2) + 2 := by omega
    have hhalf := half_ok a b (by omega)
    generalize (a + b) / 2 = c at hc0 hhalf ⊢
    -- the two halves
    have tail : ∀ (s e : Nat) (ys zs : List El), c + m = e + s → a ≤ s → s ≤ m → m ≤ e → e ≤ b → Via xs ys (rotI s m e) → (∀ u v : Nat, a ≤ u → u < c → c ≤ v → v < b → LtK key pos (at_ ys (u : Int)) (at_ ys (v : Int))) → MergeP P key pos ys c e b → Out ys zs a c → SortedOn (LtK key pos) zs a c → Evx (fun k => (if (c : Int) < (e : Int) then (if (e : Int) < (b : Int) then ((slices_symMergeCmpFunc_1.f k zs (c : Int) (e : Int) (b : Int) cap).bind fun x21 => (some (x21.1, x21.2))) else (some (zs, cap))) else (some (zs, cap)))) (fun r => r.2 = cap ∧ Out xs r.1 a b ∧ SortedOn (LtK key pos) r.1 a b) := by
      intro s e ys zs hse s1 s2 e1 e2 hV hSep hM hZ hZs
      have hOx : Out xs ys a b := Out.via hV h3 (fun k hk g => by unfold rotI; (repeat' split) <;> omega) (fun k k1 k2 => by unfold rotI; (repeat' split) <;> omega)
      have done : ∀ ws : List El, Out zs ws c b → SortedOn (LtK key pos) ws c b → Out xs ws a b ∧ SortedOn (LtK key pos) ws a b := by
        intro ws w1 w2
        refine ⟨Out.trans hOx (Out.trans (hZ.mono (Nat.le_refl _) (by omega)) (w1.mono (by omega) (Nat.le_refl _))), fun p q p1 p2 p3 => ?_⟩
        by_cases gp : c ≤ p
        · exact w2 p q gp p2 p3
        · rw [w1.2.1 p (by omega)]
          by_cases gq : c ≤ q
          · obtain ⟨l, l1, l2, el⟩ := hZ.2.2 p p1 (by omega)
            obtain ⟨l', m1, m2, el'⟩ := w1.2.2 q gq p3
            rw [el, el', hZ.2.1 l' (by omega)]
            exact hSep l l' l1 l2 m1 m2
          · rw [w1.2.1 q (by omega)]
            exact hZs p q p1 p2 (by omega)
      have hzM : MergeP P key pos zs c e b := by
        obtain ⟨m1, m2, m3, m4⟩ := hM
        refine ⟨fun p p1 p2 => ?_, fun p q p1 p2 p3 p4 => ?_, fun p q p1 p2 p3 => ?_, fun p q p1 p2 p3 => ?_⟩
        · rw [hZ.2.1 p (by omega)]; exact m1 p p1 p2
        · rw [hZ.2.1 p (by omega), hZ.2.1 q (by omega)]; exact m2 p q p1 p2 p3 p4
        · rw [hZ.2.1 p (by omega), hZ.2.1 q (by omega)]; exact m3 p q p1 p2 p3
        · rw [hZ.2.1 p (by omega), hZ.2.1 q (by omega)]; exact m4 p q p1 p2 p3
      have hzl : zs.length = xs.length := hZ.1.trans hV.1
      refine Evx.ite (fun g => Evx.ite (fun g' => ?_) (fun g' => ?_)) (fun g => ?_)
      · exact Evx.bind (ih c e b zs (by omega) (by omega) (by omega) (by omega) (by omega) hzM) (fun r ⟨r1, r2, r3⟩ => Evx.val ⟨r1, done r.1 r2 r3⟩)
      · exact Evx.val ⟨rfl, done zs (Out.refl _ _ _) (by obtain rfl : e = b := (by omega); exact hzM.2.2.1)⟩
      · exact Evx.val ⟨rfl, done zs (Out.refl _ _ _) (by obtain rfl : e = c := (by omega); exact hzM.2.2.2)⟩
    -- behind the turn
    have turned : ∀ (s e : Nat) (ys : List El), c + m = e + s → a ≤ s → s ≤ m → m ≤ e → e ≤ b → Via xs ys (rotI s m e) → (∀ u v : Nat, ((a ≤ u ∧ u < s) ∨ (m ≤ u ∧ u < e)) → ((s ≤ v ∧ v < m) ∨ (e ≤ v ∧ v < b)) → LtK key pos (at_ xs (u : Int)) (at_ xs (v : Int))) → Evx (fun k => slices_symMergeCmpFunc_1.j5 k (a : Int) (m : Int) (b : Int) (s : Int) ys cap) (fun r => r.2 = cap ∧ Out xs r.1 a b ∧ SortedOn (LtK key pos) r.1 a b) := by
      intro s e ys hse s1 s2 e1 e2 hV hF
      have hyl := hV.1
      refine Evx.step (fun k => by simp only [slices_symMergeCmpFunc_1.j5]; rfl) ?_
      rw [hhalf, show wrap64 (wrap64 ((c : Int) + (m : Int)) - (s : Int)) = (e : Int) by rw [wrap_id (x := (c : Int) + (m : Int)) (by omega) (by omega), wrap_id (by omega) (by omega)]; omega]
      have A1 : ∀ k : Nat, k < s → at_ ys (k : Int) = at_ xs (k : Int) := fun k hk => by rw [hV.2 k (by omega)]; unfold rotI; rw [if_neg (by omega), if_neg (by omega)]
      have A2 : ∀ k : Nat, s ≤ k → k < c → at_ ys (k : Int) = at_ xs ((k + m - s : Nat) : Int) := fun k h hk => by rw [hV.2 k (by omega)]; unfold rotI; rw [if_pos (by omega)]
      have A3 : ∀ k : Nat, c ≤ k → k < e → at_ ys (k : Int) = at_ xs ((k - (e - m) : Nat) : Int) := fun k h hk => by rw [hV.2 k (by omega)]; unfold rotI; rw [if_neg (by omega), if_pos (by omega)]
      have A4 : ∀ k : Nat, e ≤ k → k < b → at_ ys (k : Int) = at_ xs (k : Int) := fun k h hk => by rw [hV.2 k (by omega)]; unfold rotI; rw [if_neg (by omega), if_neg (by omega)]
      have hSep : ∀ u v : Nat, a ≤ u → u < c → c ≤ v → v < b → LtK key pos (at_ ys (u : Int)) (at_ ys (v : Int)) := by
        intro u v u1 u2 v1 v2
        by_cases gu : u < s
        · rw [A1 u gu]
          by_cases gv : v < e
          · rw [A3 v v1 gv]; exact hF _ _ (by omega) (by omega)
          · rw [A4 v (by omega) v2]; exact hF _ _ (by omega) (by omega)
        · rw [A2 u (by omega) u2]
          by_cases gv : v < e
          · rw [A3 v v1 gv]; exact hF _ _ (by omega) (by omega)
          · rw [A4 v (by omega) v2]; exact hF _ _ (by omega) (by omega)
      have M1 : MergeP P key pos ys a s c := by
        refine ⟨fun p p1 p2 => ?_, fun p q p1 p2 p3 p4 => ?_, fun p q p1 p2 p3 => ?_, fun p q p1 p2 p3 => ?_⟩
        · by_cases g : p < s
          · rw [A1 p g]; exact hP p p1 (by omega)
          · rw [A2 p (by omega) p2]; exact hP _ (by omega) (by omega)
        · rw [A1 p p2, A2 q p3 p4]; exact hB _ _ p1 (by omega) (by omega) (by omega)
        · rw [A1 p (by omega), A1 q p3]; exact hL p q p1 p2 (by omega)
        · rw [A2 p p1 (by omega), A2 q (by omega) p3]; exact hR _ _ (by omega) (by omega) (by omega)
      have M2 : MergeP P key pos ys c e b := by
        refine ⟨fun p p1 p2 => ?_, fun p q p1 p2 p3 p4 => ?_, fun p q p1 p2 p3 => ?_, fun p q p1 p2 p3 => ?_⟩
        · by_cases g : p < e
          · rw [A3 p p1 g]; exact hP _ (by omega) (by omega)
          · rw [A4 p (by omega) p2]; exact hP p (by omega) p2
        · rw [A3 p p1 p2, A4 q p3 p4]; exact hB _ _ (by omega) (by omega) (by omega) (by omega)
        · rw [A3 p p1 (by omega), A3 q (by omega) p3]; exact hL _ _ (by omega) (by omega) (by omega)
        · rw [A4 p p1 (by omega), A4 q (by omega) p3]; exact hR _ _ (by omega) (by omega) (by omega)
      refine Evx.ite (fun g => Evx.ite (fun g' => ?_) (fun g' => ?_)) (fun g => ?_)
      · refine Evx.bind (ih a s c ys (by omega) (by omega) (by omega) (by omega) (by omega) M1) (fun r ⟨r1, r2, r3⟩ => ?_)
        rw [r1]
        exact tail s e ys r.1 hse s1 s2 e1 e2 hV hSep M2 r2 r3
      · exact tail s e ys ys hse s1 s2 e1 e2 hV hSep M2 (Out.refl _ _ _) (by obtain rfl : s = c := (by omega); exact M1.2.2.1)
      · exact tail s e ys ys hse s1 s2 e1 e2 hV hSep M2 (Out.refl _ _ _) (by obtain rfl : s = a := (by omega); exact M1.2.2.2)
    -- the search
    have search : ∀ (s0 r0 : Nat), a ≤ s0 → s0 ≤ r0 → r0 ≤ m → r0 ≤ c → c + m ≤ b + s0 → (s0 = a ∨ s0 + b = c + m) → (r0 = m ∨ r0 = c) → ∀ (w s r : Nat), r - s ≤ w → s0 ≤ s → s ≤ r → r ≤ r0 → (∀ k : Nat, s0 ≤ k → k < s → LtK key pos (at_ xs (k : Int)) (at_ xs ((c + m - 1 - k : Nat) : Int))) → (∀ k : Nat, r ≤ k → k < r0 → LtK key pos (at_ xs ((c + m - 1 - k : Nat) : Int)) (at_ xs (k : Int))) → Evx (fun k => slices_symMergeCmpFunc_1.l4 k xs (a : Int) (m : Int) (b : Int) cap (s : Int) (r : Int)) (fun r => r.2 = cap ∧ Out xs r.1 a b ∧ SortedOn (LtK key pos) r.1 a b) := by
      intro s0 r0 k1 k2 k3 k4 k5 k6 k7 w
      have fin : ∀ s : Nat, s0 ≤ s → s ≤ r0 → (∀ k : Nat, s0 ≤ k → k < s → LtK key pos (at_ xs (k : Int)) (at_ xs ((c + m - 1 - k : Nat) : Int))) → (∀ k : Nat, s ≤ k → k < r0 → LtK key pos (at_ xs ((c + m - 1 - k : Nat) : Int)) (at_ xs (k : Int))) → Evx (fun k => (if (s : Int) < (m : Int) then (if (m : Int) < ((c + m - s : Nat) : Int) then ((slices_rotateCmpFunc_1.f k xs (s : Int) (m : Int) ((c + m - s : Nat) : Int) cap).bind fun x17 => (slices_symMergeCmpFunc_1.j5 k (a : Int) (m : Int) (b : Int) (s : Int) x17.1 x17.2)) else (slices_symMergeCmpFunc_1.j5 k (a : Int) (m : Int) (b : Int) (s : Int) xs cap)) else (slices_symMergeCmpFunc_1.j5 k (a : Int) (m : Int) (b : Int) (s : Int) xs cap))) (fun r => r.2 = cap ∧ Out xs r.1 a b ∧ SortedOn (LtK key pos) r.1 a b) := by
        intro s f1 f2 fA fZ
        have hF : ∀ u v : Nat, ((a ≤ u ∧ u < s) ∨ (m ≤ u ∧ u < c + m - s)) → ((s ≤ v ∧ v < m) ∨ (c + m - s ≤ v ∧ v < b)) → LtK key pos (at_ xs (u : Int)) (at_ xs (v : Int)) := by
          intro u v hu hv
          rcases hu with hu | hu <;> rcases hv with hv | hv
          · exact hL u v hu.1 (by omega) hv.2
          · have := fA (s - 1) (by omega) (by omega)
            rw [show c + m - 1 - (s - 1) = c + m - s by omega] at this
            exact sort_le hO hL hu.1 (by omega) (by omega) (sort_ge hO hR (by omega) hv.1 hv.2 this)
          · have := fZ s (by omega) (by omega)
            exact sort_le hO hR hu.1 (by omega) (by omega) (sort_ge hO hL (by omega) hv.1 hv.2 this)
          · exact hR u v hu.1 (by omega) hv.2
        refine Evx.ite (fun g => Evx.ite (fun g' => ?_) (fun g' => ?_)) (fun g => ?_)
        · refine Evx.bind (evx_rotate xs s m (c + m - s) cap (by omega) (by omega) (by omega) h4) (fun r ⟨r1, r2⟩ => ?_)
          rw [r1]
          exact turned s (c + m - s) r.1 (by omega) (by omega) (by omega) (by omega) (by omega) r2 hF
        · exact turned s (c + m - s) xs (by omega) (by omega) (by omega) (by omega) (by omega) (Via.id xs fun k hk => by unfold rotI; (repeat' split) <;> omega) hF
        · exact turned s (c + m - s) xs (by omega) (by omega) (by omega) (by omega) (by omega) (Via.id xs fun k hk => by unfold rotI; (repeat' split) <;> omega) hF
      induction w with
      | zero =>
        intro s r q0 q1 q2 q3 fA fZ
        obtain rfl : s = r := by omega
        refine Evx.step (fun k => by simp only [slices_symMergeCmpFunc_1.l4]; rfl) ?_
        rw [hhalf, show wrap64 (wrap64 ((c : Int) + (m : Int)) - (s : Int)) = ((c + m - s : Nat) : Int) by rw [wrap_id (x := (c : Int) + (m : Int)) (by omega) (by omega), wrap_id (by omega) (by omega)]; omega]
        exact Evx.neg (by omega) (fin s q1 q3 fA fZ)
      | succ w ihw =>
        intro s r q0 q1 q2 q3 fA fZ
        refine Evx.step (fun k => by simp only [slices_symMergeCmpFunc_1.l4]; rfl) ?_
        rw [hhalf, show wrap64 (wrap64 ((c : Int) + (m : Int)) - (s : Int)) = ((c + m - s : Nat) : Int) by rw [wrap_id (x := (c : Int) + (m : Int)) (by omega) (by omega), wrap_id (by omega) (by omega)]; omega]
        refine Evx.ite (fun g => ?_) (fun g => by
          obtain rfl : s = r := by omega
          exact fin s q1 q3 fA fZ)
        rw [half_ok s r (by omega)]
        generalize hh : (s + r) / 2 = h
        have hb : s ≤ h ∧ h < r := by omega
        rw [show wrap64 (wrap64 (wrap64 ((c : Int) + (m : Int)) - 1) - (h : Int)) = ((c + m - 1 - h : Nat) : Int) by rw [wrap_id (x := (c : Int) + (m : Int)) (by omega) (by omega), wrap_id (x := (c : Int) + (m : Int) - 1) (by omega) (by omega), wrap_id (by omega) (by omega)]; omega]
        obtain ⟨z, z1, z2⟩ := hC _ _ (hP (c + m - 1 - h) (by omega) (by omega)) (hP h (by omega) (by omega))
        refine Evx.pos (by omega) (Evx.pos (by omega) (Evx.pos (by omega) (Evx.pos (by omega) (Evx.opt z1 (Evx.ite (fun q => ?_) (fun q => ?_))))))
        · exact ihw s h (by omega) q1 (by omega) (by omega) fA (fun k w1 w2 => sort_le hO hR (by omega) (show c + m - 1 - k ≤ c + m - 1 - h by omega) (by omega) (sort_ge hO hL (by omega) w1 (by omega) (LtK.less (z2.1 q))))
        · rw [wrap_succ (n := 1048576) (by omega) (by omega)]
          exact ihw (h + 1) r (by omega) (by omega) (by omega) q3 (fun k w1 w2 => sort_le hO hL (by omega) (show k ≤ h by omega) (by omega) (sort_ge hO hR (by omega) (show c + m - 1 - h ≤ c + m - 1 - k by omega) (by omega) (LtK.not (hB h _ (by omega) (by omega) (by omega) (by omega)) (fun w => q (z2.2 w))))) fZ
    refine Evx.ite (fun g => ?_) (fun g => ?_)
    · rw [show wrap64 (wrap64 ((c : Int) + (m : Int)) - (b : Int)) = ((c + m - b : Nat) : Int) by rw [wrap_id (x := (c : Int) + (m : Int)) (by omega) (by omega), wrap_id (by omega) (by omega)]; omega]
      exact search (c + m - b) c (by omega) (by omega) (by omega) (by omega) (by omega) (by omega) (by omega) _ (c + m - b) c (Nat.le_refl _) (by omega) (by omega) (by omega) (fun k k1 k2 => by omega) (fun k k1 k2 => by omega)
    · exact search a m (by omega) (by omega) (by omega) (by omega) (by omega) (by omega) (by omega) _ a m (Nat.le_refl _) (by omega) (by omega) (by omega) (fun k k1 k2 => by omega) (fun k k1 k2 => by omega)
end
theorem div_blk {w q k : Nat} (hw : 0 < w) (h1 : q * w ≤ k) (h2 : k < (q + 1) * w) : k / w = q := by
  have a1 : q ≤ k / w := (Nat.le_div_iff_mul_le hw).2 h1
  have a2 : k / w < q + 1 := (Nat.div_lt_iff_lt_mul hw).2 h2
  omega
theorem blk_div {w q k : Nat} (hw : 0 < w) (h : k / w = q) : q * w ≤ k ∧ k < (q + 1) * w := by
  have a1 := (Nat.le_div_iff_mul_le hw).1 (show q ≤ k / w by omega)
  have a2 := (Nat.div_lt_iff_lt_mul hw).1 (show k / w < q + 1 by omega)
  exact ⟨a1, a2⟩
/-- Sorted within each block of w, as far as n. -/
def Runs {α : Type} [Inhabited α] (lt : α → α → Prop) (xs : List α) (w n : Nat) : Prop := ∀ p q : Nat, p < q → q < n → p / w = q / w → lt (at_ xs (p : Int)) (at_ xs (q : Int))
/-- What stands somewhere came from the same block. -/
def Within {α : Type} [Inhabited α] (xs ys : List α) (w n : Nat) : Prop := ys.length = xs.length ∧ ∀ k : Nat, k < n → ∃ l : Nat, l < n ∧ l / w = k / w ∧ at_ ys (k : Int) = at_ xs (l : Int)
theorem Within.trans {α : Type} [Inhabited α] {xs ys zs : List α} {w n : Nat} (h : Within xs ys w n) (h2 : Within ys zs w n) : Within xs zs w n := by
  refine ⟨h2.1.trans h.1, fun k hk => ?_⟩
  obtain ⟨l, l1, l2, e⟩ := h2.2 k hk
  obtain ⟨l', m1, m2, e'⟩ := h.2 l l1
  exact ⟨l', m1, m2.trans l2, e.trans e'⟩
theorem Within.two {α : Type} [Inhabited α] {xs ys : List α} {w n : Nat} (h : Within xs ys w n) : Within xs ys (w * 2) n := by
  refine ⟨h.1, fun k hk => ?_⟩
  obtain ⟨l, l1, l2, e⟩ := h.2 k hk
  exact ⟨l, l1, by rw [← Nat.div_div_eq_div_mul, ← Nat.div_div_eq_div_mul, l2], e⟩
theorem Within.out {α : Type} [Inhabited α] {xs ys : List α} {w n a b q : Nat} (hw : 0 < w) (h : Out xs ys a b) (h1 : q * w ≤ a) (h2 : b ≤ (q + 1) * w) (hb : b ≤ n) : Within xs ys w n := by
  refine ⟨h.1, fun k hk => ?_⟩
  by_cases g : a ≤ k ∧ k < b
  · obtain ⟨l, l1, l2, e⟩ := h.2.2 k g.1 g.2
    exact ⟨l, by omega, by rw [div_blk hw (show q * w ≤ l by omega) (by omega), div_blk hw (show q * w ≤ k by omega) (by omega)], e⟩
  · exact ⟨k, hk, rfl, h.2.1 k (by omega)⟩
section
variable {P : El → Prop} {key : El → Int} {pos : El → El → Prop} {cap : Cap}
/-- One round of merging. -/
theorem evx_round (hO : OrdP key pos) (hC : CmpP cmpF P key cap) (xs : List El) (hl : xs.length ≤ 1048576) (hP : OnP P xs 0 xs.length) (hS : SortedOn pos xs 0 xs.length) (w : Nat) (hw : 0 < w) (hwn : w < xs.length) (ys : List El) (hW : Within xs ys w xs.length) (hR : Runs (LtK key pos) ys w xs.length) {C : List El × Cap → Prop}
    (hn : ∀ zs : List El, Within xs zs (w * 2) xs.length → Runs (LtK key pos) zs (w * 2) xs.length → Evx (fun k => slices_stableCmpFunc_1.l1 k (xs.length : Int) zs cap ((w * 2 : Nat) : Int)) C) : ∀ (d q : Nat) (zs : List El), xs.length - q * (w * 2) ≤ d → q * (w * 2) ≤ xs.length → Within ys zs (w * 2) xs.length → (∀ k : Nat, q * (w * 2) ≤ k → at_ zs (k : Int) = at_ ys (k : Int)) → Runs (LtK key pos) zs (w * 2) (q * (w * 2)) → Evx (fun k => slices_stableCmpFunc_1.l2 k (xs.length : Int) (w : Int) zs cap ((q * (w * 2) : Nat) : Int) (((q + 1) * (w * 2) : Nat) : Int)) C := by
  -- what stands from a on
  have run1 : ∀ (zs : List El) (q a b : Nat), (∀ k : Nat, q * (w * 2) ≤ k → at_ zs (k : Int) = at_ ys (k : Int)) → q * (w * 2) ≤ a → b ≤ xs.length → (∃ u, u * w ≤ a ∧ b ≤ (u + 1) * w) → SortedOn (LtK key pos) zs a b := by
    intro zs q a b h h1 h2 ⟨u, u1, u2⟩ p p' p1 p2 p3
    rw [h p (by omega), h p' (by omega)]
    exact hR p p' p2 (by omega) (by rw [div_blk hw (show u * w ≤ p by omega) (by omega), div_blk hw (show u * w ≤ p' by omega) (by omega)])
  have mp : ∀ (zs : List El) (q b : Nat), (∀ k : Nat, q * (w * 2) ≤ k → at_ zs (k : Int) = at_ ys (k : Int)) → q * (w * 2) + w < b → b ≤ xs.length → b ≤ (q + 1) * (w * 2) → MergeP P key pos zs (q * (w * 2)) (q * (w * 2) + w) b := by
    intro zs q b h h1 h2 h3
    have e1 : q * (w * 2) = (q * 2) * w := by rw [Nat.mul_assoc, Nat.mul_comm 2 w]
    have e2 : (q + 1) * (w * 2) = q * (w * 2) + 2 * w := by rw [Nat.add_mul, Nat.one_mul, Nat.mul_comm w 2]
    have e3 : (q * 2 + 1) * w = (q * 2) * w + w := by rw [Nat.add_mul, Nat.one_mul]
    have e4 : (q * 2 + 1 + 1) * w = (q * 2) * w + 2 * w := by rw [Nat.add_mul, Nat.add_mul]; omega
    refine ⟨fun p p1 p2 => ?_, fun p p' p1 p2 p3 p4 => ?_, run1 zs q _ _ h (Nat.le_refl _) (by omega) ⟨q * 2, by omega, by omega⟩, run1 zs q _ _ h (by omega) h2 ⟨q * 2 + 1, by omega, by omega⟩⟩
    · rw [h p p1]
      obtain ⟨l, l1, _, e⟩ := hW.2 p (by omega)
      rw [e]; exact hP l (by omega) l1
    · rw [h p p1, h p' (by omega)]
      obtain ⟨l, l1, l2, e⟩ := hW.2 p (by omega)
      obtain ⟨l', m1, m2, e'⟩ := hW.2 p' (by omega)
      rw [div_blk hw (show (q * 2) * w ≤ p by omega) (by omega)] at l2
      rw [div_blk hw (show (q * 2 + 1) * w ≤ p' by omega) (by omega)] at m2
      have b1 := blk_div hw l2
      have b2 := blk_div hw m2
      rw [e, e']
      exact hS l l' (by omega) (by omega) m1
  have glue : ∀ (zs ws : List El) (q b : Nat), Runs (LtK key pos) zs (w * 2) (q * (w * 2)) → Out zs ws (q * (w * 2)) b → SortedOn (LtK key pos) ws (q * (w * 2)) b → Runs (LtK key pos) ws (w * 2) b := by
    intro zs ws q b h1 h2 h3 p p' p1 p2 p3
    by_cases g : q * (w * 2) ≤ p
    · exact h3 p p' g p1 p2
    · have g' : p' < q * (w * 2) := by
        have a1 := (Nat.div_lt_iff_lt_mul (show 0 < w * 2 by omega)).2 (show p < q * (w * 2) by omega)
        rw [p3] at a1
        exact (Nat.div_lt_iff_lt_mul (show 0 < w * 2 by omega)).1 a1
      rw [h2.2.1 p (by omega), h2.2.1 p' (by omega)]
      exact h1 p p' p1 g' p3
  intro d
  induction d with
  | zero =>
    intro q zs d0 q0 z1 z2 z3
    have hzl := z1.1
    have hyl := hW.1
    have e2 : (q + 1) * (w * 2) = q * (w * 2) + 2 * w := by rw [Nat.add_mul, Nat.one_mul, Nat.mul_comm w 2]
    refine Evx.step (fun k => by simp only [slices_stableCmpFunc_1.l2]; rfl) ?_
    rw [wrap_id (x := ((q * (w * 2) : Nat) : Int) + (w : Int)) (by omega) (by omega), show wrap64 ((w : Int) * 2) = ((w * 2 : Nat) : Int) by rw [wrap_id (by omega) (by omega)]; omega]
    refine Evx.neg (by omega) (Evx.neg (by omega) (hn zs (Within.trans hW.two z1) ?_))
    rw [show xs.length = q * (w * 2) by omega]; exact z3
  | succ d ih =>
    intro q zs d0 q0 z1 z2 z3
    have hzl := z1.1
    have hyl := hW.1
    have e2 : (q + 1) * (w * 2) = q * (w * 2) + 2 * w := by rw [Nat.add_mul, Nat.one_mul, Nat.mul_comm w 2]
    have e5 : (q + 1 + 1) * (w * 2) = (q + 1) * (w * 2) + 2 * w := by rw [Nat.add_mul (q + 1), Nat.one_mul, Nat.mul_comm w 2]
    refine Evx.step (fun k => by simp only [slices_stableCmpFunc_1.l2]; rfl) ?_
    rw [show wrap64 (((q * (w * 2) : Nat) : Int) + (w : Int)) = ((q * (w * 2) + w : Nat) : Int) by rw [wrap_id (by omega) (by omega)]; omega, show wrap64 ((w : Int) * 2) = ((w * 2 : Nat) : Int) by rw [wrap_id (by omega) (by omega)]; omega, show wrap64 (2 * (w : Int)) = ((w * 2 : Nat) : Int) by rw [wrap_id (by omega) (by omega)]; omega]
    refine Evx.ite (fun g => ?_) (fun g => Evx.ite (fun g' => ?_) (fun g' => ?_))
    · refine Evx.bind (evx_symMerge hO hC _ (q * (w * 2)) (q * (w * 2) + w) ((q + 1) * (w * 2)) zs (Nat.le_refl _) (by omega) (by omega) (by omega) (by omega) (mp zs q _ z2 (by omega) (by omega) (Nat.le_refl _))) (fun r ⟨r1, r2, r3⟩ => ?_)
      rw [r1, show wrap64 ((((q + 1) * (w * 2) : Nat) : Int) + ((w * 2 : Nat) : Int)) = (((q + 1 + 1) * (w * 2) : Nat) : Int) by rw [wrap_id (by omega) (by omega)]; omega]
      exact ih (q + 1) r.1 (by omega) (by omega) (Within.trans z1 (Within.out (q := q) (by omega) r2 (Nat.le_refl _) (Nat.le_refl _) (by omega))) (fun k hk => by rw [r2.2.1 k (by omega)]; exact z2 k (by omega)) (glue zs r.1 q _ z3 r2 r3)
    · refine Evx.bind (evx_symMerge hO hC _ (q * (w * 2)) (q * (w * 2) + w) xs.length zs (Nat.le_refl _) (by omega) (by omega) (by omega) (by omega) (mp zs q _ z2 (by omega) (by omega) (by omega))) (fun r ⟨r1, r2, r3⟩ => ?_)
      rw [r1]
      exact hn r.1 (Within.trans hW.two (Within.trans z1 (Within.out (q := q) (by omega) r2 (Nat.le_refl _) (by omega) (Nat.le_refl _)))) (glue zs r.1 q _ z3 r2 r3)
    · have e1 : q * (w * 2) = (q * 2) * w := by rw [Nat.mul_assoc, Nat.mul_comm 2 w]
      have e3 : (q * 2 + 1) * w = (q * 2) * w + w := by rw [Nat.add_mul, Nat.one_mul]
      exact hn zs (Within.trans hW.two z1) (glue zs zs q _ z3 (Out.refl _ _ _) (run1 zs q _ _ z2 (Nat.le_refl _) (Nat.le_refl _) ⟨q * 2, by omega, by omega⟩))
theorem evx_stable (hO : OrdP key pos) (hC : CmpP cmpF P key cap) (xs : List El) (hl : xs.length ≤ 1048576) (hP : OnP P xs 0 xs.length) (hS : SortedOn pos xs 0 xs.length) : Evx (fun k => slices_stableCmpFunc_1.f k xs (xs.length : Int) cap) (fun r => r.2 = cap ∧ Out xs r.1 0 xs.length ∧ SortedOn (LtK key pos) r.1 0 xs.length) := by
  unfold slices_stableCmpFunc_1.f
  -- the rounds
  have rounds : ∀ (d w : Nat) (ys : List El), xs.length - w ≤ d → 0 < w → w ≤ 4194304 → Within xs ys w xs.length → Runs (LtK key pos) ys w xs.length → Evx (fun k => slices_stableCmpFunc_1.l1 k (xs.length : Int) ys cap (w : Int)) (fun r => r.2 = cap ∧ Out xs r.1 0 xs.length ∧ SortedOn (LtK key pos) r.1 0 xs.length) := by
    intro d
    have fin : ∀ (w : Nat) (ys : List El), xs.length ≤ w → Within xs ys w xs.length → Runs (LtK key pos) ys w xs.length → Out xs ys 0 xs.length ∧ SortedOn (LtK key pos) ys 0 xs.length := by
      intro w ys h1 h2 h3
      refine ⟨⟨h2.1, fun k hk => ?_, fun k _ hk => ?_⟩, fun p q _ p2 p3 => h3 p q p2 p3 (by rw [Nat.div_eq_of_lt (by omega), Nat.div_eq_of_lt (by omega)])⟩
      · rw [at_getD, at_getD, List.getD_eq_getElem?_getD, List.getD_eq_getElem?_getD, List.getElem?_eq_none (by have := h2.1; omega), List.getElem?_eq_none (by omega)]
      · obtain ⟨l, l1, _, e⟩ := h2.2 k hk
        exact ⟨l, by omega, l1, e⟩
    induction d with
    | zero =>
      intro w ys d0 w0 w1 hW hR
      refine Evx.step (fun k => by simp only [slices_stableCmpFunc_1.l1]; rfl) ?_
      exact Evx.neg (by omega) (Evx.val ⟨rfl, fin w ys (by omega) hW hR⟩)
    | succ d ih =>
      intro w ys d0 w0 w1 hW hR
      refine Evx.step (fun k => by simp only [slices_stableCmpFunc_1.l1]; rfl) ?_
      refine Evx.ite (fun g => ?_) (fun g => Evx.val ⟨rfl, fin w ys (by omega) hW hR⟩)
      have key1 := evx_round hO hC xs hl hP hS w w0 (by omega) ys hW hR (C := fun r => r.2 = cap ∧ Out xs r.1 0 xs.length ∧ SortedOn (LtK key pos) r.1 0 xs.length) (fun zs z1 z2 => ih (w * 2) zs (by omega) (by omega) (by omega) z1 z2) xs.length 0 ys (by omega) (by omega) ⟨rfl, fun k hk => ⟨k, hk, rfl, rfl⟩⟩ (fun k _ => rfl) (fun p q _ h => by omega)
      rw [show wrap64 (2 * (w : Int)) = (((0 + 1) * (w * 2) : Nat) : Int) by rw [wrap_id (by omega) (by omega)]; omega]
      rw [show 0 * (w * 2) = 0 by omega] at key1
      exact key1
  -- the blocks
  have blocks : ∀ (d q : Nat) (ys : List El), xs.length - q * 20 ≤ d → q * 20 ≤ xs.length → Within xs ys 20 xs.length → (∀ k : Nat, q * 20 ≤ k → at_ ys (k : Int) = at_ xs (k : Int)) → Runs (LtK key pos) ys 20 (q * 20) → Evx (fun k => slices_stableCmpFunc_1.l0 k (xs.length : Int) ys cap ((q * 20 : Nat) : Int) (((q + 1) * 20 : Nat) : Int)) (fun r => r.2 = cap ∧ Out xs r.1 0 xs.length ∧ SortedOn (LtK key pos) r.1 0 xs.length) := by
    have glue : ∀ (zs ws : List El) (q b : Nat), Runs (LtK key pos) zs 20 (q * 20) → Out zs ws (q * 20) b → SortedOn (LtK key pos) ws (q * 20) b → Runs (LtK key pos) ws 20 b := by
      intro zs ws q b h1 h2 h3 p p' p1 p2 p3
      by_cases g : q * 20 ≤ p
      · exact h3 p p' g p1 p2
      · rw [h2.2.1 p (by omega), h2.2.1 p' (by omega)]
        exact h1 p p' p1 (by omega) p3
    have pre : ∀ (ys : List El) (q b : Nat), (∀ k : Nat, q * 20 ≤ k → at_ ys (k : Int) = at_ xs (k : Int)) → b ≤ xs.length → OnP P ys (q * 20) b ∧ SortedOn pos ys (q * 20) b := by
      intro ys q b h hb
      refine ⟨fun p p1 p2 => ?_, fun p p' p1 p2 p3 => ?_⟩
      · rw [h p p1]; exact hP p (by omega) (by omega)
      · rw [h p p1, h p' (by omega)]; exact hS p p' (by omega) p2 (by omega)
    have last : ∀ (q : Nat) (ys : List El), q * 20 ≤ xs.length → xs.length < (q + 1) * 20 → Within xs ys 20 xs.length → (∀ k : Nat, q * 20 ≤ k → at_ ys (k : Int) = at_ xs (k : Int)) → Runs (LtK key pos) ys 20 (q * 20) → Evx (fun k => ((slices_insertionSortCmpFunc_1.f k ys ((q * 20 : Nat) : Int) (xs.length : Int) cap).bind fun x6 => (slices_stableCmpFunc_1.l1 k (xs.length : Int) x6.1 x6.2 20))) (fun r => r.2 = cap ∧ Out xs r.1 0 xs.length ∧ SortedOn (LtK key pos) r.1 0 xs.length) := by
      intro q ys q0 q1 z1 z2 z3
      have hyl := z1.1
      by_cases e : q * 20 = xs.length
      · refine Evx.bind (P := fun r => r.2 = cap ∧ r.1 = ys) ?_ (fun r ⟨r1, r2⟩ => ?_)
        · unfold slices_insertionSortCmpFunc_1.f
          refine Evx.step (fun k => by simp only [slices_insertionSortCmpFunc_1.l0]; rfl) ?_
          rw [wrap_id (x := ((q * 20 : Nat) : Int) + 1) (by omega) (by omega)]
          exact Evx.neg (by omega) (Evx.val ⟨rfl, rfl⟩)
        · rw [r1, r2]
          exact rounds _ 20 ys (Nat.le_refl _) (by omega) (by omega) z1 (by rw [← e]; exact z3)
      · obtain ⟨p1, p2⟩ := pre ys q xs.length z2 (Nat.le_refl _)
        refine Evx.bind (evx_insertion hO hC ys (q * 20) xs.length (by omega) (by omega) (by omega) p1 p2) (fun r ⟨r1, r2, r3⟩ => ?_)
        rw [r1]
        exact rounds _ 20 r.1 (Nat.le_refl _) (by omega) (by omega) (Within.trans z1 (Within.out (q := q) (by omega) r2 (Nat.le_refl _) (by omega) (Nat.le_refl _))) (glue ys r.1 q _ z3 r2 r3)
    intro d
    induction d with
    | zero =>
      intro q ys d0 q0 z1 z2 z3
      refine Evx.step (fun k => by simp only [slices_stableCmpFunc_1.l0]; rfl) ?_
      exact Evx.neg (by omega) (last q ys q0 (by omega) z1 z2 z3)
    | succ d ih =>
      intro q ys d0 q0 z1 z2 z3
      have hyl := z1.1
      refine Evx.step (fun k => by simp only [slices_stableCmpFunc_1.l0]; rfl) ?_
      refine Evx.ite (fun g => ?_) (fun g => last q ys q0 (by omega) z1 z2 z3)
      obtain ⟨p1, p2⟩ := pre ys q ((q + 1) * 20) z2 (by omega)
      refine Evx.bind (evx_insertion hO hC ys (q * 20) ((q + 1) * 20) (by omega) (by omega) (by omega) p1 p2) (fun r ⟨r1, r2, r3⟩ => ?_)
      rw [r1, show wrap64 ((((q + 1) * 20 : Nat) : Int) + 20) = (((q + 1 + 1) * 20 : Nat) : Int) by rw [wrap_id (by omega) (by omega)]; omega]
      exact ih (q + 1) r.1 (by omega) (by omega) (Within.trans z1 (Within.out (q := q) (by omega) r2 (Nat.le_refl _) (Nat.le_refl _) (by omega))) (fun k hk => by rw [r2.2.1 k (by omega)]; exact z2 k (by omega)) (glue ys r.1 q _ z3 r2 r3)
  have := blocks xs.length 0 xs (by omega) (by omega) ⟨rfl, fun k hk => ⟨k, hk, rfl, rfl⟩⟩ (fun k _ => rfl) (fun p q _ h => by omega)
  simpa using this
theorem evx_SortStable (hO : OrdP key pos) (hC : CmpP cmpF P key cap) (xs : List El) (hl : xs.length ≤ 1048576) (hP : OnP P xs 0 xs.length) (hS : SortedOn pos xs 0 xs.length) : Evx (fun k => slices_SortStableFunc_1.f k xs cap) (fun r => r.2 = cap ∧ Out xs r.1 0 xs.length ∧ SortedOn (LtK key pos) r.1 0 xs.length) := by
  unfold slices_SortStableFunc_1.f
  exact Evx.bind (evx_stable hO hC xs hl hP hS) (fun r hr => Evx.val hr)
end
def BaysP (b : List Int) : Prop := (1 ≤ b.length ∧ b.length ≤ 12) ∧ ∀ i, i < b.length → 1 ≤ at_ b (i : Int) ∧ at_ b (i : Int) ≤ 1000
def StayP (s : S49) : Prop := (0 ≤ s.f0 ∧ s.f0 ≤ s.f1) ∧ s.f1 ≤ 100000 ∧ (1 ≤ s.f2 ∧ s.f2 ≤ 1000)
def StaysP (t : List S49) : Prop := t.length ≤ 60 ∧ ∀ i, i < t.length → StayP (at_ t (i : Int))
def GapP (g : Int) : Prop := 1 ≤ g ∧ g ≤ 60
theorem eq_impl_isMinute (a : Int) : impl_isMinute.f a = some (decide (0 ≤ a ∧ a ≤ 100000)) := by
  unfold impl_isMinute.f
  rw [eq_impl_between]
  rfl
theorem ev_impl_BaysOk (b : List Int) (hl : b.length ≤ 1048576) (r : Bool) (hr : r = true ↔ BaysP b) : Ev (fun k => impl_BaysOk.f k b) r := by
  unfold impl_BaysOk.f
  refine Ev.opt (eq_impl_between _ _ _) (Ev.ite (fun g => ?_) (fun g => ev_val (bool_not hr fun q => g (decide_eq_true (by have := q.1; omega))).symm))
  have g := of_decide_eq_true g
  refine ev_scan b.length (fun i => 1 ≤ at_ b (i : Int) ∧ at_ b (i : Int) ≤ 1000) false (fun k i => impl_BaysOk.l0 k b (i : Int)) (fun ⟨i, hi, h⟩ => bool_not hr fun g => h (g.2 i hi)) ?_ ?_
  · intro i hi _ hn hx
    refine Ev.step (fun k => by simp only [impl_BaysOk.l0]; rfl) ?_
    rw [wrap_succ hi (by omega)]
    exact Ev.pos (by omega) (Ev.pos (by omega) (Ev.opt (eq_impl_between _ _ _) (Ev.ite (fun g => hn (of_decide_eq_true g)) (fun g => ev_val (hx fun q => g (decide_eq_true q)).symm))))
  · intro hp
    refine Ev.step (fun k => by simp only [impl_BaysOk.l0]; rfl) ?_
    exact Ev.neg (by omega) (ev_val (hr.2 ⟨by omega, hp⟩).symm)
theorem ev_spec_StaysOk (t : List S49) (hl : t.length ≤ 1048576) (r : Bool) (hr : r = true ↔ StaysP t) : Ev (fun k => spec_StaysOk.f k t) r := by
  unfold spec_StaysOk.f
  refine ev_scan t.length (fun i => StayP (at_ t (i : Int))) false (fun k i => spec_StaysOk.l0 k t (i : Int)) (fun ⟨i, hi, h⟩ => bool_not hr fun g => h (g.2 i hi)) ?_ ?_
  · intro i hi _ hn hx
    unfold StayP at hn hx
    refine Ev.step (fun k => by simp only [spec_StaysOk.l0]; rfl) ?_
    rw [wrap_succ hi (by omega)]
    have bad : ¬ ((0 ≤ (at_ t (i : Int)).f0 ∧ (at_ t (i : Int)).f0 ≤ (at_ t (i : Int)).f1) ∧ (at_ t (i : Int)).f1 ≤ 100000 ∧ (1 ≤ (at_ t (i : Int)).f2 ∧ (at_ t (i : Int)).f2 ≤ 1000)) → Ev (fun _ => some false) r := fun h => ev_val (hx h).symm
    refine Ev.pos (by omega) (Ev.pos (by omega) (Ev.opt (eq_spec_l01In _ _ _) (Ev.ite (fun g1 => ?_) (fun g => bad fun q => g (decide_eq_true (by omega))))))
    refine Ev.opt (eq_spec_l01In _ _ _) (Ev.ite (fun g2 => ?_) (fun g => bad fun q => g (decide_eq_true (by omega))))
    refine Ev.opt (eq_spec_l01In _ _ _) (Ev.ite (fun g3 => ?_) (fun g => bad fun q => g (decide_eq_true (by omega))))
    exact hn ⟨of_decide_eq_true g2, (of_decide_eq_true g1).2, of_decide_eq_true g3⟩
  · intro hp
    refine Ev.step (fun k => by simp only [spec_StaysOk.l0]; rfl) ?_
    refine Ev.neg (by omega) (ev_val ?_)
    rw [Bool.eq_iff_iff, decide_eq_true_iff, hr]
    exact ⟨fun g => ⟨by omega, hp⟩, fun g => by have := g.1; omega⟩
theorem ev_impl_StaysOk (t : List S49) (hl : t.length ≤ 1048576) (r : Bool) (hr : r = true ↔ StaysP t) : Ev (fun k => impl_StaysOk.f k t) r := by
  unfold impl_StaysOk.f
  refine Ev.ite (fun g => ev_val (bool_not hr fun q => by have := q.1; omega).symm) (fun g => ?_)
  refine ev_scan t.length (fun i => StayP (at_ t (i : Int))) false (fun k i => impl_StaysOk.l0 k t (i : Int)) (fun ⟨i, hi, h⟩ => bool_not hr fun g => h (g.2 i hi)) ?_ ?_
  · intro i hi _ hn hx
    unfold StayP at hn hx
    refine Ev.step (fun k => by simp only [impl_StaysOk.l0]; rfl) ?_
    rw [wrap_succ hi (by omega)]
    have bad : ¬ ((0 ≤ (at_ t (i : Int)).f0 ∧ (at_ t (i : Int)).f0 ≤ (at_ t (i : Int)).f1) ∧ (at_ t (i : Int)).f1 ≤ 100000 ∧ (1 ≤ (at_ t (i : Int)).f2 ∧ (at_ t (i : Int)).f2 ≤ 1000)) → Ev (fun _ => some false) r := fun h => ev_val (hx h).symm
    refine Ev.pos (by omega) (Ev.pos (by omega) (Ev.opt (eq_impl_isMinute _) (Ev.ite (fun g1 => ?_) (fun g => bad fun q => g (decide_eq_true (by omega))))))
    have g1 := of_decide_eq_true g1
    refine Ev.opt (eq_impl_isMinute _) (Ev.ite (fun g2 => ?_) (fun g => bad fun q => g (decide_eq_true (by omega))))
    have g2 := of_decide_eq_true g2
    refine Ev.ite (fun g => bad fun q => by omega) (fun g3 => ?_)
    refine Ev.opt (eq_impl_between _ _ _) (Ev.ite (fun g4 => ?_) (fun g => bad fun q => g (decide_eq_true (by omega))))
    exact hn ⟨by omega, g2.2, of_decide_eq_true g4⟩
  · intro hp
    refine Ev.step (fun k => by simp only [impl_StaysOk.l0]; rfl) ?_
    exact Ev.neg (by omega) (ev_val (hr.2 ⟨by omega, hp⟩).symm)
theorem eq_spec_l10Gap (g : Int) : spec_l10Gap.f g = some (decide (1 ≤ g ∧ g ≤ 60)) := by
  unfold spec_l10Gap.f
  rw [eq_spec_l01In]
  rfl
theorem eq_impl_gapOk (g : Int) : impl_gapOk.f g = some (decide (1 ≤ g ∧ g ≤ 60)) := by
  unfold impl_gapOk.f
  rw [eq_impl_between]
  rfl
/-- A stay holds its bay in a minute. -/
def HoldsP (s : S49) (g m : Int) : Prop := s.f0 ≤ m ∧ m ≤ s.f1 + g - 1
def MeetS (a b : S49) (g : Int) : Prop := HoldsP a g b.f0 ∨ HoldsP b g a.f0
instance (s : S49) (g m : Int) : Decidable (HoldsP s g m) := by unfold HoldsP; exact inferInstance
instance (a b : S49) (g : Int) : Decidable (MeetS a b g) := by unfold MeetS; exact inferInstance
theorem eq_spec_l10Holds {s : S49} {g : Int} (hs : StayP s) (hg : GapP g) (m : Int) : spec_l10Holds.f s g m = some (decide (HoldsP s g m)) := by
  unfold spec_l10Holds.f
  unfold StayP at hs
  unfold GapP at hg
  rw [wrap_id (x := s.f1 + g) (by omega) (by omega), wrap_id (x := s.f1 + g - 1) (by omega) (by omega), eq_spec_l01In]
  rfl
theorem eq_impl_holds {s : S49} {g : Int} (hs : StayP s) (hg : GapP g) (m : Int) : impl_Stay_holds.f s m g = some (decide (HoldsP s g m)) := by
  unfold impl_Stay_holds.f
  unfold StayP at hs
  unfold GapP at hg
  rw [wrap_id (x := s.f1 + g) (by omega) (by omega), wrap_id (x := s.f1 + g - 1) (by omega) (by omega)]
  unfold HoldsP
  by_cases h : s.f0 ≤ m
  · simp [h]
  · simp [h]
theorem eq_impl_meets {a b : S49} {g : Int} (ha : StayP a) (hb : StayP b) (hg : GapP g) : impl_Stay_meets.f a b g = some (decide (MeetS a b g)) := by
  unfold impl_Stay_meets.f
  rw [eq_impl_holds ha hg, eq_impl_holds hb hg]
  simp only [Option.bind_some, MeetS]
  by_cases h : HoldsP a g b.f0
  · simp [h]
  · simp [h]
-- a list of n different numbers below n has them all
theorem nodup_le : ∀ (l m : List Int), l.Nodup → (∀ x, x ∈ l → x ∈ m) → l.length ≤ m.length
  | [], _, _, _ => Nat.zero_le _
  | a :: l, m, h, hs => by
    have ha : a ∈ m := hs a List.mem_cons_self
    have h2 := List.nodup_cons.1 h
    have := nodup_le l (m.erase a) h2.2 (fun x hx => (List.mem_erase_of_ne (fun (e : x = a) => h2.1 (by rw [← e]; exact hx))).2 (hs x (List.mem_cons_of_mem a hx)))
    rw [List.length_erase_of_mem ha] at this
    have := List.length_pos_of_mem ha
    simp only [List.length_cons]
    omega
theorem nodup_full {l : List Int} {n : Nat} (h : l.Nodup) (hl : l.length = n) (hb : ∀ x, x ∈ l → 0 ≤ x ∧ x < (n : Int)) (v : Int) (h0 : 0 ≤ v) (h1 : v < (n : Int)) : v ∈ l := by
  classical
  refine Classical.byContradiction fun hv => ?_
  have := nodup_le (v :: l) ((List.range n).map (fun i : Nat => (i : Int))) (List.nodup_cons.2 ⟨hv, h⟩) (fun x hx => ?_)
  · simp only [List.length_cons, List.length_map, List.length_range] at this; omega
  · have hx2 : 0 ≤ x ∧ x < (n : Int) := by
      rcases List.mem_cons.1 hx with rfl | g
      · exact ⟨h0, h1⟩
      · exact hb x g
    exact List.mem_map.2 ⟨x.toNat, List.mem_range.2 (by omega), by omega⟩
theorem nodup_at {l : List Int} (h : ∀ p q : Nat, p < q → q < l.length → at_ l (p : Int) ≠ at_ l (q : Int)) : l.Nodup := by
  refine List.pairwise_iff_getElem.2 fun i j hi hj hij => ?_
  have := h i j hij hj
  rwa [at_nat hi, at_nat hj] at this
/-- The order in which the stays are taken. -/
def keyOf (t : List S49) (i : Int) : Int := (at_ t i).f0
def OrderP (t : List S49) (o : List Int) : Prop := o.length = t.length ∧ (∀ k : Nat, k < t.length → 0 ≤ at_ o (k : Int) ∧ at_ o (k : Int) < (t.length : Int)) ∧ SortedOn (LtK (keyOf t) (fun a b => a < b)) o 0 t.length
theorem ordB (t : List S49) : OrdP (keyOf t) (fun a b => a < b) := ⟨fun _ _ _ h1 h2 => Int.lt_trans h1 h2⟩
theorem lt_irr {t : List S49} {u : Int} (h : LtK (keyOf t) (fun a b => a < b) u u) : False := by
  unfold LtK at h
  omega
theorem lt_asy {t : List S49} {u v : Int} (h : LtK (keyOf t) (fun a b => a < b) u v) (h2 : LtK (keyOf t) (fun a b => a < b) v u) : False := by
  unfold LtK at h h2
  omega
theorem order_ne {t : List S49} {o : List Int} (h : OrderP t o) {p q : Nat} (hp : p < t.length) (hq : q < t.length) (hn : p ≠ q) : at_ o (p : Int) ≠ at_ o (q : Int) := by
  intro e
  rcases Nat.lt_or_ge p q with g | g
  · have := h.2.2 p q (by omega) g hq
    rw [e] at this; exact lt_irr this
  · have := h.2.2 q p (by omega) (by omega) hp
    rw [e] at this; exact lt_irr this
theorem order_all {t : List S49} {o : List Int} (h : OrderP t o) (v : Int) (h0 : 0 ≤ v) (h1 : v < (t.length : Int)) : ∃ p : Nat, p < t.length ∧ at_ o (p : Int) = v := by
  have hl := h.1
  have := nodup_full (l := o) (n := t.length) (nodup_at fun p q h1 h2 => order_ne h (by omega) (by omega) (by omega)) hl (fun x hx => ?_) v h0 h1
  · obtain ⟨p, hp, e⟩ := mem_at.1 this
    exact ⟨p, by omega, e⟩
  · obtain ⟨p, hp, rfl⟩ := mem_at.1 hx
    exact h.2.1 p (by omega)
theorem eq_cmp (a b : Int) : cmp_Compare.f a b = some (if a < b then -1 else if a > b then 1 else 0) := by
  unfold cmp_Compare.f cmp_isNaN.f
  simp only [Option.bind_some]
  rw [if_neg (by simp), if_neg (by simp)]
  by_cases h1 : a < b
  · rw [if_pos h1, if_pos h1]
  · rw [if_neg h1, if_neg h1]
    by_cases h2 : a > b
    · rw [if_pos h2, if_pos h2]
    · rw [if_neg h2, if_neg h2]
theorem cmpB (t : List S49) : CmpP cmpF (fun i => 0 ≤ i ∧ i < (t.length : Int)) (keyOf t) t := by
  intro u v hu hv
  show ∃ c, impl_inTurn_1.f u v t = some (c, t) ∧ _
  unfold impl_inTurn_1.f
  rw [if_pos hu.1, if_pos hu.2, if_pos hv.1, if_pos hv.2, eq_cmp, Option.bind_some]
  refine ⟨_, rfl, ?_⟩
  unfold keyOf
  split
  · simp [*]
  · split <;> simp [*]
theorem evx_inTurn (t : List S49) (hl : t.length ≤ 1048576) : Evx (fun k => impl_inTurn.f k t) (OrderP t) := by
  unfold impl_inTurn.f
  rw [Int.toNat_natCast]
  refine Evx.pos (by omega) (Evx.pos (by omega) ?_)
  refine evx_loop (fun k i (xs : List Int) => impl_inTurn.l0 k t xs (i : Int)) t.length (fun i xs => xs.length = t.length ∧ ∀ k : Nat, k < i → at_ xs (k : Int) = (k : Int)) _ ?_ ?_ (List.replicate t.length 0) ⟨List.length_replicate, fun k hk => by omega⟩
  · intro i xs hi ⟨i1, i2⟩ hn
    refine Evx.step (fun k => by simp only [impl_inTurn.l0]; rfl) ?_
    rw [Int.toNat_natCast, List.length_replicate, Int.toNat_natCast, wrap_succ hi (by omega)]
    refine Evx.pos (by omega) (Evx.pos (by omega) (Evx.pos (by omega) ?_))
    refine hn _ ⟨by rw [List.length_set]; exact i1, fun k hk => ?_⟩
    by_cases e : k = i
    · rw [e, at_set_eq (by omega)]
    · rw [at_set_ne (by omega) (by omega)]; exact i2 k (by omega)
  · intro xs ⟨i1, i2⟩
    refine Evx.step (fun k => by simp only [impl_inTurn.l0]; rfl) ?_
    rw [Int.toNat_natCast, List.length_replicate]
    refine Evx.neg (by omega) (Evx.bind (evx_SortStable (pos := fun a b => a < b) (ordB t) (cmpB t) xs (by omega) (fun p _ hp => by rw [i2 p (by omega)]; omega) (fun p q _ h1 h2 => by rw [i2 p (by omega), i2 q (by omega)]; exact Int.ofNat_lt.2 h1)) (fun r ⟨_, r2, r3⟩ => Evx.val ?_))
    rw [i1] at r2 r3
    refine ⟨r2.1.trans i1, fun k hk => ?_, r3⟩
    obtain ⟨l, l1, l2, e⟩ := r2.2.2 k (by omega) hk
    rw [e, i2 l l2]; omega
/-- A bay is free for a stay: long enough, and no other that stands there meets it. -/
def FreeP (bays : List Int) (t : List S49) (g : Int) (out : List Int) (s : Int) (b : Nat) : Prop := (at_ t s).f2 ≤ at_ bays (b : Int) ∧ ∀ i : Nat, i < t.length → (i : Int) ≠ s → at_ out (i : Int) = (b : Int) → ¬ MeetS (at_ t s) (at_ t (i : Int)) g
/-- What is assigned after m stays. -/
noncomputable def asg (bays : List Int) (t : List S49) (g : Int) (o : List Int) : Nat → List Int
  | 0 => List.replicate t.length (-1)
  | m + 1 => (asg bays t g o m).set (at_ o (m : Int)).toNat (firstI bays.length (FreeP bays t g (asg bays t g o m) (at_ o (m : Int))))
theorem asg_succ (bays : List Int) (t : List S49) (g : Int) (o : List Int) (m : Nat) : asg bays t g o (m + 1) = (asg bays t g o m).set (at_ o (m : Int)).toNat (firstI bays.length (FreeP bays t g (asg bays t g o m) (at_ o (m : Int)))) := rfl
theorem asg_len (bays : List Int) (t : List S49) (g : Int) (o : List Int) : ∀ m, (asg bays t g o m).length = t.length
  | 0 => List.length_replicate
  | m + 1 => by rw [asg_succ, List.length_set]; exact asg_len bays t g o m
theorem asg_next {bays : List Int} {t : List S49} {g : Int} {o : List Int} (h : OrderP t o) {m : Nat} (hm : m < t.length) {i : Int} (h0 : 0 ≤ i) (hi : i < (t.length : Int)) : at_ (asg bays t g o (m + 1)) i = if i = at_ o (m : Int) then firstI bays.length (FreeP bays t g (asg bays t g o m) (at_ o (m : Int))) else at_ (asg bays t g o m) i := by
  have hl := asg_len bays t g o m
  have ho := h.2.1 m hm
  rw [asg_succ]
  by_cases e : i = at_ o (m : Int)
  · rw [if_pos e, e]
    conv => lhs; arg 2; rw [show at_ o (m : Int) = (((at_ o (m : Int)).toNat : Nat) : Int) by omega]
    rw [at_set_eq (by omega)]
  · rw [if_neg e, at_set_ne h0 (by omega)]
theorem asg_no {bays : List Int} {t : List S49} {g : Int} {o : List Int} (h : OrderP t o) : ∀ (m : Nat), m ≤ t.length → ∀ p : Nat, m ≤ p → p < t.length → at_ (asg bays t g o m) (at_ o (p : Int)) = -1
  | 0, _, p, _, hp => by
    have ho := h.2.1 p hp
    exact at_rep _ _ ho.1 ho.2
  | m + 1, hm, p, h1, hp => by
    have ho := h.2.1 p hp
    rw [asg_next h (by omega) ho.1 ho.2, if_neg (order_ne h hp (by omega) (by omega))]
    exact asg_no h m (by omega) p (by omega) hp
theorem asg_bd {bays : List Int} {t : List S49} {g : Int} {o : List Int} (h : OrderP t o) : ∀ (m : Nat), m ≤ t.length → ∀ i : Int, 0 ≤ i → i < (t.length : Int) → -1 ≤ at_ (asg bays t g o m) i ∧ at_ (asg bays t g o m) i < (bays.length : Int)
  | 0, _, i, h0, h1 => by
    have e : at_ (asg bays t g o 0) i = -1 := at_rep _ _ h0 h1
    rw [e]; omega
  | m + 1, hm, i, h0, h1 => by
    rw [asg_next h (by omega) h0 h1]
    split
    · exact ⟨(firstI_lo _ _).1, (firstI_lo _ _).2.1⟩
    · exact asg_bd h m (by omega) i h0 h1
theorem stay_at {t : List S49} (h : StaysP t) {i : Int} (h0 : 0 ≤ i) (h1 : i < (t.length : Int)) : StayP (at_ t i) := by
  have := h.2 i.toNat (by omega)
  rwa [show ((i.toNat : Nat) : Int) = i by omega] at this
/-- The stays ahead in the order are the ones that can stand in the way. -/
theorem free_iff {bays : List Int} {t : List S49} {g : Int} {o : List Int} (h : OrderP t o) {m : Nat} (hm : m < t.length) {b : Nat} : FreeP bays t g (asg bays t g o m) (at_ o (m : Int)) b ↔ (at_ t (at_ o (m : Int))).f2 ≤ at_ bays (b : Int) ∧ ∀ k : Nat, k < m → at_ (asg bays t g o m) (at_ o (k : Int)) = (b : Int) → ¬ MeetS (at_ t (at_ o (m : Int))) (at_ t (at_ o (k : Int))) g := by
  unfold FreeP
  refine and_congr Iff.rfl ⟨fun w k hk e => ?_, fun w i hi hn e => ?_⟩
  · have ho := h.2.1 k (by omega)
    have := w (at_ o (k : Int)).toNat (by omega)
    rw [show (((at_ o (k : Int)).toNat : Nat) : Int) = at_ o (k : Int) by omega] at this
    exact this (order_ne h (by omega) hm (by omega)) e
  · obtain ⟨p, hp, ep⟩ := order_all h (i : Int) (by omega) (by omega)
    rcases Nat.lt_trichotomy p m with q | q | q
    · have := w p q
      rw [ep] at this
      exact this e
    · rw [q] at ep; exact absurd ep.symm hn
    · have := asg_no (bays := bays) (g := g) h m (by omega) p (by omega) hp
      rw [ep, e] at this
      omega
/-- The assignment in the end; nothing where what is asked is not right. -/
def AskP (bays : List Int) (t : List S49) (g : Int) : Prop := BaysP bays ∧ StaysP t ∧ GapP g
theorem ev_impl_room (bays : List Int) (t : List S49) (g : Int) (out : List Int) (hS : StaysP t) (hG : GapP g) (hl : out.length = t.length) (b : Nat) (s : Int) (h0 : 0 ≤ s) (h1 : s < (t.length : Int)) (r : Bool) (hr : r = true ↔ ∀ i : Nat, i < t.length → (i : Int) ≠ s → at_ out (i : Int) = (b : Int) → ¬ MeetS (at_ t s) (at_ t (i : Int)) g) : Ev (fun k => impl_room.f k t g out (b : Int) s) r := by
  classical
  have h60 := hS.1
  unfold impl_room.f
  refine ev_scan t.length (fun i => (i : Int) ≠ s → at_ out (i : Int) = (b : Int) → ¬ MeetS (at_ t s) (at_ t (i : Int)) g) false (fun k i => impl_room.l0 k t g out (b : Int) s (i : Int)) (fun ⟨i, hi, w⟩ => bool_not hr fun q => w (q i hi)) ?_ ?_
  · intro i hi _ hn hx
    refine Ev.step (fun k => by simp only [impl_room.l0]; rfl) ?_
    rw [wrap_succ hi (by omega)]
    refine Ev.pos (by omega) (Ev.pos (by omega) (Ev.ite (fun e => hn fun q => absurd e q) (fun e => Ev.ite (fun e2 => ?_) (fun e2 => hn fun _ q => absurd q e2))))
    refine Ev.pos h0 (Ev.pos h1 (Ev.pos (by omega) (Ev.opt (eq_impl_meets (stay_at hS h0 h1) (hS.2 i hi) hG) (Ev.ite (fun w => ?_) (fun w => hn fun _ _ z => w (decide_eq_true z))))))
    exact ev_val (hx fun q => q e e2 (of_decide_eq_true w)).symm
  · intro hp
    refine Ev.step (fun k => by simp only [impl_room.l0]; rfl) ?_
    exact Ev.neg (by omega) (ev_val (hr.2 hp).symm)
theorem ev_impl_Assign (bays : List Int) (t : List S49) (g : Int) (o : List Int) (hb : bays.length ≤ 1048576) (ht : t.length ≤ 1048576) (hi : Ev (fun k => impl_inTurn.f k t) o) (h : OrderP t o) (r : List Int) (r1 : AskP bays t g → r = asg bays t g o t.length) (r2 : ¬ AskP bays t g → r = []) : Ev (fun k => impl_Assign.f k bays t g) r := by
  classical
  unfold impl_Assign.f
  refine Ev.bind (ev_impl_BaysOk bays hb (decide (BaysP bays)) decide_eq_true_iff) (Ev.ite (fun g1 => ?_) (fun w => ev_val (r2 fun q => w (decide_eq_true q.1)).symm))
  refine Ev.bind (ev_impl_StaysOk t ht (decide (StaysP t)) decide_eq_true_iff) (Ev.ite (fun g2 => ?_) (fun w => ev_val (r2 fun q => w (decide_eq_true q.2.1)).symm))
  refine Ev.opt (eq_impl_gapOk g) (Ev.ite (fun g3 => ?_) (fun w => ev_val (r2 fun q => w (decide_eq_true q.2.2)).symm))
  have hB := of_decide_eq_true g1
  have hS := of_decide_eq_true g2
  have hG0 := of_decide_eq_true g3
  have hG : GapP g := hG0
  rw [r1 ⟨hB, hS, hG⟩]
  have h60 := hS.1
  have h12 := hB.1
  have hol := h.1
  rw [Int.toNat_natCast]
  refine Ev.pos (by omega) (Ev.pos (by omega) (Evx.ev ?_))
  refine evx_loop (fun k i (xs : List Int) => impl_Assign.l0 k bays t g xs (i : Int)) t.length (fun i xs => xs.length = t.length ∧ ∀ k : Nat, k < i → at_ xs (k : Int) = -1) _ ?_ ?_ (List.replicate t.length 0) ⟨List.length_replicate, fun k hk => by omega⟩
  · intro i xs hi ⟨i1, i2⟩ hn
    refine Evx.step (fun k => by simp only [impl_Assign.l0]; rfl) ?_
    rw [Int.toNat_natCast, Int.toNat_natCast, List.length_replicate, wrap_succ hi (by omega)]
    refine Evx.pos (by omega) (Evx.pos (by omega) (Evx.pos (by omega) (hn _ ⟨by rw [List.length_set]; exact i1, fun k hk => ?_⟩)))
    by_cases e : k = i
    · rw [e, at_set_eq (by omega)]
    · rw [at_set_ne (by omega) (by omega)]; exact i2 k (by omega)
  intro xs ⟨i1, i2⟩
  obtain rfl : xs = List.replicate t.length (-1) := at_ext (by rw [List.length_replicate, i1]) (fun k hk => by rw [List.length_replicate] at hk; rw [i2 k hk, at_rep _ _ (by omega) (by omega)])
  refine Evx.step (fun k => by simp only [impl_Assign.l0]; rfl) ?_
  rw [Int.toNat_natCast, List.length_replicate]
  refine Evx.neg (by omega) (Evx.bindv hi (Evx.of ?_ rfl))
  refine ev_fold (fun k m => impl_Assign.l1 k bays t g o (asg bays t g o m) (m : Int)) t.length ?_ ?_
  · intro m hm hn
    have ho := h.2.1 m hm
    have hal := asg_len bays t g o m
    rw [asg_succ] at hn
    refine Ev.step (fun k => by simp only [impl_Assign.l1]; rfl) ?_
    refine Ev.pos (by omega) (Ev.pos (by omega) ?_)
    refine ev_scan2 bays.length (fun b => ¬ FreeP bays t g (asg bays t g o m) (at_ o (m : Int)) b) (fun _ => asg bays t g o t.length) (fun k b => impl_Assign.l2 k bays t g o (asg bays t g o m) (m : Int) (b : Int)) (fun _ _ _ _ => rfl) ?_ ?_
    · intro b hb2 hpre hn2 _
      refine Ev.step (fun k => by simp only [impl_Assign.l2]; rfl) ?_
      rw [wrap_succ hb2 (by omega), wrap_succ hm (by omega)]
      refine Ev.pos (by omega) (Ev.pos (by omega) (Ev.pos ho.1 (Ev.pos ho.2 (Ev.ite (fun w => ?_) (fun w => hn2 fun q => w q.1)))))
      refine Ev.bind (ev_impl_room bays t g (asg bays t g o m) hS hG hal b (at_ o (m : Int)) ho.1 ho.2 (decide (∀ i : Nat, i < t.length → (i : Int) ≠ at_ o (m : Int) → at_ (asg bays t g o m) (i : Int) = (b : Int) → ¬ MeetS (at_ t (at_ o (m : Int))) (at_ t (i : Int)) g)) decide_eq_true_iff) (Ev.ite (fun w2 => ?_) (fun w2 => hn2 fun q => w2 (decide_eq_true q.2)))
      have hF : FreeP bays t g (asg bays t g o m) (at_ o (m : Int)) b := ⟨w, of_decide_eq_true w2⟩
      rw [firstI_eq hb2 hF hpre] at hn
      exact Ev.pos (by omega) hn
    · intro hp
      refine Ev.step (fun k => by simp only [impl_Assign.l2]; rfl) ?_
      rw [wrap_succ hm (by omega)]
      refine Ev.neg (by omega) ?_
      have e : (asg bays t g o m).set (at_ o (m : Int)).toNat (-1) = asg bays t g o m := by
        refine at_ext (by rw [List.length_set]) (fun k hk => ?_)
        by_cases ek : k = (at_ o (m : Int)).toNat
        · rw [ek, at_set_eq (by omega)]
          have := asg_no (bays := bays) (g := g) h m (by omega) m (Nat.le_refl _) hm
          rw [show (((at_ o (m : Int)).toNat : Nat) : Int) = at_ o (m : Int) by omega, this]
        · rw [at_set_ne (by omega) (by omega)]
      rw [firstI_no hp, e] at hn
      exact hn
  · refine Ev.step (fun k => by simp only [impl_Assign.l1]; rfl) ?_
    exact Ev.neg (by omega) (ev_val rfl)
theorem assignR (bays : List Int) (t : List S49) (g : Int) (o : List Int) : ∃ r : List Int, (AskP bays t g → r = asg bays t g o t.length) ∧ (¬ AskP bays t g → r = []) := by
  classical
  by_cases h : AskP bays t g
  · exact ⟨_, fun _ => rfl, fun g => absurd h g⟩
  · exact ⟨_, fun g => absurd g h, fun _ => rfl⟩
/-- The first in the order who got nothing. -/
noncomputable def shortV (t : List S49) (o r : List Int) : Int := if 0 ≤ firstI t.length (fun p => at_ r (at_ o (p : Int)) = -1) then at_ o (firstI t.length (fun p => at_ r (at_ o (p : Int)) = -1)) else -1
theorem ev_impl_ShortOf (bays : List Int) (t : List S49) (g : Int) (o : List Int) (hb : bays.length ≤ 1048576) (ht : t.length ≤ 1048576) (hi : Ev (fun k => impl_inTurn.f k t) o) (h : OrderP t o) (r : List Int) (r1 : AskP bays t g → r = asg bays t g o t.length) (r2 : ¬ AskP bays t g → r = []) : Ev (fun k => impl_ShortOf.f k bays t g) (if r.length = 0 then -1 else shortV t o r) := by
  classical
  unfold impl_ShortOf.f
  refine Ev.bind (ev_impl_Assign bays t g o hb ht hi h r r1 r2) (Ev.ite (fun e => ?_) (fun e => ?_))
  · rw [if_pos (by omega)]; exact ev_val rfl
  · rw [if_neg (by omega)]
    have hl : r.length = t.length := by
      by_cases q : AskP bays t g
      · rw [r1 q]; exact asg_len _ _ _ _ _
      · rw [r2 q] at e; exact absurd rfl e
    have hol := h.1
    refine Ev.bind hi ?_
    unfold shortV
    refine ev_find t.length (fun p => at_ r (at_ o (p : Int)) = -1) (fun p => at_ o (p : Int)) (-1) _ (fun k p => impl_ShortOf.l0 k r o (p : Int)) ?_ ?_ ?_ ?_
    · rcases firstI_spec t.length (fun p => at_ r (at_ o (p : Int)) = -1) with ⟨w1, w2⟩ | ⟨i, w1, w2, w3, w4⟩
      · exact .inl ⟨by rw [w1]; rfl, w2⟩
      · exact .inr ⟨i, w1, w2, w3, by rw [w4, if_pos (by omega)]⟩
    · intro p hp hc hn
      have ho := h.2.1 p hp
      refine Ev.step (fun k => by simp only [impl_ShortOf.l0]; rfl) ?_
      rw [wrap_succ hp (by omega)]
      exact Ev.pos (by omega) (Ev.pos (by omega) (Ev.pos ho.1 (Ev.pos (by omega) (Ev.neg hc hn))))
    · intro p hp hc _
      have ho := h.2.1 p hp
      refine Ev.step (fun k => by simp only [impl_ShortOf.l0]; rfl) ?_
      exact Ev.pos (by omega) (Ev.pos (by omega) (Ev.pos ho.1 (Ev.pos (by omega) (Ev.pos hc (ev_val rfl)))))
    · intro _
      refine Ev.step (fun k => by simp only [impl_ShortOf.l0]; rfl) ?_
      exact Ev.neg (by omega) (ev_val rfl)
theorem asg_fin {bays : List Int} {t : List S49} {g : Int} {o : List Int} (h : OrderP t o) {p : Nat} : ∀ (d : Nat), p + 1 + d ≤ t.length → at_ (asg bays t g o (p + 1 + d)) (at_ o (p : Int)) = firstI bays.length (FreeP bays t g (asg bays t g o p) (at_ o (p : Int)))
  | 0, hd => by
    have ho := h.2.1 p (by omega)
    rw [Nat.add_zero, asg_next h (by omega) ho.1 ho.2, if_pos rfl]
  | d + 1, hd => by
    have ho := h.2.1 p (by omega)
    rw [show p + 1 + (d + 1) = (p + 1 + d) + 1 by omega, asg_next h (by omega) ho.1 ho.2, if_neg (order_ne h (by omega) (by omega) (by omega))]
    exact asg_fin h d (by omega)
theorem asg_val {bays : List Int} {t : List S49} {g : Int} {o : List Int} (h : OrderP t o) {p m : Nat} (hp : p < m) (hm : m ≤ t.length) : at_ (asg bays t g o m) (at_ o (p : Int)) = firstI bays.length (FreeP bays t g (asg bays t g o p) (at_ o (p : Int))) := by
  have := asg_fin (bays := bays) (g := g) h (p := p) (m - (p + 1)) (by omega)
  rwa [show p + 1 + (m - (p + 1)) = m by omega] at this
theorem meet_comm {a b : S49} {g : Int} : MeetS a b g ↔ MeetS b a g := ⟨Or.symm, Or.symm⟩
/-- Who got a bay fits, and meets no other there. -/
theorem asg_fit {bays : List Int} {t : List S49} {g : Int} {o : List Int} (h : OrderP t o) {i : Int} (h0 : 0 ≤ i) (h1 : i < (t.length : Int)) (hv : at_ (asg bays t g o t.length) i ≠ -1) : 0 ≤ at_ (asg bays t g o t.length) i ∧ at_ (asg bays t g o t.length) i < (bays.length : Int) ∧ (at_ t i).f2 ≤ at_ bays (at_ (asg bays t g o t.length) i) ∧ ∀ j : Int, 0 ≤ j → j < (t.length : Int) → j ≠ i → at_ (asg bays t g o t.length) j = at_ (asg bays t g o t.length) i → ¬ MeetS (at_ t i) (at_ t j) g := by
  have hb := asg_bd (bays := bays) (g := g) h t.length (Nat.le_refl _) i h0 h1
  obtain ⟨p, hp, rfl⟩ := order_all h i h0 h1
  have hval := asg_val (bays := bays) (g := g) h hp (Nat.le_refl _)
  have hF := firstI_at (show 0 ≤ firstI bays.length (FreeP bays t g (asg bays t g o p) (at_ o (p : Int))) by omega)
  rw [← hval] at hF
  have hF2 := (free_iff h hp).1 hF
  rw [show (((at_ (asg bays t g o t.length) (at_ o (p : Int))).toNat : Nat) : Int) = at_ (asg bays t g o t.length) (at_ o (p : Int)) by omega] at hF2
  refine ⟨by omega, hb.2, hF2.1, fun j j0 j1 jn je hm => ?_⟩
  obtain ⟨q, hq, rfl⟩ := order_all h j j0 j1
  have hqp : q ≠ p := fun e => jn (by rw [e])
  rcases Nat.lt_or_ge q p with w | w
  · refine hF2.2 q w ?_ hm
    rw [asg_val h w (by omega), ← je, asg_val h hq (Nat.le_refl _)]
  · have hval2 := asg_val (bays := bays) (g := g) h hq (Nat.le_refl _)
    have hF3 := firstI_at (show 0 ≤ firstI bays.length (FreeP bays t g (asg bays t g o q) (at_ o (q : Int))) by omega)
    rw [← hval2] at hF3
    have hF4 := (free_iff h hq).1 hF3
    refine hF4.2 p (by omega) ?_ (meet_comm.1 hm)
    rw [asg_val h (by omega) (by omega), ← hval, ← je]
    omega
/-- Who got none: each bay that is long enough is held by one ahead of it. -/
theorem asg_none {bays : List Int} {t : List S49} {g : Int} {o : List Int} (h : OrderP t o) {i : Int} (h0 : 0 ≤ i) (h1 : i < (t.length : Int)) (hv : at_ (asg bays t g o t.length) i = -1) (b : Nat) (hb : b < bays.length) (hl : (at_ t i).f2 ≤ at_ bays (b : Int)) : ∃ j : Int, 0 ≤ j ∧ j < (t.length : Int) ∧ LtK (keyOf t) (fun a b => a < b) j i ∧ at_ (asg bays t g o t.length) j = (b : Int) ∧ MeetS (at_ t i) (at_ t j) g := by
  classical
  obtain ⟨p, hp, rfl⟩ := order_all h i h0 h1
  rw [asg_val h hp (Nat.le_refl _)] at hv
  have hn : ¬ FreeP bays t g (asg bays t g o p) (at_ o (p : Int)) b := fun q => by
    have := (firstI_lo bays.length (FreeP bays t g (asg bays t g o p) (at_ o (p : Int)))).2.2.2 ⟨b, hb, q⟩
    omega
  rw [free_iff h hp] at hn
  have hn2 : ∃ k : Nat, k < p ∧ at_ (asg bays t g o p) (at_ o (k : Int)) = (b : Int) ∧ MeetS (at_ t (at_ o (p : Int))) (at_ t (at_ o (k : Int))) g := by
    refine Classical.byContradiction fun q => hn ⟨hl, fun k hk e m => q ⟨k, hk, e, m⟩⟩
  obtain ⟨k, hk, e, m⟩ := hn2
  have ho := h.2.1 k (by omega)
  refine ⟨at_ o (k : Int), ho.1, ho.2, h.2.2 k p (by omega) hk hp, ?_, m⟩
  rw [asg_val h (by omega) (Nat.le_refl _), ← e, asg_val h hk (by omega)]
theorem ev_impl_AssignOk (bays : List Int) (t : List S49) (g : Int) (o : List Int) (hA : AskP bays t g) (h : OrderP t o) : Ev (fun k => impl_AssignOk.f k bays t g (asg bays t g o t.length)) true := by
  classical
  obtain ⟨hB, hS, hG⟩ := hA
  have h60 := hS.1
  have h12 := hB.1
  have hl := asg_len bays t g o t.length
  have hGd : (1 ≤ g ∧ g ≤ 60) := hG
  unfold impl_AssignOk.f
  refine Ev.bind (ev_impl_BaysOk bays (by omega) true (by simp [hB])) (Ev.pos rfl (Ev.bind (ev_impl_StaysOk t (by omega) true (by simp [hS])) (Ev.pos rfl (Ev.opt (eq_impl_gapOk g) (Ev.pos (decide_eq_true hGd) (Ev.pos (by omega) ?_))))))
  refine ev_fold (fun k i => impl_AssignOk.l0 k bays t g (asg bays t g o t.length) (i : Int)) t.length ?_ ?_
  · intro i hi hn
    refine Ev.step (fun k => by simp only [impl_AssignOk.l0]; rfl) ?_
    rw [wrap_succ hi (by omega), wrap_id (x := (bays.length : Int) - 1) (by omega) (by omega)]
    refine Ev.pos (by omega) (Ev.pos (by omega) (Ev.ite (fun _ => hn) (fun e => ?_)))
    obtain ⟨f1, f2, f3, f4⟩ := asg_fit h (i := (i : Int)) (by omega) (by omega) e
    refine Ev.opt (eq_impl_between _ _ _) (Ev.pos (decide_eq_true (by omega)) (Ev.pos f1 (Ev.pos f2 (Ev.pos (by omega) (Ev.neg (by omega) ?_)))))
    have hr := ev_impl_room bays t g (asg bays t g o t.length) hS hG hl (at_ (asg bays t g o t.length) (i : Int)).toNat (i : Int) (by omega) (by omega) true (by
      rw [show (((at_ (asg bays t g o t.length) (i : Int)).toNat : Nat) : Int) = at_ (asg bays t g o t.length) (i : Int) by omega]
      exact ⟨fun _ j hj hne he => f4 (j : Int) (by omega) (by omega) hne he, fun _ => rfl⟩)
    rw [show (((at_ (asg bays t g o t.length) (i : Int)).toNat : Nat) : Int) = at_ (asg bays t g o t.length) (i : Int) by omega] at hr
    exact Ev.bind hr (Ev.pos rfl hn)
  · refine Ev.step (fun k => by simp only [impl_AssignOk.l0]; rfl) ?_
    exact Ev.neg (by omega) (ev_val rfl)
theorem ev_within (xs : List Int) (v : Int) (hl : xs.length ≤ 1048576) (b : Bool) (hb : b = true ↔ v ∈ xs) : Ev (fun k => laws_within.f k xs v) b := by
  classical
  unfold laws_within.f
  rw [mem_at] at hb
  refine ev_scan xs.length (fun j => ¬ at_ xs (j : Int) = v) true (fun k j => laws_within.l0 k xs v (j : Int)) (fun ⟨j, hj, h⟩ => hb.2 ⟨j, hj, Classical.not_not.1 h⟩) ?_ ?_
  · intro j hj _ hn hx
    refine Ev.step (fun k => by simp only [laws_within.l0]; rfl) ?_
    rw [wrap_succ hj (by omega)]
    exact Ev.pos (by omega) (Ev.pos (by omega) (Ev.ite (fun g => ev_val (hx (fun q => q g)).symm) (fun g => hn g)))
  · intro hp
    refine Ev.step (fun k => by simp only [laws_within.l0]; rfl) ?_
    exact Ev.neg (by omega) (ev_val (bool_not hb fun ⟨j, hj, g⟩ => hp j hj g).symm)
theorem hold_meet {a b : S49} {g m : Int} (ha : HoldsP a g m) (hb : HoldsP b g m) : MeetS a b g := by
  unfold HoldsP at *
  unfold MeetS HoldsP
  omega
theorem evx_DrawBays (c : S69) (hc : CurP c) : Evx (fun k => spec_l10DrawBays.f k c) (fun r => CurP r.2 ∧ BaysP r.1) := by
  unfold spec_l10DrawBays.f
  obtain ⟨q, e1, c1, q0, q1, _⟩ := below_ok c 5 hc
  have q1 := q1 (by omega)
  refine Evx.opt e1 ?_
  rw [wrap_id (x := 1 + q.1) (by omega) (by omega)]
  have key := evx_down (fun k i (s : List Int × S69) => spec_l10DrawBays.l0 k s.2 s.1 (i : Int))
    (fun i s => CurP s.2 ∧ 1 ≤ s.1.length + i ∧ s.1.length + i ≤ 5 ∧ ∀ j, j < s.1.length → 1 ≤ at_ s.1 (j : Int) ∧ at_ s.1 (j : Int) ≤ 1000)
    (fun r => CurP r.2 ∧ BaysP r.1) ?_ ?_ (1 + q.1).toNat ([], q.2) ⟨c1, by simp; omega, by simp; omega, fun j hj => absurd hj (by simp)⟩
  · simpa [show (((1 + q.1).toNat : Nat) : Int) = 1 + q.1 by omega] using key
  · rintro i ⟨xs, cu⟩ ⟨i1, i2, i3, i4⟩ hnx
    dsimp only at i1 i2 i3 i4
    refine Evx.step (fun k => by simp only [spec_l10DrawBays.l0]; rfl) ?_
    obtain ⟨d, e2, c2, d0, d1, _⟩ := below_ok cu 12 i1
    have d1 := d1 (by omega)
    refine Evx.pos (by omega) (Evx.opt e2 ?_)
    rw [wrap_id (x := 20 * d.1) (by omega) (by omega), wrap_id (x := 60 + 20 * d.1) (by omega) (by omega), wrap_id (x := ((i + 1 : Nat) : Int) - 1) (by omega) (by omega), show ((i + 1 : Nat) : Int) - 1 = (i : Int) by omega]
    refine Evx.pos (by simp only [List.length_cons, List.length_nil]; omega) (hnx (xs ++ [60 + 20 * d.1], d.2) ⟨c2, by simp only [List.length_append, List.length_singleton]; omega, by simp only [List.length_append, List.length_singleton]; omega, fun j hj => ?_⟩)
    simp only [List.length_append, List.length_singleton] at hj
    dsimp only
    by_cases e : j = xs.length
    · rw [e, at_app_last]; omega
    · rw [at_app_left _ _ (by omega) (by omega)]; exact i4 j (by omega)
  · rintro ⟨xs, cu⟩ ⟨i1, i2, i3, i4⟩
    dsimp only at i1 i2 i3 i4
    refine Evx.step (fun k => by simp only [spec_l10DrawBays.l0]; rfl) ?_
    exact Evx.neg (by omega) (Evx.val ⟨i1, ⟨by dsimp only; omega, by dsimp only; omega⟩, i4⟩)
theorem evx_DrawStays (c : S69) (code : List Int) (hc : CurP c) (hk : CodeP code) : Evx (fun k => spec_l10DrawStays.f k c code) (fun r => CurP r.2 ∧ StaysP r.1) := by
  unfold spec_l10DrawStays.f
  obtain ⟨z, ez, z0, z1⟩ := size_ok code hk 14 (by omega) (by omega)
  refine Evx.opt ez ?_
  rw [wrap_id (x := 2 + z) (by omega) (by omega)]
  obtain ⟨q, e1, c1, q0, q1, _⟩ := below_ok c (2 + z) hc
  have q1 := q1 (by omega)
  refine Evx.opt e1 ?_
  have key := evx_down (fun k i (s : List S49 × S69) => spec_l10DrawStays.l0 k s.2 s.1 (i : Int))
    (fun i s => CurP s.2 ∧ s.1.length + i ≤ 16 ∧ ∀ j, j < s.1.length → StayP (at_ s.1 (j : Int)))
    (fun r => CurP r.2 ∧ StaysP r.1) ?_ ?_ q.1.toNat ([], q.2) ⟨c1, by simp; omega, fun j hj => absurd hj (by simp)⟩
  · simpa [show ((q.1.toNat : Nat) : Int) = q.1 by omega] using key
  · rintro i ⟨xs, cu⟩ ⟨i1, i2, i4⟩ hnx
    dsimp only at i1 i2 i4
    refine Evx.step (fun k => by simp only [spec_l10DrawStays.l0]; rfl) ?_
    obtain ⟨d, e2, c2, d0, d1, _⟩ := below_ok cu 60 i1
    have d1 := d1 (by omega)
    obtain ⟨w, e3, c3, w0, w1, _⟩ := below_ok d.2 12 c2
    have w1 := w1 (by omega)
    obtain ⟨v, e4, c4, v0, v1, _⟩ := below_ok w.2 9 c3
    have v1 := v1 (by omega)
    refine Evx.pos (by omega) (Evx.opt e2 (Evx.opt e3 (Evx.opt e4 ?_)))
    rw [wrap_id (x := d.1 + w.1) (by omega) (by omega), wrap_id (x := 20 * v.1) (by omega) (by omega), wrap_id (x := 40 + 20 * v.1) (by omega) (by omega), wrap_id (x := ((i + 1 : Nat) : Int) - 1) (by omega) (by omega), show ((i + 1 : Nat) : Int) - 1 = (i : Int) by omega]
    refine Evx.pos (by simp only [List.length_cons, List.length_nil]; omega) (hnx (xs ++ [⟨d.1, d.1 + w.1, 40 + 20 * v.1⟩], v.2) ⟨c4, by simp only [List.length_append, List.length_singleton]; omega, fun j hj => ?_⟩)
    simp only [List.length_append, List.length_singleton] at hj
    dsimp only
    by_cases e : j = xs.length
    · rw [e, at_app_last]; unfold StayP; dsimp only; omega
    · rw [at_app_left _ _ (by omega) (by omega)]; exact i4 j (by omega)
  · rintro ⟨xs, cu⟩ ⟨i1, i2, i4⟩
    dsimp only at i1 i2 i4
    refine Evx.step (fun k => by simp only [spec_l10DrawStays.l0]; rfl) ?_
    exact Evx.neg (by omega) (Evx.val ⟨i1, by dsimp only; omega, i4⟩)
theorem evx_DrawRightStays (code : List Int) (hk : CodeP code) : Evx (fun k => spec_DrawRightStays.f k code) (fun r => AskP r.1 r.2.1 r.2.2) := by
  unfold spec_DrawRightStays.f
  refine Evx.bind (evx_l01New code hk) (fun c hc => Evx.bind (evx_DrawBays c hc) (fun b hb => Evx.bind (evx_DrawStays b.2 code hb.1 hk) (fun s hs => ?_)))
  obtain ⟨d, e2, c2, d0, d1, _⟩ := below_ok s.2 6 hs.1
  have d1 := d1 (by omega)
  refine Evx.opt e2 ?_
  rw [wrap_id (x := 1 + d.1) (by omega) (by omega)]
  exact Evx.val ⟨hb.2, hs.2, by unfold GapP; dsimp only; omega⟩
/-- How many of the first j stays hold a bay in a minute. -/
def cntH (t : List S49) (g m : Int) : Nat → Int
  | 0 => 0
  | j + 1 => if HoldsP (at_ t (j : Int)) g m then cntH t g m j + 1 else cntH t g m j
/-- The most that hold bays when one of the first i comes. -/
def pkV (t : List S49) (g : Int) : Nat → Int
  | 0 => 0
  | i + 1 => mx (pkV t g i) (cntH t g (at_ t (i : Int)).f0 t.length)
theorem cntH_bd (t : List S49) (g m : Int) : ∀ j, 0 ≤ cntH t g m j ∧ cntH t g m j ≤ (j : Int)
  | 0 => ⟨Int.le_refl _, Int.le_refl _⟩
  | j + 1 => by
    have := cntH_bd t g m j
    unfold cntH
    split <;> omega
theorem pkV_bd (t : List S49) (g : Int) : ∀ i, 0 ≤ pkV t g i ∧ pkV t g i ≤ (t.length : Int)
  | 0 => ⟨Int.le_refl _, by unfold pkV; omega⟩
  | i + 1 => by
    have h1 := pkV_bd t g i
    have h2 := cntH_bd t g (at_ t (i : Int)).f0 t.length
    unfold pkV mx
    split <;> omega
theorem pkV_ge (t : List S49) (g : Int) : ∀ m i : Nat, i < m → cntH t g (at_ t (i : Int)).f0 t.length ≤ pkV t g m
  | 0, i, h => by omega
  | m + 1, i, h => by
    have h1 : pkV t g m ≤ pkV t g (m + 1) ∧ cntH t g (at_ t (m : Int)).f0 t.length ≤ pkV t g (m + 1) := by
      show pkV t g m ≤ mx _ _ ∧ _ ≤ mx _ _
      unfold mx
      split <;> omega
    by_cases e : i = m
    · rw [e]; exact h1.2
    · have := pkV_ge t g m i (by omega); omega
theorem pkV_at (t : List S49) (g : Int) : ∀ m, pkV t g m = 0 ∨ ∃ i, i < m ∧ pkV t g m = cntH t g (at_ t (i : Int)).f0 t.length
  | 0 => .inl rfl
  | m + 1 => by
    have ih := pkV_at t g m
    show mx _ _ = 0 ∨ ∃ i, i < m + 1 ∧ mx _ _ = _
    unfold mx
    split
    · exact .inr ⟨m, by omega, rfl⟩
    · rcases ih with h | ⟨i, h1, h2⟩
      · exact .inl h
      · exact .inr ⟨i, by omega, h2⟩
/-- The stays that hold. -/
def holdL (t : List S49) (g m : Int) : Nat → List Int
  | 0 => []
  | j + 1 => if HoldsP (at_ t (j : Int)) g m then (j : Int) :: holdL t g m j else holdL t g m j
theorem holdL_len (t : List S49) (g m : Int) : ∀ j, ((holdL t g m j).length : Int) = cntH t g m j
  | 0 => rfl
  | j + 1 => by
    have := holdL_len t g m j
    unfold holdL cntH
    split
    · simp only [List.length_cons]; omega
    · exact this
theorem holdL_mem (t : List S49) (g m : Int) : ∀ j v, v ∈ holdL t g m j ↔ (0 ≤ v ∧ v < (j : Int)) ∧ HoldsP (at_ t v) g m
  | 0, v => ⟨fun h => absurd h (by simp [holdL]), fun h => by omega⟩
  | j + 1, v => by
    have ih := holdL_mem t g m j v
    unfold holdL
    by_cases e : v = (j : Int)
    · subst e
      split
      · rename_i h; exact ⟨fun _ => ⟨by omega, h⟩, fun _ => List.mem_cons_self⟩
      · rename_i h; exact ⟨fun w => by have := (ih.1 w).1; omega, fun w => absurd w.2 h⟩
    · split
      · rw [List.mem_cons]
        exact ⟨fun w => by have := ih.1 (w.resolve_left e); exact ⟨by omega, this.2⟩, fun w => .inr (ih.2 ⟨by omega, w.2⟩)⟩
      · exact ⟨fun w => by have := ih.1 w; exact ⟨by omega, this.2⟩, fun w => ih.2 ⟨by omega, w.2⟩⟩
theorem holdL_nodup (t : List S49) (g m : Int) : ∀ j, (holdL t g m j).Nodup
  | 0 => List.nodup_nil
  | j + 1 => by
    have ih := holdL_nodup t g m j
    unfold holdL
    split
    · refine List.nodup_cons.2 ⟨fun w => ?_, ih⟩
      have := ((holdL_mem t g m j _).1 w).1; omega
    · exact ih
theorem ev_impl_Peak (t : List S49) (g : Int) (hS : StaysP t) (hG : GapP g) : Ev (fun k => impl_Peak.f k t g) (pkV t g t.length) := by
  have h60 := hS.1
  have hGd : (1 ≤ g ∧ g ≤ 60) := hG
  unfold impl_Peak.f
  refine Ev.bind (ev_impl_StaysOk t (by omega) true (by simp [hS])) (Ev.pos rfl (Ev.opt (eq_impl_gapOk g) (Ev.pos (decide_eq_true hGd) ?_)))
  refine ev_fold (fun k i => impl_Peak.l0 k t g (pkV t g i) (i : Int)) t.length ?_ ?_
  · intro i hi hn
    refine Ev.step (fun k => by simp only [impl_Peak.l0]; rfl) ?_
    refine Ev.pos (by omega) (Ev.pos (by omega) ?_)
    refine ev_fold (fun k j => impl_Peak.l1 k t g (pkV t g i) (i : Int) (cntH t g (at_ t (i : Int)).f0 j) (j : Int)) t.length ?_ ?_
    · intro j hj hn2
      have hc := cntH_bd t g (at_ t (i : Int)).f0 j
      refine Ev.step (fun k => by simp only [impl_Peak.l1]; rfl) ?_
      rw [wrap_succ hj (by omega), wrap_id (x := cntH t g (at_ t (i : Int)).f0 j + 1) (by omega) (by omega)]
      refine Ev.pos (by omega) (Ev.pos (by omega) (Ev.opt (eq_impl_holds (hS.2 j hj) hG _) (Ev.ite (fun w => ?_) (fun w => ?_))))
      · unfold cntH at hn2; rw [if_pos (of_decide_eq_true w)] at hn2; exact hn2
      · unfold cntH at hn2; rw [if_neg (fun z => w (decide_eq_true z))] at hn2; exact hn2
    · refine Ev.step (fun k => by simp only [impl_Peak.l1]; rfl) ?_
      rw [wrap_succ hi (by omega)]
      exact Ev.neg (by omega) hn
  · refine Ev.step (fun k => by simp only [impl_Peak.l0]; rfl) ?_
    exact Ev.neg (by omega) (ev_val rfl)
theorem ev_spec_Peak (t : List S49) (g : Int) (hS : StaysP t) (hG : GapP g) : Ev (fun k => spec_Peak.f k t g) (pkV t g t.length) := by
  have h60 := hS.1
  have hGd : (1 ≤ g ∧ g ≤ 60) := hG
  unfold spec_Peak.f
  refine Ev.bind (ev_spec_StaysOk t (by omega) true (by simp [hS])) (Ev.pos rfl (Ev.opt (eq_spec_l10Gap g) (Ev.pos (decide_eq_true hGd) ?_)))
  refine ev_fold (fun k i => spec_Peak.l0 k t g (pkV t g i) (i : Int)) t.length ?_ ?_
  · intro i hi hn
    refine Ev.step (fun k => by simp only [spec_Peak.l0]; rfl) ?_
    refine Ev.pos (by omega) ?_
    refine ev_fold (fun k j => spec_Peak.l1 k t g (pkV t g i) (i : Int) (cntH t g (at_ t (i : Int)).f0 j) (j : Int)) t.length ?_ ?_
    · intro j hj hn2
      have hc := cntH_bd t g (at_ t (i : Int)).f0 j
      refine Ev.step (fun k => by simp only [spec_Peak.l1]; rfl) ?_
      rw [wrap_succ hj (by omega), wrap_id (x := cntH t g (at_ t (i : Int)).f0 j + 1) (by omega) (by omega)]
      refine Ev.pos (by omega) (Ev.pos (by omega) (Ev.pos (by omega) (Ev.pos (by omega) (Ev.opt (eq_spec_l10Holds (hS.2 j hj) hG _) (Ev.ite (fun w => ?_) (fun w => ?_))))))
      · unfold cntH at hn2; rw [if_pos (of_decide_eq_true w)] at hn2; exact hn2
      · unfold cntH at hn2; rw [if_neg (fun z => w (decide_eq_true z))] at hn2; exact hn2
    · refine Ev.step (fun k => by simp only [spec_Peak.l1]; rfl) ?_
      rw [wrap_succ hi (by omega)]
      rw [show pkV t g (i + 1) = if cntH t g (at_ t (i : Int)).f0 t.length > pkV t g i then cntH t g (at_ t (i : Int)).f0 t.length else pkV t g i from rfl] at hn
      refine Ev.neg (by omega) (Ev.ite (fun w => ?_) (fun w => ?_))
      · rw [if_pos w] at hn; exact hn
      · rw [if_neg w] at hn; exact hn
  · refine Ev.step (fun k => by simp only [spec_Peak.l0]; rfl) ?_
    exact Ev.neg (by omega) (ev_val rfl)
theorem maxbays {n : Nat} (h1 : 1 ≤ n) (h2 : n ≤ 12) : BaysP (List.replicate n 1000) := ⟨by simp; omega, fun i hi => by
  rw [List.length_replicate] at hi
  rw [at_rep _ _ (by omega) (by omega)]
  omega⟩
/-- As many long bays as the peak are enough. -/
theorem enough {t : List S49} {g : Int} {o : List Int} {n : Nat} (hA : AskP (List.replicate n 1000) t g) (h : OrderP t o) (hp : pkV t g t.length ≤ (n : Int)) : ∀ i : Int, 0 ≤ i → i < (t.length : Int) → at_ (asg (List.replicate n 1000) t g o t.length) i ≠ -1 := by
  classical
  intro i h0 h1 hv
  have hst := stay_at hA.2.1 h0 h1
  have hst' := hst
  unfold StayP at hst'
  have hg := hA.2.2
  unfold GapP at hg
  have hn := fun b (hb : b < n) => asg_none h h0 h1 hv b (by rw [List.length_replicate]; exact hb) (by rw [at_rep _ _ (by omega) (by omega)]; omega)
  let J : Nat → Int := fun b => if hb : b < n then Classical.choose (hn b hb) else 0
  have hJ : ∀ b, b < n → 0 ≤ J b ∧ J b < (t.length : Int) ∧ LtK (keyOf t) (fun a b => a < b) (J b) i ∧ at_ (asg (List.replicate n 1000) t g o t.length) (J b) = (b : Int) ∧ MeetS (at_ t i) (at_ t (J b)) g := fun b hb => by
    show _ ∧ _
    have := Classical.choose_spec (hn b hb)
    simp only [J, dif_pos hb]
    exact this
  have hle := nodup_le (i :: (List.range n).map J) (holdL t g (at_ t i).f0 t.length) ?_ ?_
  · have hc := holdL_len t g (at_ t i).f0 t.length
    have hk := pkV_ge t g t.length i.toNat (by omega)
    rw [show ((i.toNat : Nat) : Int) = i by omega] at hk
    simp only [List.length_cons, List.length_map, List.length_range] at hle
    omega
  · refine List.nodup_cons.2 ⟨fun w => ?_, ?_⟩
    · obtain ⟨b, hb, e⟩ := List.mem_map.1 w
      rw [List.mem_range] at hb
      have := (hJ b hb).2.2.2.1
      rw [e, hv] at this
      omega
    · refine List.pairwise_iff_getElem.2 fun p q hp1 hq1 hpq e => ?_
      simp only [List.length_map, List.length_range] at hp1 hq1
      simp only [List.getElem_map, List.getElem_range] at e
      have e1 := (hJ p hp1).2.2.2.1
      have e2 := (hJ q hq1).2.2.2.1
      rw [e, e2] at e1
      omega
  · intro x hx
    rw [holdL_mem]
    rcases List.mem_cons.1 hx with rfl | w
    · refine ⟨⟨h0, h1⟩, ?_⟩
      unfold HoldsP; omega
    · obtain ⟨b, hb, rfl⟩ := List.mem_map.1 w
      rw [List.mem_range] at hb
      obtain ⟨j0, j1, j2, _, j4⟩ := hJ b hb
      refine ⟨⟨j0, j1⟩, ?_⟩
      have hs2 := stay_at hA.2.1 j0 j1
      unfold StayP at hs2
      unfold LtK keyOf at j2
      unfold MeetS HoldsP at j4
      unfold HoldsP
      omega
/-- With fewer bays than the peak someone gets none. -/
theorem tooFew {t : List S49} {g : Int} {o bays : List Int} (hA : AskP bays t g) (h : OrderP t o) (hp : (bays.length : Int) < pkV t g t.length) : ∃ i : Int, 0 ≤ i ∧ i < (t.length : Int) ∧ at_ (asg bays t g o t.length) i = -1 := by
  classical
  refine Classical.byContradiction fun hno => ?_
  rcases pkV_at t g t.length with e | ⟨i, hi, e⟩
  · omega
  have hc := holdL_len t g (at_ t (i : Int)).f0 t.length
  have hfit := fun (v : Int) (hv : v ∈ holdL t g (at_ t (i : Int)).f0 t.length) => asg_fit (bays := bays) (g := g) h ((holdL_mem t g _ _ v).1 hv).1.1 ((holdL_mem t g _ _ v).1 hv).1.2 (fun w => hno ⟨v, ((holdL_mem t g _ _ v).1 hv).1.1, ((holdL_mem t g _ _ v).1 hv).1.2, w⟩)
  have hle := nodup_le ((holdL t g (at_ t (i : Int)).f0 t.length).map (fun v => at_ (asg bays t g o t.length) v)) ((List.range bays.length).map (fun b : Nat => (b : Int))) ?_ ?_
  · simp only [List.length_map, List.length_range] at hle
    omega
  · refine List.pairwise_iff_getElem.2 fun p q hp1 hq1 hpq eq => ?_
    simp only [List.length_map] at hp1 hq1
    simp only [List.getElem_map] at eq
    have m1 := List.getElem_mem hp1
    have m2 := List.getElem_mem hq1
    have d1 := (holdL_mem t g _ _ _).1 m1
    have d2 := (holdL_mem t g _ _ _).1 m2
    have hne := List.pairwise_iff_getElem.1 (holdL_nodup t g (at_ t (i : Int)).f0 t.length) p q hp1 hq1 hpq
    exact (hfit _ m1).2.2.2 _ d2.1.1 d2.1.2 (fun w => hne w.symm) eq.symm (hold_meet d1.2 d2.2)
  · intro x hx
    obtain ⟨v, hv, rfl⟩ := List.mem_map.1 hx
    have := hfit v hv
    exact List.mem_map.2 ⟨(at_ (asg bays t g o t.length) v).toNat, List.mem_range.2 (by omega), by omega⟩
theorem pure_FnEnough : Pure := by
  classical
  intro code h
  refine Ev.rounds ?_
  unfold laws_FnEnough.f laws_big.f
  refine Ev.opt rfl (Ev.ite (fun _ => ev_val rfl) (fun hbig => ?_))
  have hC : CodeP code := code_ok h (fun g => hbig (decide_eq_true g))
  obtain ⟨⟨bays0, t, g⟩, e1, hA0⟩ := evx_DrawRightStays code hC
  dsimp only at hA0
  obtain ⟨_, hS, hG⟩ := hA0
  have h60 := hS.1
  have hGd := hG
  unfold GapP at hGd
  obtain ⟨o, o1, o2⟩ := evx_inTurn t (by omega)
  have hpk := pkV_bd t g t.length
  refine Ev.bind e1 (Ev.bind (ev_impl_Peak t g hS hG) (Ev.bind (ev_spec_Peak t g hS hG) (Ev.pos rfl (Ev.pos ?_ ?_))))
  · rw [beq_iff_eq, Bool.eq_iff_iff, beq_iff_eq, beq_iff_eq]
    refine ⟨fun e => ?_, fun e => ?_⟩
    · rcases Nat.eq_zero_or_pos t.length with w | w
      · exact Int.ofNat_eq_zero.2 w
      · have hk := pkV_ge t g t.length 0 w
        have hl := holdL_len t g (at_ t ((0 : Nat) : Int)).f0 t.length
        have hm := (holdL_mem t g (at_ t ((0 : Nat) : Int)).f0 t.length 0).2 ⟨by omega, by
          have hst := hS.2 0 w
          unfold StayP at hst
          unfold HoldsP
          have e0 : at_ t (0 : Int) = at_ t ((0 : Nat) : Int) := rfl
          rw [e0]
          omega⟩
        have := List.length_pos_of_mem hm
        omega
    · have e2 : (t.length : Int) = 0 := e
      omega
  have asgE := fun (bays : List Int) (hb : BaysP bays) => ev_impl_Assign bays t g o (by have := hb.1; omega) (by omega) o1 o2 (asg bays t g o t.length) (fun _ => rfl) (fun q => absurd ⟨hb, hS, hG⟩ q)
  have shortE := fun (bays : List Int) (hb : BaysP bays) => ev_impl_ShortOf bays t g o (by have := hb.1; omega) (by omega) o1 o2 (asg bays t g o t.length) (fun _ => rfl) (fun q => absurd ⟨hb, hS, hG⟩ q)
  have hB5 : BaysP [5] := ⟨by simp, fun i hi => by
    obtain rfl : i = 0 := (by simpa using hi)
    decide⟩
  -- the bays are laid
  have j1 : Ev (fun k => laws_FnEnough.j1 k (bays0, t, g) (pkV t g t.length) (List.replicate (min (pkV t g t.length).toNat 12) 1000)) true := by
    refine Ev.step (fun k => by simp only [laws_FnEnough.j1]; rfl) ?_
    have h5 : Ev (fun k => (impl_Assign.f k [5] t g).bind fun x7 => some ((x7.length : Int) == (t.length : Int))) true := Ev.bind (asgE [5] hB5) (ev_val (by rw [asg_len]; simp))
    refine Ev.ite (fun _ => h5) (fun p0 => Ev.ite (fun _ => h5) (fun p12 => ?_))
    obtain ⟨n, hn⟩ : ∃ n : Nat, pkV t g t.length = (n : Int) := ⟨(pkV t g t.length).toNat, by omega⟩
    rw [hn, Int.toNat_natCast, Nat.min_eq_left (by omega)]
    have hBn := maxbays (n := n) (by omega) (by omega)
    have hAn : AskP (List.replicate n 1000) t g := ⟨hBn, hS, hG⟩
    have hen := enough hAn o2 (by omega)
    have hal := asg_len (List.replicate n 1000) t g o t.length
    have hno : -1 ∉ asg (List.replicate n 1000) t g o t.length := fun w => by
      obtain ⟨i, hi, e⟩ := mem_at.1 w
      exact hen (i : Int) (by omega) (by omega) e
    refine Ev.bind (asgE _ hBn) (Ev.pos (by omega) (Ev.bind (ev_within _ (-1) (by omega) false ⟨fun z => Bool.noConfusion z, fun z => absurd z hno⟩) (Ev.neg (by decide) (Ev.bind (ev_impl_AssignOk _ t g o hAn o2) (Ev.pos rfl (Ev.bind (shortE _ hBn) (Ev.pos ?_ ?_)))))))
    · split
      · rfl
      · unfold shortV
        rw [firstI_no (fun i hi => hen _ (o2.2.1 i hi).1 (o2.2.1 i hi).2)]
        rfl
    refine Ev.ite (fun _ => ev_val rfl) (fun p1 => ?_)
    rw [List.length_replicate, Int.toNat_natCast, show (1 : Int).toNat = 1 from rfl, List.drop_replicate, List.take_replicate, Nat.min_self]
    have hB1 := maxbays (n := n - 1) (by omega) (by omega)
    have hA1 : AskP (List.replicate (n - 1) 1000) t g := ⟨hB1, hS, hG⟩
    obtain ⟨i, i0, i1, i2⟩ := tooFew hA1 o2 (by rw [List.length_replicate]; omega)
    have hal1 := asg_len (List.replicate (n - 1) 1000) t g o t.length
    refine Ev.pos (by omega) (Ev.bind (asgE _ hB1) (Ev.bind (ev_within _ (-1) (by omega) true ⟨fun _ => mem_at.2 ⟨i.toNat, by omega, by rw [show ((i.toNat : Nat) : Int) = i by omega]; exact i2⟩, fun _ => rfl⟩) (Ev.pos rfl (Ev.bind (shortE _ hB1) (ev_val (decide_eq_true ?_))))))
    rw [if_neg (by omega)]
    obtain ⟨p, hp, ep⟩ := order_all o2 i i0 i1
    have hf := firstI_lo t.length (fun p => at_ (asg (List.replicate (n - 1) 1000) t g o t.length) (at_ o (p : Int)) = -1)
    have hf0 := hf.2.2.2 ⟨p, hp, by rw [ep]; exact i2⟩
    unfold shortV
    rw [if_pos hf0]
    have := (o2.2.1 (firstI t.length (fun p => at_ (asg (List.replicate (n - 1) 1000) t g o t.length) (at_ o (p : Int)) = -1)).toNat (by omega)).1
    rwa [show (((firstI t.length (fun p => at_ (asg (List.replicate (n - 1) 1000) t g o t.length) (at_ o (p : Int)) = -1)).toNat : Nat) : Int) = firstI t.length (fun p => at_ (asg (List.replicate (n - 1) 1000) t g o t.length) (at_ o (p : Int)) = -1) by omega] at this
  refine ev_fold (fun k i => laws_FnEnough.l0 k (bays0, t, g) (pkV t g t.length) (List.replicate i 1000) (i : Int)) (min (pkV t g t.length).toNat 12) ?_ ?_
  · intro i hi hn
    rw [List.replicate_succ'] at hn
    refine Ev.step (fun k => by simp only [laws_FnEnough.l0]; rfl) ?_
    rw [wrap_succ hi (by omega)]
    exact Ev.pos (by omega) (Ev.pos (by omega) (Ev.pos (by simp only [List.length_replicate, List.length_cons, List.length_nil]; omega) hn))
  · refine Ev.step (fun k => by simp only [laws_FnEnough.l0]; rfl) ?_
    exact Ev.ite (fun _ => Ev.neg (by omega) j1) (fun _ => j1)

end Go.Proofs.Ytddipeelmandjaa.Fns
