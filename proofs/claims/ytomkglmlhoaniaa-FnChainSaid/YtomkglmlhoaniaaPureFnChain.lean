/- The pure statement of the law FnChain: its function, told by the engine, gives true for every input. -/
import Derived.Test.YtomkglmlhoaniaaSFnChain
namespace Go.Proofs.Ytomkglmlhoaniaa.Fns
open Go.RowKit Go.WideShapes Go.Proofs.Ytomkglmlhoaniaa.Eng
set_option linter.unusedVariables false
set_option linter.unusedSimpArgs false
/-- From some number of rounds on there is one answer, and C holds of it. -/
def Evx {α : Type} (g : Nat → Option α) (C : α → Prop) : Prop := ∃ r, Ev g r ∧ C r
section
variable {α β : Type}
theorem Evx.val {a : α} {C : α → Prop} (h : C a) : Evx (fun _ => some a) C := ⟨a, Ev.now a, h⟩
theorem Evx.of {g : Nat → Option α} {r : α} {C : α → Prop} (h : Ev g r) (hc : C r) : Evx g C := ⟨r, h, hc⟩
theorem Evx.bind {g : Nat → Option α} {f : Nat → α → Option β} {P : α → Prop} {C : β → Prop} (h : Evx g P) (k : ∀ a, P a → Evx (fun n => f n a) C) : Evx (fun n => (g n).bind (f n)) C := by
  obtain ⟨a, h1, h2⟩ := h
  obtain ⟨r, h3, h4⟩ := k a h2
  exact ⟨r, Ev.bind h1 h3, h4⟩
theorem Evx.bindv {g : Nat → Option α} {f : Nat → α → Option β} {a : α} {C : β → Prop} (h : Ev g a) (k : Evx (fun n => f n a) C) : Evx (fun n => (g n).bind (f n)) C := by
  obtain ⟨r, h3, h4⟩ := k
  exact ⟨r, Ev.bind h h3, h4⟩
theorem Evx.opt {g : Option α} {f : Nat → α → Option β} {a : α} {C : β → Prop} (h : g = some a) (k : Evx (fun n => f n a) C) : Evx (fun n => g.bind (f n)) C := by subst h; exact k
theorem Evx.step {g f : Nat → Option α} {C : α → Prop} (h : ∀ k, g (k + 1) = f k) (k : Evx f C) : Evx g C := by
  obtain ⟨r, h3, h4⟩ := k
  exact ⟨r, Ev.step h h3, h4⟩
theorem Evx.congr {g f : Nat → Option α} {C : α → Prop} (h : ∀ k, g k = f k) (k : Evx f C) : Evx g C := by
  obtain ⟨r, h3, h4⟩ := k
  exact ⟨r, Ev.congr h h3, h4⟩
theorem Evx.ite {c : Prop} [Decidable c] {g f : Nat → Option α} {C : α → Prop} (h : c → Evx g C) (h' : ¬ c → Evx f C) : Evx (fun k => if c then g k else f k) C := by
  by_cases hc : c
  · simp only [if_pos hc]; exact h hc
  · simp only [if_neg hc]; exact h' hc
theorem Evx.pos {c : Prop} [Decidable c] {g f : Nat → Option α} {C : α → Prop} (hc : c) (h : Evx g C) : Evx (fun k => if c then g k else f k) C := by simp only [if_pos hc]; exact h
theorem Evx.neg {c : Prop} [Decidable c] {g f : Nat → Option α} {C : α → Prop} (hc : ¬ c) (h : Evx f C) : Evx (fun k => if c then g k else f k) C := by simp only [if_neg hc]; exact h
theorem Evx.mono {g : Nat → Option α} {C D : α → Prop} (h : Evx g C) (hd : ∀ r, C r → D r) : Evx g D := by
  obtain ⟨r, h1, h2⟩ := h
  exact ⟨r, h1, hd r h2⟩
theorem Evx.ev {g : Nat → Option α} {r : α} (h : Evx g (fun x => x = r)) : Ev g r := by
  obtain ⟨a, h1, rfl⟩ := h
  exact h1
theorem Ev.uniq {g : Nat → Option α} {a b : α} (h : Ev g a) (h' : Ev g b) : a = b := by
  obtain ⟨K, hK⟩ := h
  obtain ⟨K', hK'⟩ := h'
  have e1 := hK (max K K') (by omega)
  have e2 := hK' (max K K') (by omega)
  rw [e1] at e2
  exact Option.some.inj e2
end
/-- A loop that counts up, with what holds of its state at each place. -/
theorem evx_loop {R σ : Type} (G : Nat → Nat → σ → Option R) (n : Nat) (Inv : Nat → σ → Prop) (C : R → Prop)
    (hstep : ∀ i s, i < n → Inv i s → (∀ s', Inv (i + 1) s' → Evx (fun k => G k (i + 1) s') C) → Evx (fun k => G k i s) C)
    (hend : ∀ s, Inv n s → Evx (fun k => G k n s) C) : ∀ s, Inv 0 s → Evx (fun k => G k 0 s) C := by
  have key : ∀ d i, i + d = n → ∀ s, Inv i s → Evx (fun k => G k i s) C := by
    intro d
    induction d with
    | zero => intro i hi s hs; obtain rfl : i = n := by omega
              exact hend s hs
    | succ d ih => intro i hi s hs; exact hstep i s (by omega) hs (fun s' hs' => ih (i + 1) (by omega) s' hs')
  exact fun s hs => key n 0 (by omega) s hs
-- counting, taking, placing
theorem at_getD {α : Type} [Inhabited α] (xs : List α) (i : Int) : at_ xs i = xs.getD i.toNat default := rfl
theorem at_int {α : Type} [Inhabited α] {xs : List α} {i : Int} (h0 : 0 ≤ i) (h1 : i < (xs.length : Int)) : at_ xs i = xs[i.toNat]'(by omega) := by
  have h : i.toNat < xs.length := by omega
  rw [at_getD, List.getD_eq_getElem?_getD, List.getElem?_eq_getElem h]
  rfl
theorem at_mem {α : Type} [Inhabited α] {xs : List α} {i : Int} (h0 : 0 ≤ i) (h1 : i < (xs.length : Int)) : at_ xs i ∈ xs := by
  rw [at_int h0 h1]; exact List.getElem_mem _
theorem all_at {α : Type} [Inhabited α] {xs : List α} {p : α → Prop} (h : ∀ y, y ∈ xs → p y) {i : Int} (h0 : 0 ≤ i) (h1 : i < (xs.length : Int)) : p (at_ xs i) := h _ (at_mem h0 h1)
theorem all_idx {α : Type} [Inhabited α] {xs : List α} {p : α → Prop} (h : ∀ i, i < xs.length → p (at_ xs (i : Int))) {i : Int} (h0 : 0 ≤ i) (h1 : i < (xs.length : Int)) : p (at_ xs i) := by
  have := h i.toNat (by omega)
  rwa [show ((i.toNat : Nat) : Int) = i by omega] at this
theorem all_iff {α : Type} [Inhabited α] {xs : List α} {p : α → Prop} : (∀ i, i < xs.length → p (at_ xs (i : Int))) ↔ ∀ y, y ∈ xs → p y := by
  refine ⟨fun h y hy => ?_, fun h i hi => h _ (at_mem (by omega) (by omega))⟩
  obtain ⟨i, hi, rfl⟩ := List.getElem_of_mem hy
  have := h i hi
  rwa [at_nat hi] at this
theorem take_succ' {α : Type} {xs : List α} {i : Nat} (h : i < xs.length) : xs.take (i + 1) = xs.take i ++ [xs[i]] := List.take_succ_eq_append_getElem h
theorem count_take {α : Type} (p : α → Bool) {xs : List α} {i : Nat} (h : i < xs.length) : (xs.take (i + 1)).countP p = (xs.take i).countP p + (if p xs[i] then 1 else 0) := by
  rw [take_succ' h, List.countP_append, List.countP_singleton]
theorem count_le {α : Type} (p : α → Bool) (xs : List α) : xs.countP p ≤ xs.length := List.countP_le_length
theorem set_take {α : Type} {xs : List α} {i j : Nat} (v : α) (h : j < xs.length) : (xs.set i v)[j]'(by rw [List.length_set]; exact h) = if i = j then v else xs[j] := by rw [List.getElem_set]
theorem at_set_ne {α : Type} [Inhabited α] {xs : List α} {i : Nat} {j : Int} {v : α} (h0 : 0 ≤ j) (h : (i : Int) ≠ j) : at_ (xs.set i v) j = at_ xs j := by
  rw [at_getD, at_getD, List.getD_eq_getElem?_getD, List.getD_eq_getElem?_getD, List.getElem?_set_ne (by omega)]
theorem at_set_eq {α : Type} [Inhabited α] {xs : List α} {i : Nat} {v : α} (h : i < xs.length) : at_ (xs.set i v) (i : Int) = v := by
  rw [at_getD, List.getD_eq_getElem?_getD, Int.toNat_natCast, List.getElem?_set_self h]; rfl
theorem at_app_left {α : Type} [Inhabited α] (a b : List α) {i : Int} (h0 : 0 ≤ i) (h : i < (a.length : Int)) : at_ (a ++ b) i = at_ a i := by
  rw [at_getD, at_getD, List.getD_eq_getElem?_getD, List.getD_eq_getElem?_getD, List.getElem?_append_left (by omega)]
theorem at_app_right {α : Type} [Inhabited α] (a b : List α) {i : Int} (h : (a.length : Int) ≤ i) : at_ (a ++ b) i = at_ b (i - a.length) := by
  rw [at_getD, at_getD, List.getD_eq_getElem?_getD, List.getD_eq_getElem?_getD, List.getElem?_append_right (by omega)]
  congr 2; omega
theorem at_app_last {α : Type} [Inhabited α] (a : List α) (v : α) : at_ (a ++ [v]) (a.length : Int) = v := by
  rw [at_app_right a [v] (by omega), Int.sub_self]; rfl
theorem at_take {α : Type} [Inhabited α] (xs : List α) {n : Nat} {i : Int} (h0 : 0 ≤ i) (h : i < n) : at_ (xs.take n) i = at_ xs i := by
  rw [at_getD, at_getD, List.getD_eq_getElem?_getD, List.getD_eq_getElem?_getD, List.getElem?_take_of_lt (by omega)]
theorem at_rep {α : Type} [Inhabited α] (n : Nat) (v : α) {i : Int} (h0 : 0 ≤ i) (h : i < n) : at_ (List.replicate n v) i = v := by
  rw [at_int h0 (by simpa using h)]; simp
theorem tmod_of {a : Int} (b : Int) (h : 0 ≤ a) : a.tmod b = a % b := Int.tmod_eq_emod_of_nonneg h
theorem tdiv_of {a : Int} (b : Int) (h : 0 ≤ a) : a.tdiv b = a / b := Int.tdiv_eq_ediv_of_nonneg h
theorem range_at {n : Nat} {f : Nat → Int} {i : Int} (h0 : 0 ≤ i) (h : i < n) : at_ ((List.range n).map f) i = f i.toNat := by
  rw [at_int h0 (by simpa using h)]; simp
theorem range_set {α : Type} (n : Nat) (f : Nat → α) (i : Nat) (v : α) : ((List.range n).map f).set i v = (List.range n).map (fun j => if j = i then v else f j) := by
  refine List.ext_getElem (by simp) fun j h1 h2 => ?_
  simp only [List.getElem_set, List.getElem_map, List.getElem_range]
  by_cases e : i = j
  · rw [if_pos e, if_pos e.symm]
  · rw [if_neg e, if_neg (fun g => e g.symm)]
theorem range_congr {α : Type} {n : Nat} {f g : Nat → α} (h : ∀ j, j < n → f j = g j) : (List.range n).map f = (List.range n).map g :=
  List.map_congr_left fun j hj => h j (List.mem_range.1 hj)
/-- A loop that counts up and stops where P does not hold. -/
theorem ev_scan {R : Type} (n : Nat) (P : Nat → Prop) (bad : R) (G : Nat → Nat → Option R) {r : R} (hr : (∃ i, i < n ∧ ¬ P i) → r = bad)
    (hstep : ∀ i, i < n → (∀ j, j < i → P j) → (P i → Ev (fun k => G k (i + 1)) r) → (¬ P i → r = bad) → Ev (fun k => G k i) r)
    (hend : (∀ i, i < n → P i) → Ev (fun k => G k n) r) : Ev (fun k => G k 0) r := by
  have key : ∀ d i, i + d = n → (∀ j, j < i → P j) → Ev (fun k => G k i) r := by
    intro d
    induction d with
    | zero => intro i hi hp; obtain rfl : i = n := by omega
              exact hend hp
    | succ d ih =>
      intro i hi hp
      refine hstep i (by omega) hp (fun h => ih (i + 1) (by omega) fun j hj => ?_) (fun h => hr ⟨i, by omega, h⟩)
      rcases Nat.lt_or_ge j i with g | g
      · exact hp j g
      · obtain rfl : j = i := by omega
        exact h
  exact key n 0 (by omega) (fun j hj => absurd hj (by omega))
theorem bool_eq {b : Bool} {P : Prop} (hb : b = true ↔ P) (h : P) : b = true := hb.2 h
theorem not_all {n : Nat} {P : Nat → Prop} (h : ¬ ∀ i, i < n → P i) : ∃ i, i < n ∧ ¬ P i := by
  classical
  exact Classical.byContradiction fun g => h fun i hi => Classical.byContradiction fun q => g ⟨i, hi, q⟩
theorem mem_take_iff {α : Type} [Inhabited α] {xs : List α} {n : Nat} {v : α} (h : n ≤ xs.length) : v ∈ xs.take n ↔ ∃ i, i < n ∧ at_ xs (i : Int) = v := by
  constructor
  · intro hv
    obtain ⟨i, hi, e⟩ := List.getElem_of_mem hv
    rw [List.length_take] at hi
    rw [List.getElem_take] at e
    exact ⟨i, by omega, by rw [at_nat (by omega)]; exact e⟩
  · rintro ⟨i, hi, e⟩
    rw [at_nat (by omega)] at e
    rw [← e]
    exact List.mem_take_iff_getElem.2 ⟨i, by omega, rfl⟩
theorem mem_at {α : Type} [Inhabited α] {xs : List α} {v : α} : v ∈ xs ↔ ∃ i, i < xs.length ∧ at_ xs (i : Int) = v := by
  have := mem_take_iff (xs := xs) (v := v) (Nat.le_refl _)
  rwa [List.take_length] at this
open Classical in
/-- The first place where P holds, or -1. -/
noncomputable def firstI (n : Nat) (P : Nat → Prop) : Int := if h : ∃ i, i < n ∧ P i then ((Classical.choose (least_of h) : Nat) : Int) else -1
theorem firstI_spec (n : Nat) (P : Nat → Prop) : (firstI n P = -1 ∧ ∀ i, i < n → ¬ P i) ∨ ∃ i, i < n ∧ P i ∧ (∀ j, j < i → ¬ P j) ∧ firstI n P = (i : Int) := by
  classical
  unfold firstI
  by_cases h : ∃ i, i < n ∧ P i
  · rw [dif_pos h]
    have hs := Classical.choose_spec (least_of h)
    exact .inr ⟨_, hs.1.1, hs.1.2, fun j hj hp => hs.2 j hj ⟨by have := hs.1.1; omega, hp⟩, rfl⟩
  · rw [dif_neg h]
    exact .inl ⟨rfl, fun i hi hp => h ⟨i, hi, hp⟩⟩
theorem firstI_lo (n : Nat) (P : Nat → Prop) : -1 ≤ firstI n P ∧ firstI n P < (n : Int) ∧ (0 ≤ firstI n P ↔ ∃ i, i < n ∧ P i) := by
  rcases firstI_spec n P with ⟨h, h2⟩ | ⟨i, h1, h2, _, h3⟩
  · rw [h]; exact ⟨by omega, by omega, fun g => by omega, fun ⟨i, hi, hp⟩ => absurd hp (h2 i hi)⟩
  · rw [h3]; exact ⟨by omega, by omega, fun _ => ⟨i, h1, h2⟩, fun _ => by omega⟩
theorem firstI_at {n : Nat} {P : Nat → Prop} (h : 0 ≤ firstI n P) : P (firstI n P).toNat := by
  rcases firstI_spec n P with ⟨h1, _⟩ | ⟨i, h1, h2, _, h3⟩
  · omega
  · rw [h3]; exact h2
theorem firstI_find {R : Type} (n : Nat) (P : Nat → Prop) (out : Int → R) : FindR n P (fun i => out (i : Int)) (out (-1)) (out (firstI n P)) := by
  rcases firstI_spec n P with ⟨h, h2⟩ | ⟨i, h1, h2, h4, h3⟩
  · exact .inl ⟨by rw [h], h2⟩
  · exact .inr ⟨i, h1, h2, h4, by rw [h3]⟩
theorem firstI_congr {n : Nat} {P Q : Nat → Prop} (h : ∀ i, i < n → (P i ↔ Q i)) : firstI n P = firstI n Q := by
  rcases firstI_spec n P with ⟨h1, h2⟩ | ⟨i, h1, h2, h4, h3⟩
  · rcases firstI_spec n Q with ⟨g1, g2⟩ | ⟨j, g1, g2, g4, g3⟩
    · rw [h1, g1]
    · exact absurd ((h j g1).2 g2) (h2 j g1)
  · rcases firstI_spec n Q with ⟨g1, g2⟩ | ⟨j, g1, g2, g4, g3⟩
    · exact absurd ((h i h1).1 h2) (g2 i h1)
    · rw [h3, g3]
      rcases Nat.lt_trichotomy i j with w | w | w
      · exact absurd ((h i h1).1 h2) (g4 i w)
      · rw [w]
      · exact absurd ((h j g1).2 g2) (h4 j w)
theorem firstI_eq {n : Nat} {P : Nat → Prop} {i : Nat} (h : i < n) (hp : P i) (hm : ∀ j, j < i → ¬ P j) : firstI n P = (i : Int) := by
  rcases firstI_spec n P with ⟨_, h2⟩ | ⟨j, h1, h2, h4, h3⟩
  · exact absurd hp (h2 i h)
  · rw [h3]
    rcases Nat.lt_trichotomy i j with w | w | w
    · exact absurd hp (h4 i w)
    · rw [w]
    · exact absurd h2 (hm j w)
theorem firstI_no {n : Nat} {P : Nat → Prop} (h : ∀ i, i < n → ¬ P i) : firstI n P = -1 := by
  rcases firstI_spec n P with ⟨h1, _⟩ | ⟨j, h1, h2, _, _⟩
  · exact h1
  · exact absurd h2 (h j h1)
/-- .. and what it gives hangs on where it stops. -/
theorem ev_scan2 {R : Type} (n : Nat) (P : Nat → Prop) (bad : Nat → R) (G : Nat → Nat → Option R) {r : R} (hr : ∀ i, i < n → ¬ P i → (∀ j, j < i → P j) → r = bad i)
    (hstep : ∀ i, i < n → (∀ j, j < i → P j) → (P i → Ev (fun k => G k (i + 1)) r) → (¬ P i → r = bad i) → Ev (fun k => G k i) r)
    (hend : (∀ i, i < n → P i) → Ev (fun k => G k n) r) : Ev (fun k => G k 0) r := by
  have key : ∀ d i, i + d = n → (∀ j, j < i → P j) → Ev (fun k => G k i) r := by
    intro d
    induction d with
    | zero => intro i hi hp; obtain rfl : i = n := by omega
              exact hend hp
    | succ d ih =>
      intro i hi hp
      refine hstep i (by omega) hp (fun h => ih (i + 1) (by omega) fun j hj => ?_) (fun h => hr i (by omega) h hp)
      rcases Nat.lt_or_ge j i with g | g
      · exact hp j g
      · obtain rfl : j = i := by omega
        exact h
  exact key n 0 (by omega) (fun j hj => absurd hj (by omega))
theorem eq_impl_between (a b c : Int) : impl_between.f a b c = some (decide (b ≤ a ∧ a ≤ c)) := by
  unfold impl_between.f
  by_cases h : a ≥ b
  · rw [if_pos h]; simp [show b ≤ a from h]
  · rw [if_neg h]; simp [show ¬ b ≤ a from h]
theorem eq_spec_l01In (a b c : Int) : spec_l01In.f a b c = some (decide (b ≤ a ∧ a ≤ c)) := by
  unfold spec_l01In.f
  by_cases h : b ≤ a
  · rw [if_pos h]; simp [h]
  · rw [if_neg h]; simp [h]
/-- A loop that counts down. -/
theorem evx_down {R σ : Type} (G : Nat → Nat → σ → Option R) (Inv : Nat → σ → Prop) (C : R → Prop)
    (hstep : ∀ i s, Inv (i + 1) s → (∀ s', Inv i s' → Evx (fun k => G k i s') C) → Evx (fun k => G k (i + 1) s) C)
    (hend : ∀ s, Inv 0 s → Evx (fun k => G k 0 s) C) : ∀ n s, Inv n s → Evx (fun k => G k n s) C
  | 0, s, h => hend s h
  | n + 1, s, h => hstep n s h fun s' h' => evx_down G Inv C hstep hend n s' h'
theorem band_bd (a : Int) (n : Nat) (hn : n < 9223372036854775808) : 0 ≤ bAnd a (n : Int) ∧ bAnd a (n : Int) ≤ n := by
  unfold bAnd
  rw [i64w]
  have h : (BitVec.ofInt 64 a &&& BitVec.ofInt 64 (n : Int)).toNat ≤ n := by
    rw [BitVec.toNat_and]
    refine Nat.le_trans Nat.and_le_right ?_
    have : BitVec.ofInt 64 (n : Int) = BitVec.ofNat 64 n := by simp [BitVec.ofInt_natCast]
    rw [this, BitVec.toNat_ofNat]
    exact Nat.mod_le _ _
  rw [wrap_id (by omega) (by omega)]
  omega
theorem u8_bd {y : Int} (h : (Lit.int .u8 y).wf = true) : 0 ≤ y ∧ y ≤ 255 := by
  simp only [Lit.wf, Bool.and_eq_true, decide_eq_true_eq] at h
  have h1 : IntKind.u8.min = 0 := by decide
  have h2 : IntKind.u8.max = 255 := by decide
  omega
def CodeP (code : List Int) : Prop := code.length ≤ 1048576 ∧ ∀ y, y ∈ code → 0 ≤ y ∧ y ≤ 255
def CurP (c : S72) : Prop := CodeP c.f0 ∧ 0 ≤ c.f1 ∧ c.f1 ≤ (c.f0.length : Int)
theorem byte_ok (c : S72) (h : CurP c) : ∃ r, spec_l01Byte.f c = some r ∧ CurP r.2 ∧ 0 ≤ r.1 ∧ r.1 ≤ 255 := by
  obtain ⟨⟨h1, h4⟩, h2, h3⟩ := h
  unfold spec_l01Byte.f
  by_cases g : c.f1 < (c.f0.length : Int)
  · rw [if_pos g, if_pos h2]
    refine ⟨_, rfl, ⟨⟨h1, h4⟩, ?_, ?_⟩, (band_bd _ 255 (by omega)).1, (band_bd _ 255 (by omega)).2⟩
    · show 0 ≤ wrap64 (c.f1 + 1); rw [wrap_id (by omega) (by omega)]; omega
    · show wrap64 (c.f1 + 1) ≤ _; rw [wrap_id (by omega) (by omega)]; show _ ≤ (c.f0.length : Int); omega
  · rw [if_neg g]
    exact ⟨_, rfl, ⟨⟨h1, h4⟩, h2, h3⟩, (band_bd _ 255 (by omega)).1, (band_bd _ 255 (by omega)).2⟩
theorem tmod_bd {a n : Int} (h0 : 0 ≤ a) (hn : 0 < n) : 0 ≤ a.tmod n ∧ a.tmod n < n := by
  rw [tmod_of n h0]
  exact ⟨Int.emod_nonneg _ (by omega), Int.emod_lt_of_pos _ hn⟩
theorem below_ok (c : S72) (n : Int) (h : CurP c) : ∃ r, spec_l01Below.f c n = some r ∧ CurP r.2 ∧ 0 ≤ r.1 ∧ (0 < n → r.1 < n) ∧ (n ≤ 0 → r.1 = 0) := by
  unfold spec_l01Below.f
  by_cases h0 : n ≤ 0
  · rw [if_pos h0]
    exact ⟨_, rfl, h, Int.le_refl _, fun g => by omega, fun _ => rfl⟩
  · rw [if_neg h0]
    by_cases h1 : n ≤ 256
    · rw [if_pos h1]
      obtain ⟨r, e, a1, a2, a3⟩ := byte_ok c h
      rw [e, Option.bind_some, if_pos (by omega)]
      have := tmod_bd a2 (show 0 < n by omega)
      exact ⟨_, rfl, a1, this.1, fun _ => this.2, fun g => by omega⟩
    · rw [if_neg h1]
      obtain ⟨r, e, a1, a2, a3⟩ := byte_ok c h
      obtain ⟨r2, e2, b1, b2, b3⟩ := byte_ok r.2 a1
      obtain ⟨r3, e3, c1, c2, c3⟩ := byte_ok r2.2 b1
      rw [e, Option.bind_some, e2, Option.bind_some, e3, Option.bind_some, if_pos (by omega)]
      rw [wrap_id (x := r.1 * 65536) (by omega) (by omega), wrap_id (x := r2.1 * 256) (by omega) (by omega), wrap_id (x := r.1 * 65536 + r2.1 * 256) (by omega) (by omega), wrap_id (x := r.1 * 65536 + r2.1 * 256 + r3.1) (by omega) (by omega)]
      have := tmod_bd (a := r.1 * 65536 + r2.1 * 256 + r3.1) (by omega) (show 0 < n by omega)
      exact ⟨_, rfl, c1, this.1, fun _ => this.2, fun g => by omega⟩
theorem evx_l01New (code : List Int) (h : CodeP code) : Evx (fun k => spec_l01New.f k code) CurP := by
  unfold spec_l01New.f
  have fin : ∀ x : Int, CurP ⟨code, 0, x⟩ := fun x => ⟨h, Int.le_refl _, by show (0 : Int) ≤ (code.length : Int); omega⟩
  have hl := h.1
  refine evx_loop (fun k i (x : Int) => spec_l01New.l0 k code x (i : Int)) (min code.length 4000) (fun _ _ => True) _ ?_ ?_ _ trivial
  · intro i s hi _ hn
    refine Evx.step (fun k => by simp only [spec_l01New.l0]; rfl) ?_
    rw [wrap_succ hi (by omega)]
    exact Evx.pos (by omega) (Evx.pos (by omega) (Evx.pos (by omega) (hn _ trivial)))
  · intro s _
    refine Evx.step (fun k => by simp only [spec_l01New.l0]; rfl) ?_
    rcases Nat.lt_or_ge code.length 4001 with g | g
    · by_cases e : code.length ≤ 4000
      · refine Evx.ite (fun q => ?_) (fun _ => Evx.val (fin s))
        refine Evx.ite (fun q2 => by omega) (fun _ => Evx.val (fin s))
      · omega
    · exact Evx.pos (by omega) (Evx.neg (by omega) (Evx.val (fin s)))
theorem size_ok (code : List Int) (h : CodeP code) (m : Int) (hm : 2 ≤ m) (hm2 : m ≤ 1000) : ∃ r, spec_l01Size.f code m = some r ∧ 2 ≤ r ∧ r ≤ m := by
  have hl := h.1
  unfold spec_l01Size.f
  rw [tdiv_of 16 (by omega), wrap_id (x := (code.length : Int) / 16) (by omega) (by omega), wrap_id (x := 2 + (code.length : Int) / 16) (by omega) (by omega)]
  by_cases g : 2 + (code.length : Int) / 16 > m
  · rw [if_pos g]; exact ⟨_, rfl, hm, Int.le_refl _⟩
  · rw [if_neg g]; exact ⟨_, rfl, by omega, by omega⟩
theorem pick_ok (c : S72) (xs : List Int) (h : CurP c) (hx : 1 ≤ xs.length) : ∃ r, spec_l01PickInt.f c xs = some r ∧ CurP r.2 ∧ r.1 ∈ xs := by
  unfold spec_l01PickInt.f
  obtain ⟨r, e, a1, a2, a3, _⟩ := below_ok c (xs.length : Int) h
  have := a3 (by omega)
  rw [e, Option.bind_some, if_pos a2, if_pos this]
  exact ⟨_, rfl, a1, at_mem a2 this⟩
theorem code_ok {code : List Int} (h : code.length ≤ maxLen ∧ ∀ y ∈ code, (Lit.int .u8 y).wf = true) (hl : ¬ (code.length : Int) > 1048576) : CodeP code := ⟨by omega, fun y hy => u8_bd (h.2 y hy)⟩
theorem eq_impl_isMinute (a : Int) : impl_isMinute.f a = some (decide (0 ≤ a ∧ a ≤ 100000)) := by
  unfold impl_isMinute.f
  rw [eq_impl_between]
  rfl
def LinkP (plan : List Int) (x : S52) : Prop := 0 ≤ x.f0 ∧ x.f0 < x.f1 ∧ x.f1 < plan.length ∧ 0 ≤ x.f2 ∧ x.f2 ≤ 1000 ∧ 0 ≤ x.f3 ∧ x.f3 ≤ 1 ∧ at_ plan x.f0 + x.f2 ≤ at_ plan x.f1
def WorkP (w : S29) : Prop :=
  ((w.f0.length : Int) ≤ 60 ∧ (w.f1.length : Int) ≤ 150 ∧ 0 ≤ w.f2 ∧ w.f2 ≤ 60) ∧ (∀ i, i < w.f0.length → 0 ≤ at_ w.f0 (i : Int) ∧ at_ w.f0 (i : Int) ≤ 100000) ∧ ∀ i, i < w.f1.length → LinkP w.f0 (at_ w.f1 (i : Int))
theorem at_bd (plan : List Int) (h : ∀ i, i < plan.length → 0 ≤ at_ plan (i : Int) ∧ at_ plan (i : Int) ≤ 100000) (a : Int) (h0 : 0 ≤ a) (h1 : a < plan.length) : 0 ≤ at_ plan a ∧ at_ plan a ≤ 100000 := by
  have := h a.toNat (by omega)
  rw [show ((a.toNat : Nat) : Int) = a by omega] at this
  exact this
theorem ev_impl_WorkOk (w : S29) (b : Bool) (hb : b = true ↔ WorkP w) : Ev (fun k => impl_WorkOk.f k w) b := by
  classical
  unfold impl_WorkOk.f
  have bad : ¬ ((w.f0.length : Int) ≤ 60 ∧ (w.f1.length : Int) ≤ 150 ∧ 0 ≤ w.f2 ∧ w.f2 ≤ 60) → Ev (fun k => some false) b := fun h => ev_val (bool_not hb fun e => h e.1).symm
  refine Ev.ite (fun h => bad (by omega)) (fun h1 => ?_)
  refine Ev.ite (fun h => bad (by omega)) (fun h2 => ?_)
  simp only [eq_impl_between, Option.bind_some, decide_eq_true_eq]
  refine Ev.ite (fun h3 => ?_) (fun h3 => bad (by omega))
  have hb' : b = true ↔ (∀ i, i < w.f0.length → 0 ≤ at_ w.f0 (i : Int) ∧ at_ w.f0 (i : Int) ≤ 100000) ∧ ∀ i, i < w.f1.length → LinkP w.f0 (at_ w.f1 (i : Int)) :=
    hb.trans ⟨fun h => h.2, fun h => ⟨⟨by omega, by omega, h3.1, h3.2⟩, h⟩⟩
  refine ev_allI w.f0.length (fun i => 0 ≤ at_ w.f0 (i : Int) ∧ at_ w.f0 (i : Int) ≤ 100000) (fun k i => impl_WorkOk.l0 k w (i : Int)) _ hb' ?_ ?_ ?_
  · intro i hi hp hn
    refine Ev.step (fun k => by simp only [impl_WorkOk.l0]; rfl) ?_
    simp only [if_pos (show (i : Int) < (w.f0.length : Int) by omega), if_pos (show 0 ≤ (i : Int) by omega), eq_impl_isMinute, Option.bind_some, decide_eq_true hp, if_true]
    rw [wrap_succ hi (by omega)]
    exact hn
  · intro i hi hp
    refine Ev.step (fun k => by simp only [impl_WorkOk.l0]; rfl) ?_
    simp only [if_pos (show (i : Int) < (w.f0.length : Int) by omega), if_pos (show 0 ≤ (i : Int) by omega), eq_impl_isMinute, Option.bind_some, decide_eq_false hp, Bool.false_eq_true, if_false]
    exact ev_val rfl
  · intro hplan hq
    refine Ev.step (fun k => by simp only [impl_WorkOk.l0]; rfl) ?_
    simp only [if_neg (show ¬ (w.f0.length : Int) < (w.f0.length : Int) by omega)]
    refine ev_allI w.f1.length (fun i => LinkP w.f0 (at_ w.f1 (i : Int))) (fun k i => impl_WorkOk.l1 k w (i : Int)) True (hq.trans (by simp)) ?_ ?_ ?_
    · intro i hi hp hn
      refine Ev.step (fun k => by simp only [impl_WorkOk.l1]; rfl) ?_
      unfold LinkP at hp
      have hx0 := at_bd w.f0 hplan (at_ w.f1 (i : Int)).f0 (by omega) (by omega)
      have hx1 := at_bd w.f0 hplan (at_ w.f1 (i : Int)).f1 (by omega) (by omega)
      simp only [eq_impl_between, Option.bind_some, decide_eq_true_eq]
      rw [wrap_id (x := at_ w.f0 (at_ w.f1 (i : Int)).f1 - at_ w.f0 (at_ w.f1 (i : Int)).f0) (by omega) (by omega), wrap_succ hi (by omega)]
      repeat' first
        | exact hn
        | refine Ev.ite (fun _ => ?_) (fun _ => ?_)
        | (exfalso; omega)
    · intro i hi hp
      refine Ev.step (fun k => by simp only [impl_WorkOk.l1]; rfl) ?_
      unfold LinkP at hp
      simp only [eq_impl_between, Option.bind_some, decide_eq_true_eq]
      refine Ev.ite (fun _ => ?_) (fun _ => (by exfalso; omega))
      refine Ev.ite (fun _ => ?_) (fun _ => (by exfalso; omega))
      repeat' first
        | exact ev_val rfl
        | refine Ev.ite (fun _ => ?_) (fun _ => ?_)
        | (exfalso; omega)
      all_goals
        have hx0 := at_bd w.f0 hplan (at_ w.f1 (i : Int)).f0 (by omega) (by omega)
        have hx1 := at_bd w.f0 hplan (at_ w.f1 (i : Int)).f1 (by omega) (by omega)
        rename_i hw
        rw [wrap_id (x := at_ w.f0 (at_ w.f1 (i : Int)).f1 - at_ w.f0 (at_ w.f1 (i : Int)).f0) (by omega) (by omega)] at hw
        exfalso; omega
    · intro _ hq2
      refine Ev.step (fun k => by simp only [impl_WorkOk.l1]; rfl) ?_
      simp only [if_neg (show ¬ (w.f1.length : Int) < (w.f1.length : Int) by omega)]
      exact ev_val (hq2.2 trivial).symm
theorem ev_spec_WorkOk (w : S29) (b : Bool) (hb : b = true ↔ WorkP w) : Ev (fun k => spec_WorkOk.f k w) b := by
  classical
  unfold spec_WorkOk.f
  have bad : ¬ ((w.f0.length : Int) ≤ 60 ∧ (w.f1.length : Int) ≤ 150 ∧ 0 ≤ w.f2 ∧ w.f2 ≤ 60) → Ev (fun k => some false) b := fun h => ev_val (bool_not hb fun e => h e.1).symm
  refine Ev.ite (fun h => bad (by omega)) (fun h1 => ?_)
  refine Ev.ite (fun h => bad (by omega)) (fun h2 => ?_)
  simp only [eq_spec_l01In, Option.bind_some, decide_eq_true_eq]
  refine Ev.ite (fun h3 => ?_) (fun h3 => bad (by omega))
  have hb' : b = true ↔ (∀ i, i < w.f0.length → 0 ≤ at_ w.f0 (i : Int) ∧ at_ w.f0 (i : Int) ≤ 100000) ∧ ∀ i, i < w.f1.length → LinkP w.f0 (at_ w.f1 (i : Int)) :=
    hb.trans ⟨fun h => h.2, fun h => ⟨⟨by omega, by omega, h3.1, h3.2⟩, h⟩⟩
  refine ev_allI w.f0.length (fun i => 0 ≤ at_ w.f0 (i : Int) ∧ at_ w.f0 (i : Int) ≤ 100000) (fun k i => spec_WorkOk.l0 k w (i : Int)) _ hb' ?_ ?_ ?_
  · intro i hi hp hn
    refine Ev.step (fun k => by simp only [spec_WorkOk.l0]; rfl) ?_
    simp only [if_pos (show (i : Int) < (w.f0.length : Int) by omega), if_pos (show 0 ≤ (i : Int) by omega), eq_spec_l01In, Option.bind_some, decide_eq_true hp, if_true]
    rw [wrap_succ hi (by omega)]
    exact hn
  · intro i hi hp
    refine Ev.step (fun k => by simp only [spec_WorkOk.l0]; rfl) ?_
    simp only [if_pos (show (i : Int) < (w.f0.length : Int) by omega), if_pos (show 0 ≤ (i : Int) by omega), eq_spec_l01In, Option.bind_some, decide_eq_false hp, Bool.false_eq_true, if_false]
    exact ev_val rfl
  · intro hplan hq
    refine Ev.step (fun k => by simp only [spec_WorkOk.l0]; rfl) ?_
    simp only [if_neg (show ¬ (w.f0.length : Int) < (w.f0.length : Int) by omega)]
    refine ev_allI w.f1.length (fun i => LinkP w.f0 (at_ w.f1 (i : Int))) (fun k i => spec_WorkOk.l1 k w (i : Int)) True (hq.trans (by simp)) ?_ ?_ ?_
    · intro i hi hp hn
      refine Ev.step (fun k => by simp only [spec_WorkOk.l1]; rfl) ?_
      unfold LinkP at hp
      have hx0 := at_bd w.f0 hplan (at_ w.f1 (i : Int)).f0 (by omega) (by omega)
      have hx1 := at_bd w.f0 hplan (at_ w.f1 (i : Int)).f1 (by omega) (by omega)
      simp only [eq_spec_l01In, Option.bind_some, decide_eq_true_eq]
      rw [wrap_id (x := (w.f0.length : Int) - 1) (by omega) (by omega), wrap_id (x := (at_ w.f1 (i : Int)).f1 - 1) (by omega) (by omega), wrap_id (x := at_ w.f0 (at_ w.f1 (i : Int)).f0 + (at_ w.f1 (i : Int)).f2) (by omega) (by omega), wrap_succ hi (by omega)]
      repeat' first
        | exact hn
        | refine Ev.ite (fun _ => ?_) (fun _ => ?_)
        | (exfalso; omega)
    · intro i hi hp
      refine Ev.step (fun k => by simp only [spec_WorkOk.l1]; rfl) ?_
      unfold LinkP at hp
      simp only [eq_spec_l01In, Option.bind_some, decide_eq_true_eq]
      rw [wrap_id (x := (w.f0.length : Int) - 1) (by omega) (by omega)]
      refine Ev.ite (fun _ => ?_) (fun _ => (by exfalso; omega))
      refine Ev.ite (fun _ => ?_) (fun _ => (by exfalso; omega))
      refine Ev.ite (fun g1 => ?_) (fun _ => ev_val rfl)
      rw [wrap_id (x := (at_ w.f1 (i : Int)).f1 - 1) (by omega) (by omega)]
      refine Ev.ite (fun g2 => ?_) (fun _ => ev_val rfl)
      have hx0 := at_bd w.f0 hplan (at_ w.f1 (i : Int)).f0 (by omega) (by omega)
      have hx1 := at_bd w.f0 hplan (at_ w.f1 (i : Int)).f1 (by omega) (by omega)
      refine Ev.ite (fun g3 => ?_) (fun _ => ev_val rfl)
      rw [wrap_id (x := at_ w.f0 (at_ w.f1 (i : Int)).f0 + (at_ w.f1 (i : Int)).f2) (by omega) (by omega)]
      repeat' first
        | exact ev_val rfl
        | refine Ev.ite (fun _ => ?_) (fun _ => ?_)
        | (exfalso; omega)
    · intro _ hq2
      refine Ev.step (fun k => by simp only [spec_WorkOk.l1]; rfl) ?_
      simp only [if_neg (show ¬ (w.f1.length : Int) < (w.f1.length : Int) by omega)]
      exact ev_val (hq2.2 trivial).symm
def LateP (w : S29) (late : List Int) : Prop := late.length = w.f0.length ∧ ∀ i, i < late.length → 0 ≤ at_ late (i : Int) ∧ at_ late (i : Int) ≤ 10000
theorem ev_spec_l11Late (w : S29) (late : List Int) (hl : late.length ≤ 4611686018427387904) (b : Bool) (hb : b = true ↔ LateP w late) : Ev (fun k => spec_l11Late.f k w late) b := by
  classical
  unfold spec_l11Late.f
  refine Ev.ite (fun h => ?_) (fun h => ev_val (bool_not hb fun e => h (by rw [e.1])).symm)
  refine ev_allI late.length (fun i => 0 ≤ at_ late (i : Int) ∧ at_ late (i : Int) ≤ 10000) (fun k i => spec_l11Late.l0 k late (i : Int)) True (hb.trans ⟨fun e => ⟨e.2, trivial⟩, fun e => ⟨by omega, e.1⟩⟩) ?_ ?_ ?_
  · intro i hi hp hn
    refine Ev.step (fun k => by simp only [spec_l11Late.l0]; rfl) ?_
    simp only [if_pos (show (i : Int) < (late.length : Int) by omega), if_pos (show 0 ≤ (i : Int) by omega), eq_spec_l01In, Option.bind_some, decide_eq_true hp, if_true]
    rw [wrap_succ hi (by omega)]
    exact hn
  · intro i hi hp
    refine Ev.step (fun k => by simp only [spec_l11Late.l0]; rfl) ?_
    simp only [if_pos (show (i : Int) < (late.length : Int) by omega), if_pos (show 0 ≤ (i : Int) by omega), eq_spec_l01In, Option.bind_some, decide_eq_false hp, Bool.false_eq_true, if_false]
    exact ev_val rfl
  · intro _ hq2
    refine Ev.step (fun k => by simp only [spec_l11Late.l0]; rfl) ?_
    simp only [if_neg (show ¬ (late.length : Int) < (late.length : Int) by omega)]
    exact ev_val (hq2.2 trivial).symm
theorem ev_impl_playable (w : S29) (late : List Int) (hl : late.length ≤ 4611686018427387904) (b : Bool) (hb : b = true ↔ WorkP w ∧ LateP w late) : Ev (fun k => impl_playable.f k w late) b := by
  classical
  unfold impl_playable.f
  refine Ev.bind (ev_impl_WorkOk w (decide (WorkP w)) decide_eq_true_iff) ?_
  refine Ev.ite (fun h => ?_) (fun h => ev_val (bool_not hb fun e => h (decide_eq_true e.1)).symm)
  have hw := of_decide_eq_true h
  refine Ev.ite (fun h => ?_) (fun h => ev_val (bool_not hb fun e => h (by rw [e.2.1])).symm)
  refine ev_allI late.length (fun i => 0 ≤ at_ late (i : Int) ∧ at_ late (i : Int) ≤ 10000) (fun k i => impl_playable.l0 k late (i : Int)) True (hb.trans ⟨fun e => ⟨e.2.2, trivial⟩, fun e => ⟨hw, by omega, e.1⟩⟩) ?_ ?_ ?_
  · intro i hi hp hn
    refine Ev.step (fun k => by simp only [impl_playable.l0]; rfl) ?_
    simp only [if_pos (show (i : Int) < (late.length : Int) by omega), if_pos (show 0 ≤ (i : Int) by omega), eq_impl_between, Option.bind_some, decide_eq_true hp, if_true]
    rw [wrap_succ hi (by omega)]
    exact hn
  · intro i hi hp
    refine Ev.step (fun k => by simp only [impl_playable.l0]; rfl) ?_
    simp only [if_pos (show (i : Int) < (late.length : Int) by omega), if_pos (show 0 ≤ (i : Int) by omega), eq_impl_between, Option.bind_some, decide_eq_false hp, Bool.false_eq_true, if_false]
    exact ev_val rfl
  · intro _ hq2
    refine Ev.step (fun k => by simp only [impl_playable.l0]; rfl) ?_
    simp only [if_neg (show ¬ (late.length : Int) < (late.length : Int) by omega)]
    exact ev_val (hq2.2 trivial).symm
/-- A list of m marks, by place. -/
def kl (m : Nat) (f : Nat → Bool) : List Bool := (List.range m).map f
theorem kl_length (m : Nat) (f : Nat → Bool) : (kl m f).length = m := by simp [kl]
theorem kl_congr {m : Nat} {f g : Nat → Bool} (h : ∀ j, j < m → f j = g j) : kl m f = kl m g :=
  List.map_congr_left fun j hj => h j (List.mem_range.1 hj)
theorem kl_set (m : Nat) (f : Nat → Bool) (i : Nat) (b : Bool) : (kl m f).set i b = kl m (fun j => if j = i then b else f j) := by
  refine List.ext_getElem (by simp [kl]) fun j h1 h2 => ?_
  simp only [kl, List.getElem_set, List.getElem_map, List.getElem_range]
  by_cases e : i = j
  · rw [if_pos e, if_pos e.symm]
  · rw [if_neg e, if_neg (fun g => e g.symm)]
theorem kl_const (m : Nat) (b : Bool) : List.replicate m b = kl m (fun _ => b) := by simp [kl, List.map_const']
theorem rdOf_kl (m : Nat) (f : Nat → Bool) (i : Nat) (h : i < m) : at_ (kl m f) (i : Int) = f i := by
  have h' : i < (kl m f).length := by rw [kl_length]; exact h
  have e : at_ (kl m f) (i : Int) = (kl m f)[i] := getD_nat _ h'
  rw [e]
  simp [kl]
def lk (links : List S52) (j : Nat) : S52 := at_ links (j : Int)
def readyT (ts : List Int) (x : S52) : Int := at_ ts x.f0 + x.f2
/-- An event's minute by what must be waited for, of the first i links. -/
def baseF (plan : List Int) (links : List S52) (ts : List Int) (e : Nat) : Nat → Int
  | 0 => at_ plan (e : Int)
  | i + 1 => if (lk links i).f1 = (e : Int) ∧ (lk links i).f3 = 0 then mx (baseF plan links ts e i) (readyT ts (lk links i)) else baseF plan links ts e i
/-- .. and by what is waited for. -/
def timeF (links : List S52) (ts : List Int) (wait base : Int) (e : Nat) : Nat → Int
  | 0 => base
  | i + 1 => if (lk links i).f1 = (e : Int) ∧ (lk links i).f3 = 1 ∧ readyT ts (lk links i) ≤ base + wait then mx (timeF links ts wait base e i) (readyT ts (lk links i)) else timeF links ts wait base e i
def timesTo (plan : List Int) (links : List S52) (wait : Int) (late : List Int) : Nat → List Int
  | 0 => []
  | e + 1 => timesTo plan links wait late e ++ [timeF links (timesTo plan links wait late e) wait (baseF plan links (timesTo plan links wait late e) e links.length) e links.length + at_ late (e : Int)]
theorem timesTo_succ (plan : List Int) (links : List S52) (wait : Int) (late : List Int) (e : Nat) : timesTo plan links wait late (e + 1) = timesTo plan links wait late e ++ [timeF links (timesTo plan links wait late e) wait (baseF plan links (timesTo plan links wait late e) e links.length) e links.length + at_ late (e : Int)] := rfl
theorem timesTo_length (plan : List Int) (links : List S52) (wait : Int) (late : List Int) : ∀ e, (timesTo plan links wait late e).length = e
  | 0 => rfl
  | e + 1 => by rw [timesTo, List.length_append, timesTo_length plan links wait late e]; rfl
theorem rd_app_left (a b : List Int) (i : Int) (h0 : 0 ≤ i) (h : i < a.length) : at_ (a ++ b) i = at_ a i := by
  unfold at_
  rw [List.getD_eq_getElem?_getD, List.getD_eq_getElem?_getD, List.getElem?_append_left (by omega)]
theorem rd_app_right (a b : List Int) (i : Int) (h : (a.length : Int) ≤ i) : at_ (a ++ b) i = at_ b (i - a.length) := by
  unfold at_
  rw [List.getD_eq_getElem?_getD, List.getD_eq_getElem?_getD, List.getElem?_append_right (by omega)]
  congr 2
  omega
/-- A connection is kept: by the times at its end. -/
def keptQ (plan : List Int) (links : List S52) (wait : Int) (late : List Int) (j : Nat) : Prop :=
  readyT (timesTo plan links wait late (lk links j).f1.toNat) (lk links j) ≤ baseF plan links (timesTo plan links wait late (lk links j).f1.toNat) (lk links j).f1.toNat links.length + wait
/-- The times, and which links are kept. -/
noncomputable def playOf (plan : List Int) (links : List S52) (wait : Int) (late : List Int) : List Int × List Bool :=
  open Classical in (timesTo plan links wait late plan.length, kl links.length (fun j => decide ((lk links j).f3 = 0 ∨ keptQ plan links wait late j)))
section
variable {plan late : List Int} {links : List S52} {wait : Int}
theorem lk_ok (hw : WorkP ⟨plan, links, wait⟩) (j : Nat) (h : j < links.length) : LinkP plan (lk links j) := hw.2.2 j h
theorem mx_bd {a b lo hi : Int} (h1 : lo ≤ a) (h2 : a ≤ hi) (h4 : b ≤ hi) : lo ≤ mx a b ∧ mx a b ≤ hi := by
  unfold mx
  split <;> omega
theorem baseF_bd (hw : WorkP ⟨plan, links, wait⟩) (ts : List Int) (e : Nat) (B : Int) (he : e < plan.length) (hB : 100000 ≤ B) (ht : ∀ i : Int, 0 ≤ i → i < e → at_ ts i + 1000 ≤ B) : ∀ i, i ≤ links.length → 0 ≤ baseF plan links ts e i ∧ baseF plan links ts e i ≤ B
  | 0, _ => by
    have : 0 ≤ at_ plan (e : Int) ∧ at_ plan (e : Int) ≤ 100000 := hw.2.1 e he
    unfold baseF
    omega
  | i + 1, hi => by
    have ih := baseF_bd hw ts e B he hB ht i (by omega)
    have hp := lk_ok hw i (by omega)
    unfold LinkP at hp
    unfold baseF
    split
    · have := ht (lk links i).f0 (by omega) (by omega)
      exact mx_bd ih.1 ih.2 (by unfold readyT; omega)
    · exact ih
theorem timeF_bd (hw : WorkP ⟨plan, links, wait⟩) (ts : List Int) (base : Int) (e : Nat) (B : Int) (hb0 : 0 ≤ base) (hb : base ≤ B) (ht : ∀ i : Int, 0 ≤ i → i < e → at_ ts i + 1000 ≤ B) : ∀ i, i ≤ links.length → 0 ≤ timeF links ts wait base e i ∧ timeF links ts wait base e i ≤ B
  | 0, _ => by unfold timeF; omega
  | i + 1, hi => by
    have ih := timeF_bd hw ts base e B hb0 hb ht i (by omega)
    have hp := lk_ok hw i (by omega)
    unfold LinkP at hp
    unfold timeF
    split
    · have := ht (lk links i).f0 (by omega) (by omega)
      exact mx_bd ih.1 ih.2 (by unfold readyT; omega)
    · exact ih
theorem timesTo_bd (hw : WorkP ⟨plan, links, wait⟩) (hl : LateP ⟨plan, links, wait⟩ late) : ∀ e, e ≤ plan.length → ∀ i : Int, 0 ≤ i → i < e → 0 ≤ at_ (timesTo plan links wait late e) i ∧ at_ (timesTo plan links wait late e) i ≤ 100000 + 11000 * (e : Int)
  | 0, _ => fun i h0 h1 => by omega
  | e + 1, he => fun i h0 h1 => by
    have ih := timesTo_bd hw hl e (by omega)
    have hlen := timesTo_length plan links wait late e
    unfold timesTo
    by_cases hi : i < e
    · rw [rd_app_left _ _ i h0 (by omega)]
      have := ih i h0 hi
      omega
    · rw [rd_app_right _ _ i (by omega)]
      have e1 : i - ((timesTo plan links wait late e).length : Int) = 0 := by omega
      rw [e1]
      have ht : ∀ i : Int, 0 ≤ i → i < e → at_ (timesTo plan links wait late e) i + 1000 ≤ 101000 + 11000 * (e : Int) := fun i a b => by have := ih i a b; omega
      have hb := baseF_bd hw (timesTo plan links wait late e) e (101000 + 11000 * (e : Int)) (by omega) (by omega) ht links.length (Nat.le_refl _)
      have hT := timeF_bd hw (timesTo plan links wait late e) _ e (101000 + 11000 * (e : Int)) hb.1 hb.2 ht links.length (Nat.le_refl _)
      have hle : late.length = plan.length := hl.1
      have hlt := hl.2 e (by omega)
      show 0 ≤ timeF links _ wait _ e links.length + at_ late (e : Int) ∧ _
      have : at_ [timeF links (timesTo plan links wait late e) wait (baseF plan links (timesTo plan links wait late e) e links.length) e links.length + at_ late (e : Int)] 0 = timeF links (timesTo plan links wait late e) wait (baseF plan links (timesTo plan links wait late e) e links.length) e links.length + at_ late (e : Int) := rfl
      rw [this]
      omega
end
section
open Classical
variable {plan late : List Int} {links : List S52} {wait : Int}
/-- Which links are told as kept when the events below e are played. -/
noncomputable def keptE (plan : List Int) (links : List S52) (wait : Int) (late : List Int) (e j : Nat) : Bool := decide ((lk links j).f1 < (e : Int) ∧ ((lk links j).f3 = 0 ∨ keptQ plan links wait late j))
theorem ev_impl_work (hw : WorkP ⟨plan, links, wait⟩) (hl : LateP ⟨plan, links, wait⟩ late) : Ev (fun k => impl_work.f k ⟨plan, links, wait⟩ late) (playOf plan links wait late) := by
  obtain ⟨⟨w1, w2, w3, w4⟩, w5, w6⟩ := hw
  dsimp only at w1 w2 w3 w4 w5 w6
  have hw : WorkP ⟨plan, links, wait⟩ := ⟨⟨w1, w2, w3, w4⟩, w5, w6⟩
  unfold impl_work.f
  simp only [if_pos (show 0 ≤ (plan.length : Int) by omega), Int.toNat_natCast, if_pos (show (plan.length : Int) * 8 ≤ 281474976710656 by omega), if_pos (show 0 ≤ (links.length : Int) by omega), if_pos (show (links.length : Int) * 1 ≤ 281474976710656 by omega)]
  have key := ev_fold (fun k e => impl_work.l0 k ⟨plan, links, wait⟩ late (timesTo plan links wait late e ++ List.replicate (plan.length - e) 0) (kl links.length (keptE plan links wait late e)) (e : Int)) plan.length (r := playOf plan links wait late) ?_ ?_
  · have e0 : kl links.length (keptE plan links wait late 0) = List.replicate links.length false := by
      rw [kl_const]
      refine kl_congr fun j hj => ?_
      have := lk_ok hw j hj
      unfold LinkP at this
      exact decide_eq_false (fun g => by omega)
    rw [← e0]
    simpa [timesTo] using key
  · intro e he hn
    refine Ev.step (fun k => by simp only [impl_work.l0]; rfl) ?_
    simp only [if_pos (show (e : Int) < (plan.length : Int) by omega), if_pos (show 0 ≤ (e : Int) by omega)]
    have hbd := timesTo_bd hw hl e (by omega)
    have hlen := timesTo_length plan links wait late e
    have ht : ∀ i : Int, 0 ≤ i → i < e → at_ (timesTo plan links wait late e) i + 1000 ≤ 1000000 := fun i a b => by have := hbd i a b; omega
    have hb := baseF_bd hw (timesTo plan links wait late e) e 1000000 he (by omega) ht
    obtain ⟨T, eT⟩ : ∃ T, T = timesTo plan links wait late e ++ List.replicate (plan.length - e) 0 := ⟨_, rfl⟩
    have hTl : T.length = plan.length := by rw [eT, List.length_append, hlen, List.length_replicate]; omega
    have hTr : ∀ i : Int, 0 ≤ i → i < e → at_ T i = at_ (timesTo plan links wait late e) i := fun i a b => by rw [eT]; exact rd_app_left _ _ i a (by omega)
    rw [← eT]
    -- the links that must be kept
    have k1 := ev_fold (fun k i => impl_work.l1 k ⟨plan, links, wait⟩ late T (e : Int) (kl links.length (fun j => keptE plan links wait late e j || decide (j < i ∧ (lk links j).f1 = (e : Int) ∧ (lk links j).f3 = 0))) (baseF plan links (timesTo plan links wait late e) e i) (i : Int)) links.length (r := playOf plan links wait late) ?_ ?_
    · simpa [baseF] using k1
    · intro i hi hn1
      refine Ev.step (fun k => by simp only [impl_work.l1]; rfl) ?_
      simp only [if_pos (show (i : Int) < (links.length : Int) by omega), if_pos (show 0 ≤ (i : Int) by omega), kl_length]
      rw [wrap_succ hi (by omega)]
      have hp := lk_ok hw i hi
      unfold LinkP at hp
      change Ev (fun k => if (lk links i).f1 = (e : Int) then _ else _) _
      by_cases g1 : (lk links i).f1 = (e : Int)
      · by_cases g2 : (lk links i).f3 = 0
        · refine Ev.ite (fun _ => ?_) (fun g => absurd g1 g)
          refine Ev.ite (fun _ => ?_) (fun g => absurd g2 g)
          refine Ev.ite (fun _ => ?_) (fun g => absurd hp.1 g)
          refine Ev.ite (fun _ => ?_) (fun g => by exfalso; exact g (show (lk links i).f0 < (T.length : Int) by omega))
          have hr := hbd (lk links i).f0 hp.1 (by omega)
          have er : at_ T (at_ links (i : Int)).f0 = at_ (timesTo plan links wait late e) (lk links i).f0 := hTr _ hp.1 (by show (lk links i).f0 < (e : Int); omega)
          rw [er]
          have ew : wrap64 (at_ (timesTo plan links wait late e) (lk links i).f0 + (at_ links (i : Int)).f2) = readyT (timesTo plan links wait late e) (lk links i) := wrap_id (by show _ ≤ _ + (lk links i).f2; omega) (by show _ + (lk links i).f2 < _; omega)
          rw [ew, Int.toNat_natCast, kl_set]
          unfold baseF at hn1
          rw [if_pos ⟨g1, g2⟩] at hn1
          have ek : kl links.length (fun j => if j = i then true else (keptE plan links wait late e j || decide (j < i ∧ (lk links j).f1 = (e : Int) ∧ (lk links j).f3 = 0))) = kl links.length (fun j => keptE plan links wait late e j || decide (j < i + 1 ∧ (lk links j).f1 = (e : Int) ∧ (lk links j).f3 = 0)) := by
            refine kl_congr fun j _ => ?_
            by_cases ej : j = i
            · subst ej
              rw [if_pos rfl, decide_eq_true (show j < j + 1 ∧ (lk links j).f1 = (e : Int) ∧ (lk links j).f3 = 0 from ⟨by omega, g1, g2⟩), Bool.or_true]
            · rw [if_neg ej]
              congr 1
              exact decide_eq_decide.2 ⟨fun g => ⟨by omega, g.2⟩, fun g => ⟨by omega, g.2⟩⟩
          rw [ek]
          exact hn1
        · refine Ev.ite (fun _ => ?_) (fun g => absurd g1 g)
          refine Ev.ite (fun g => absurd g g2) (fun _ => ?_)
          unfold baseF at hn1
          rw [if_neg (fun g => g2 g.2)] at hn1
          have ek : kl links.length (fun j => keptE plan links wait late e j || decide (j < i ∧ (lk links j).f1 = (e : Int) ∧ (lk links j).f3 = 0)) = kl links.length (fun j => keptE plan links wait late e j || decide (j < i + 1 ∧ (lk links j).f1 = (e : Int) ∧ (lk links j).f3 = 0)) := by
            refine kl_congr fun j _ => ?_
            congr 1
            refine decide_eq_decide.2 ⟨fun g => ⟨by omega, g.2⟩, fun g => ⟨?_, g.2⟩⟩
            rcases Nat.lt_or_ge j i with hlt | hge
            · exact hlt
            · obtain rfl : j = i := by omega
              exact absurd g.2.2 g2
          rw [ek]
          exact hn1
      · refine Ev.ite (fun g => absurd g g1) (fun _ => ?_)
        unfold baseF at hn1
        rw [if_neg (fun g => g1 g.1)] at hn1
        have ek : kl links.length (fun j => keptE plan links wait late e j || decide (j < i ∧ (lk links j).f1 = (e : Int) ∧ (lk links j).f3 = 0)) = kl links.length (fun j => keptE plan links wait late e j || decide (j < i + 1 ∧ (lk links j).f1 = (e : Int) ∧ (lk links j).f3 = 0)) := by
          refine kl_congr fun j _ => ?_
          congr 1
          refine decide_eq_decide.2 ⟨fun g => ⟨by omega, g.2⟩, fun g => ⟨?_, g.2⟩⟩
          rcases Nat.lt_or_ge j i with hlt | hge
          · exact hlt
          · obtain rfl : j = i := by omega
            exact absurd g.2.1 g1
        rw [ek]
        exact hn1
    · refine Ev.step (fun k => by simp only [impl_work.l1]; rfl) ?_
      simp only [if_neg (show ¬ (links.length : Int) < (links.length : Int) by omega)]
      have hB := hb links.length (Nat.le_refl _)
      obtain ⟨B, eB⟩ : ∃ B, B = baseF plan links (timesTo plan links wait late e) e links.length := ⟨_, rfl⟩
      rw [← eB] at hB ⊢
      have hT := timeF_bd hw (timesTo plan links wait late e) B e 1000000 hB.1 hB.2 ht
      -- the links that may be missed
      have kq : ∀ j, j < links.length → (lk links j).f1 = (e : Int) → (keptQ plan links wait late j ↔ readyT (timesTo plan links wait late e) (lk links j) ≤ B + wait) := by
        intro j _ g
        unfold keptQ
        rw [g, Int.toNat_natCast, eB]
      have k2 := ev_fold (fun k i => impl_work.l2 k ⟨plan, links, wait⟩ late T (e : Int) B (kl links.length (fun j => keptE plan links wait late e j || decide ((lk links j).f1 = (e : Int) ∧ (lk links j).f3 = 0) || decide (j < i ∧ (lk links j).f1 = (e : Int) ∧ (lk links j).f3 = 1 ∧ keptQ plan links wait late j))) (timeF links (timesTo plan links wait late e) wait B e i) (i : Int)) links.length (r := playOf plan links wait late) ?_ ?_
      · have ek : kl links.length (fun j => keptE plan links wait late e j || decide ((lk links j).f1 = (e : Int) ∧ (lk links j).f3 = 0) || decide (j < 0 ∧ (lk links j).f1 = (e : Int) ∧ (lk links j).f3 = 1 ∧ keptQ plan links wait late j)) = kl links.length (fun j => keptE plan links wait late e j || decide (j < links.length ∧ (lk links j).f1 = (e : Int) ∧ (lk links j).f3 = 0)) := by
          refine kl_congr fun j hj => ?_
          rw [decide_eq_false (p := j < 0 ∧ _) (fun g => by omega), Bool.or_false]
          congr 1
          exact decide_eq_decide.2 ⟨fun g => ⟨hj, g⟩, fun g => g.2⟩
        rw [ek] at k2
        exact k2
      · intro i hi hn1
        refine Ev.step (fun k => by simp only [impl_work.l2]; rfl) ?_
        simp only [if_pos (show (i : Int) < (links.length : Int) by omega), if_pos (show 0 ≤ (i : Int) by omega), kl_length]
        rw [wrap_succ hi (by omega), wrap_id (x := B + wait) (by omega) (by omega)]
        have hp := lk_ok hw i hi
        unfold LinkP at hp
        have ek : ¬ ((lk links i).f1 = (e : Int) ∧ (lk links i).f3 = 1 ∧ keptQ plan links wait late i) → kl links.length (fun j => keptE plan links wait late e j || decide ((lk links j).f1 = (e : Int) ∧ (lk links j).f3 = 0) || decide (j < i ∧ (lk links j).f1 = (e : Int) ∧ (lk links j).f3 = 1 ∧ keptQ plan links wait late j)) = kl links.length (fun j => keptE plan links wait late e j || decide ((lk links j).f1 = (e : Int) ∧ (lk links j).f3 = 0) || decide (j < i + 1 ∧ (lk links j).f1 = (e : Int) ∧ (lk links j).f3 = 1 ∧ keptQ plan links wait late j)) := by
          intro hno
          refine kl_congr fun j _ => ?_
          congr 1
          refine decide_eq_decide.2 ⟨fun g => ⟨by omega, g.2⟩, fun g => ⟨?_, g.2⟩⟩
          rcases Nat.lt_or_ge j i with hlt | hge
          · exact hlt
          · obtain rfl : j = i := by omega
            exact absurd g.2 hno
        change Ev (fun k => if (lk links i).f1 = (e : Int) then _ else _) _
        refine Ev.ite (fun g1 => ?_) (fun g1 => ?_)
        · refine Ev.ite (fun g2 => ?_) (fun g2 => ?_)
          · refine Ev.ite (fun _ => ?_) (fun g => absurd hp.1 g)
            refine Ev.ite (fun _ => ?_) (fun g => by exfalso; exact g (show (lk links i).f0 < (T.length : Int) by omega))
            have hr := hbd (lk links i).f0 hp.1 (by omega)
            have er : at_ T (at_ links (i : Int)).f0 = at_ (timesTo plan links wait late e) (lk links i).f0 := hTr _ hp.1 (by show (lk links i).f0 < (e : Int); omega)
            rw [er]
            have ew : wrap64 (at_ (timesTo plan links wait late e) (lk links i).f0 + (at_ links (i : Int)).f2) = readyT (timesTo plan links wait late e) (lk links i) := wrap_id (by show _ ≤ _ + (lk links i).f2; omega) (by show _ + (lk links i).f2 < _; omega)
            rw [ew]
            refine Ev.ite (fun g3 => ?_) (fun g3 => ?_)
            · rw [Int.toNat_natCast, kl_set]
              unfold timeF at hn1
              rw [if_pos ⟨g1, g2, g3⟩] at hn1
              have ek2 : kl links.length (fun j => if j = i then true else (keptE plan links wait late e j || decide ((lk links j).f1 = (e : Int) ∧ (lk links j).f3 = 0) || decide (j < i ∧ (lk links j).f1 = (e : Int) ∧ (lk links j).f3 = 1 ∧ keptQ plan links wait late j))) = kl links.length (fun j => keptE plan links wait late e j || decide ((lk links j).f1 = (e : Int) ∧ (lk links j).f3 = 0) || decide (j < i + 1 ∧ (lk links j).f1 = (e : Int) ∧ (lk links j).f3 = 1 ∧ keptQ plan links wait late j)) := by
                refine kl_congr fun j _ => ?_
                by_cases ej : j = i
                · subst ej
                  rw [if_pos rfl, decide_eq_true (show j < j + 1 ∧ (lk links j).f1 = (e : Int) ∧ (lk links j).f3 = 1 ∧ keptQ plan links wait late j from ⟨by omega, g1, g2, (kq j hi g1).2 g3⟩), Bool.or_true]
                · rw [if_neg ej]
                  congr 1
                  exact decide_eq_decide.2 ⟨fun g => ⟨by omega, g.2⟩, fun g => ⟨by omega, g.2⟩⟩
              rw [ek2]
              exact hn1
            · unfold timeF at hn1
              rw [if_neg (fun g => g3 g.2.2)] at hn1
              rw [ek (fun g => g3 ((kq i hi g1).1 g.2.2))]
              exact hn1
          · unfold timeF at hn1
            rw [if_neg (fun g => g2 g.2.1)] at hn1
            rw [ek (fun g => g2 g.2.1)]
            exact hn1
        · unfold timeF at hn1
          rw [if_neg (fun g => g1 g.1)] at hn1
          rw [ek (fun g => g1 g.1)]
          exact hn1
      · refine Ev.step (fun k => by simp only [impl_work.l2]; rfl) ?_
        simp only [if_neg (show ¬ (links.length : Int) < (links.length : Int) by omega), if_pos (show 0 ≤ (e : Int) by omega)]
        have hll : late.length = plan.length := hl.1
        have hlt := hl.2 e (by omega)
        have hTT := hT links.length (Nat.le_refl _)
        refine Ev.ite (fun _ => ?_) (fun g => by exfalso; omega)
        refine Ev.ite (fun _ => ?_) (fun g => by exfalso; omega)
        rw [wrap_succ he (by omega), wrap_id (x := timeF links (timesTo plan links wait late e) wait B e links.length + at_ late (e : Int)) (by omega) (by omega), Int.toNat_natCast]
        have eS : T.set e (timeF links (timesTo plan links wait late e) wait B e links.length + at_ late (e : Int)) = timesTo plan links wait late (e + 1) ++ List.replicate (plan.length - (e + 1)) 0 := by
          rw [eT, List.set_append_right _ _ (by omega), hlen, Nat.sub_self, show plan.length - e = (plan.length - (e + 1)) + 1 by omega, List.replicate_succ, List.set_cons_zero]
          rw [timesTo_succ, ← eB]
          simp
        rw [eS]
        have ek : kl links.length (fun j => keptE plan links wait late e j || decide ((lk links j).f1 = (e : Int) ∧ (lk links j).f3 = 0) || decide (j < links.length ∧ (lk links j).f1 = (e : Int) ∧ (lk links j).f3 = 1 ∧ keptQ plan links wait late j)) = kl links.length (keptE plan links wait late (e + 1)) := by
          refine kl_congr fun j hj => ?_
          have hp := lk_ok hw j hj
          unfold LinkP at hp
          unfold keptE
          rw [← Bool.decide_or, ← Bool.decide_or]
          refine decide_eq_decide.2 ⟨fun g => ?_, fun g => ?_⟩
          · rcases g with (g | g) | g
            · exact ⟨by omega, g.2⟩
            · exact ⟨by omega, .inl g.2⟩
            · exact ⟨by omega, .inr g.2.2.2⟩
          · by_cases h1 : (lk links j).f1 < (e : Int)
            · exact .inl (.inl ⟨h1, g.2⟩)
            · have h2 : (lk links j).f1 = (e : Int) := by omega
              by_cases h3 : (lk links j).f3 = 0
              · exact .inl (.inr ⟨h2, h3⟩)
              · exact .inr ⟨hj, h2, by omega, g.2.resolve_left h3⟩
        rw [ek]
        exact hn
  · refine Ev.step (fun k => by simp only [impl_work.l0]; rfl) ?_
    simp only [if_neg (show ¬ (plan.length : Int) < (plan.length : Int) by omega)]
    refine ev_val ?_
    unfold playOf
    simp only [Nat.sub_self, List.replicate_zero, List.append_nil, Prod.mk.injEq, true_and]
    refine kl_congr fun j hj => ?_
    have hp := lk_ok hw j hj
    unfold LinkP at hp
    unfold keptE
    exact decide_eq_decide.2 ⟨fun g => g.2, fun g => ⟨by omega, g⟩⟩
end
section
open Classical
variable {plan late : List Int} {links : List S52} {wait : Int}
noncomputable def keptS (plan : List Int) (links : List S52) (wait : Int) (late : List Int) (e j : Nat) : Bool := decide ((lk links j).f3 = 0 ∨ (lk links j).f1 < (e : Int) ∧ keptQ plan links wait late j)
theorem kl_snoc (m : Nat) (f : Nat → Bool) : kl (m + 1) f = kl m f ++ [f m] := by simp [kl, List.range_succ]
theorem ev_spec_l11Play (hw : WorkP ⟨plan, links, wait⟩) (hl : LateP ⟨plan, links, wait⟩ late) : Ev (fun k => spec_l11Play.f k ⟨plan, links, wait⟩ late) (playOf plan links wait late) := by
  obtain ⟨⟨w1, w2, w3, w4⟩, w5, w6⟩ := hw
  dsimp only at w1 w2 w3 w4 w5 w6
  have hw : WorkP ⟨plan, links, wait⟩ := ⟨⟨w1, w2, w3, w4⟩, w5, w6⟩
  unfold spec_l11Play.f
  have k0 := ev_fold (fun k i => spec_l11Play.l0 k ⟨plan, links, wait⟩ late (kl i (fun j => (lk links j).f3 == 0)) (i : Int)) links.length (r := playOf plan links wait late) ?_ ?_
  · simpa [kl] using k0
  · intro i hi hn
    refine Ev.step (fun k => by simp only [spec_l11Play.l0]; rfl) ?_
    simp only [if_pos (show (i : Int) < (links.length : Int) by omega), if_pos (show 0 ≤ (i : Int) by omega), kl_length, List.length_singleton, List.length_cons, List.length_nil, if_pos (show (i + (0 + 1)) * 1 ≤ 70368744177664 by omega), if_pos (show (i + 1) * 1 ≤ 70368744177664 by omega)]
    rw [wrap_succ hi (by omega)]
    rw [kl_snoc] at hn
    exact hn
  refine Ev.step (fun k => by simp only [spec_l11Play.l0]; rfl) ?_
  simp only [if_neg (show ¬ (links.length : Int) < (links.length : Int) by omega)]
  have key := ev_fold (fun k e => spec_l11Play.l1 k ⟨plan, links, wait⟩ late (timesTo plan links wait late e) (kl links.length (keptS plan links wait late e)) (e : Int)) plan.length (r := playOf plan links wait late) ?_ ?_
  · have e0 : kl links.length (keptS plan links wait late 0) = kl links.length (fun j => (lk links j).f3 == 0) := by
      refine kl_congr fun j hj => ?_
      have := lk_ok hw j hj
      unfold LinkP at this
      unfold keptS
      rw [Bool.eq_iff_iff, decide_eq_true_iff, beq_iff_eq]
      exact ⟨fun g => g.resolve_right (fun g2 => by omega), fun g => .inl g⟩
    rw [← e0]
    exact key
  · intro e he hn
    refine Ev.step (fun k => by simp only [spec_l11Play.l1]; rfl) ?_
    simp only [if_pos (show (e : Int) < (plan.length : Int) by omega), if_pos (show 0 ≤ (e : Int) by omega)]
    have hbd := timesTo_bd hw hl e (by omega)
    have hlen := timesTo_length plan links wait late e
    have ht : ∀ i : Int, 0 ≤ i → i < e → at_ (timesTo plan links wait late e) i + 1000 ≤ 1000000 := fun i a b => by have := hbd i a b; omega
    have hb := baseF_bd hw (timesTo plan links wait late e) e 1000000 he (by omega) ht
    have k1 := ev_fold (fun k i => spec_l11Play.l2 k ⟨plan, links, wait⟩ late (timesTo plan links wait late e) (kl links.length (keptS plan links wait late e)) (e : Int) (baseF plan links (timesTo plan links wait late e) e i) (i : Int)) links.length (r := playOf plan links wait late) ?_ ?_
    · simpa [baseF] using k1
    · intro i hi hn1
      refine Ev.step (fun k => by simp only [spec_l11Play.l2]; rfl) ?_
      simp only [if_pos (show (i : Int) < (links.length : Int) by omega), if_pos (show 0 ≤ (i : Int) by omega)]
      rw [wrap_succ hi (by omega)]
      have hp := lk_ok hw i hi
      unfold LinkP at hp
      change Ev (fun k => if (lk links i).f1 = (e : Int) then _ else _) _
      unfold baseF at hn1
      refine Ev.ite (fun g1 => ?_) (fun g1 => ?_)
      · refine Ev.ite (fun g2 => ?_) (fun g2 => ?_)
        · refine Ev.ite (fun _ => ?_) (fun g => absurd hp.1 g)
          refine Ev.ite (fun _ => ?_) (fun g => by exfalso; exact g (show (lk links i).f0 < ((timesTo plan links wait late e).length : Int) by omega))
          have hr := hbd (lk links i).f0 hp.1 (by omega)
          have ew : wrap64 (at_ (timesTo plan links wait late e) (at_ links (i : Int)).f0 + (at_ links (i : Int)).f2) = readyT (timesTo plan links wait late e) (lk links i) := wrap_id (by show _ ≤ at_ _ (lk links i).f0 + (lk links i).f2; omega) (by show at_ _ (lk links i).f0 + (lk links i).f2 < _; omega)
          rw [ew]
          rw [if_pos ⟨g1, g2⟩] at hn1
          unfold mx at hn1
          refine Ev.ite (fun g3 => ?_) (fun g3 => ?_)
          · rw [if_pos (show _ < _ from g3)] at hn1; exact hn1
          · rw [if_neg (show ¬ _ < _ from g3)] at hn1; exact hn1
        · rw [if_neg (fun g => g2 g.2)] at hn1; exact hn1
      · rw [if_neg (fun g => g1 g.1)] at hn1; exact hn1
    · refine Ev.step (fun k => by simp only [spec_l11Play.l2]; rfl) ?_
      simp only [if_neg (show ¬ (links.length : Int) < (links.length : Int) by omega)]
      have hB := hb links.length (Nat.le_refl _)
      obtain ⟨B, eB⟩ : ∃ B, B = baseF plan links (timesTo plan links wait late e) e links.length := ⟨_, rfl⟩
      rw [← eB] at hB ⊢
      have hT := timeF_bd hw (timesTo plan links wait late e) B e 1000000 hB.1 hB.2 ht
      have kq : ∀ j, j < links.length → (lk links j).f1 = (e : Int) → (keptQ plan links wait late j ↔ readyT (timesTo plan links wait late e) (lk links j) ≤ B + wait) := by
        intro j _ g
        unfold keptQ
        rw [g, Int.toNat_natCast, eB]
      have k2 := ev_fold (fun k i => spec_l11Play.l3 k ⟨plan, links, wait⟩ late (timesTo plan links wait late e) (e : Int) B (kl links.length (fun j => keptS plan links wait late e j || decide (j < i ∧ (lk links j).f1 = (e : Int) ∧ (lk links j).f3 = 1 ∧ keptQ plan links wait late j))) (timeF links (timesTo plan links wait late e) wait B e i) (i : Int)) links.length (r := playOf plan links wait late) ?_ ?_
      · have ek : kl links.length (fun j => keptS plan links wait late e j || decide (j < 0 ∧ (lk links j).f1 = (e : Int) ∧ (lk links j).f3 = 1 ∧ keptQ plan links wait late j)) = kl links.length (keptS plan links wait late e) := by
          refine kl_congr fun j hj => ?_
          rw [decide_eq_false (p := j < 0 ∧ _) (fun g => by omega), Bool.or_false]
        rw [ek] at k2
        exact k2
      · intro i hi hn1
        refine Ev.step (fun k => by simp only [spec_l11Play.l3]; rfl) ?_
        simp only [if_pos (show (i : Int) < (links.length : Int) by omega), if_pos (show 0 ≤ (i : Int) by omega)]
        rw [wrap_id (x := B + wait) (by omega) (by omega)]
        have hp := lk_ok hw i hi
        unfold LinkP at hp
        have ek : ¬ ((lk links i).f1 = (e : Int) ∧ (lk links i).f3 = 1 ∧ keptQ plan links wait late i) → kl links.length (fun j => keptS plan links wait late e j || decide (j < i ∧ (lk links j).f1 = (e : Int) ∧ (lk links j).f3 = 1 ∧ keptQ plan links wait late j)) = kl links.length (fun j => keptS plan links wait late e j || decide (j < i + 1 ∧ (lk links j).f1 = (e : Int) ∧ (lk links j).f3 = 1 ∧ keptQ plan links wait late j)) := by
          intro hno
          refine kl_congr fun j _ => ?_
          congr 1
          refine decide_eq_decide.2 ⟨fun g => ⟨by omega, g.2⟩, fun g => ⟨?_, g.2⟩⟩
          rcases Nat.lt_or_ge j i with hlt | hge
          · exact hlt
          · obtain rfl : j = i := by omega
            exact absurd g.2 hno
        change Ev (fun k => if (lk links i).f1 = (e : Int) then _ else _) _
        unfold timeF at hn1
        refine Ev.ite (fun g1 => ?_) (fun g1 => ?_)
        · refine Ev.ite (fun g2 => ?_) (fun g2 => ?_)
          · refine Ev.ite (fun _ => ?_) (fun g => absurd hp.1 g)
            refine Ev.ite (fun _ => ?_) (fun g => by exfalso; exact g (show (lk links i).f0 < ((timesTo plan links wait late e).length : Int) by omega))
            have hr := hbd (lk links i).f0 hp.1 (by omega)
            have ew : wrap64 (at_ (timesTo plan links wait late e) (at_ links (i : Int)).f0 + (at_ links (i : Int)).f2) = readyT (timesTo plan links wait late e) (lk links i) := wrap_id (by show _ ≤ at_ _ (lk links i).f0 + (lk links i).f2; omega) (by show at_ _ (lk links i).f0 + (lk links i).f2 < _; omega)
            rw [ew]
            refine Ev.ite (fun g3 => ?_) (fun g3 => ?_)
            · simp only [kl_length, if_pos (show (i : Int) < (links.length : Int) by omega)]
              rw [wrap_succ hi (by omega), Int.toNat_natCast, kl_set]
              rw [if_pos ⟨g1, g2, g3⟩] at hn1
              have ek2 : kl links.length (fun j => if j = i then true else (keptS plan links wait late e j || decide (j < i ∧ (lk links j).f1 = (e : Int) ∧ (lk links j).f3 = 1 ∧ keptQ plan links wait late j))) = kl links.length (fun j => keptS plan links wait late e j || decide (j < i + 1 ∧ (lk links j).f1 = (e : Int) ∧ (lk links j).f3 = 1 ∧ keptQ plan links wait late j)) := by
                refine kl_congr fun j _ => ?_
                by_cases ej : j = i
                · subst ej
                  rw [if_pos rfl, decide_eq_true (show j < j + 1 ∧ (lk links j).f1 = (e : Int) ∧ (lk links j).f3 = 1 ∧ keptQ plan links wait late j from ⟨by omega, g1, g2, (kq j hi g1).2 g3⟩), Bool.or_true]
                · rw [if_neg ej]
                  congr 1
                  exact decide_eq_decide.2 ⟨fun g => ⟨by omega, g.2⟩, fun g => ⟨by omega, g.2⟩⟩
              rw [ek2]
              unfold mx at hn1
              refine Ev.ite (fun g4 => ?_) (fun g4 => ?_)
              · rw [if_pos (show _ < _ from g4)] at hn1; exact hn1
              · rw [if_neg (show ¬ _ < _ from g4)] at hn1; exact hn1
            · rw [if_neg (fun g => g3 g.2.2)] at hn1
              rw [ek (fun g => g3 ((kq i hi g1).1 g.2.2)), wrap_succ hi (by omega)]
              exact hn1
          · rw [if_neg (fun g => g2 g.2.1)] at hn1
            rw [ek (fun g => g2 g.2.1)]
            rw [wrap_succ hi (by omega)]
            exact hn1
        · rw [if_neg (fun g => g1 g.1)] at hn1
          rw [ek (fun g => g1 g.1)]
          rw [wrap_succ hi (by omega)]
          exact hn1
      · refine Ev.step (fun k => by simp only [spec_l11Play.l3]; rfl) ?_
        simp only [if_neg (show ¬ (links.length : Int) < (links.length : Int) by omega), if_pos (show 0 ≤ (e : Int) by omega)]
        have hll : late.length = plan.length := hl.1
        have hlt := hl.2 e (by omega)
        have hTT := hT links.length (Nat.le_refl _)
        refine Ev.ite (fun _ => ?_) (fun g => by exfalso; omega)
        refine Ev.ite (fun _ => ?_) (fun g => by exfalso; simp only [List.length_cons, List.length_nil] at g; omega)
        rw [wrap_succ he (by omega), wrap_id (x := timeF links (timesTo plan links wait late e) wait B e links.length + at_ late (e : Int)) (by omega) (by omega)]
        rw [timesTo_succ, ← eB] at hn
        have ek : kl links.length (fun j => keptS plan links wait late e j || decide (j < links.length ∧ (lk links j).f1 = (e : Int) ∧ (lk links j).f3 = 1 ∧ keptQ plan links wait late j)) = kl links.length (keptS plan links wait late (e + 1)) := by
          refine kl_congr fun j hj => ?_
          have hp := lk_ok hw j hj
          unfold LinkP at hp
          unfold keptS
          rw [← Bool.decide_or]
          refine decide_eq_decide.2 ⟨fun g => ?_, fun g => ?_⟩
          · rcases g with (g | g) | g
            · exact .inl g
            · exact .inr ⟨by omega, g.2⟩
            · exact .inr ⟨by omega, g.2.2.2⟩
          · rcases g with g | g
            · exact .inl (.inl g)
            · by_cases h1 : (lk links j).f1 < (e : Int)
              · exact .inl (.inr ⟨h1, g.2⟩)
              · by_cases h3 : (lk links j).f3 = 0
                · exact .inl (.inl h3)
                · exact .inr ⟨hj, by omega, by omega, g.2⟩
        rw [ek]
        exact hn
  · refine Ev.step (fun k => by simp only [spec_l11Play.l1]; rfl) ?_
    simp only [if_neg (show ¬ (plan.length : Int) < (plan.length : Int) by omega)]
    refine ev_val ?_
    unfold playOf
    simp only [Prod.mk.injEq, true_and]
    refine kl_congr fun j hj => ?_
    have hp := lk_ok hw j hj
    unfold LinkP at hp
    unfold keptS
    exact decide_eq_decide.2 ⟨fun g => g.imp id (fun g => g.2), fun g => g.imp id (fun g => ⟨by omega, g⟩)⟩
end
def MonoP (plan : List Int) : Prop := ∀ a b : Nat, a ≤ b → b < plan.length → at_ plan (a : Int) ≤ at_ plan (b : Int)
theorem evx_DrawRight (c : S72) (code : List Int) (hc : CurP c) (h : CodeP code) : Evx (fun k => spec_l11DrawRight.f k c code) (fun r => CurP r.2 ∧ WorkP r.1 ∧ 1 ≤ r.1.f0.length ∧ r.1.f0.length ≤ 14) := by
  unfold spec_l11DrawRight.f
  obtain ⟨w, e1, c1, w0, w1, _⟩ := below_ok c 8 hc
  have w1 := w1 (by omega)
  obtain ⟨m, e2, c2, m0, m1, _⟩ := below_ok w.2 20 c1
  have m1 := m1 (by omega)
  obtain ⟨z, e3, z0, z1⟩ := size_ok code h 12 (by omega) (by omega)
  refine Evx.opt e1 (Evx.opt e2 (Evx.opt e3 ?_))
  rw [wrap_id (x := 2 + z) (by omega) (by omega)]
  obtain ⟨q, e4, c4, q0, q1, _⟩ := below_ok m.2 (2 + z) c2
  have q1 := q1 (by omega)
  refine Evx.opt e4 ?_
  rw [wrap_id (x := 1 + q.1) (by omega) (by omega)]
  have key := evx_down (fun k i (s : List Int × S72 × Int) => spec_l11DrawRight.l0 k w s.1 s.2.1 s.2.2 (i : Int))
    (fun i s => CurP s.2.1 ∧ s.1.length + i ≤ 14 ∧ 1 ≤ s.1.length + i ∧ MonoP s.1 ∧ (∀ j : Nat, j < s.1.length → 0 ≤ at_ s.1 (j : Int) ∧ at_ s.1 (j : Int) ≤ s.2.2) ∧ 0 ≤ s.2.2 ∧ s.2.2 ≤ 19 + 7 * (s.1.length : Int))
    (fun r => CurP r.2 ∧ WorkP r.1 ∧ 1 ≤ r.1.f0.length ∧ r.1.f0.length ≤ 14) ?_ ?_ (1 + q.1).toNat ([], q.2, m.1) ⟨c4, by simp; omega, by simp; omega, fun a b _ hb => absurd hb (by simp), fun j hj => absurd hj (by simp), m0, by simp; omega⟩
  · simpa [show (((1 + q.1).toNat : Nat) : Int) = 1 + q.1 by omega] using key
  · rintro i ⟨plan, cu, mm⟩ ⟨i1, i2, i3, i4, i5, i6, i7⟩ hn
    dsimp only at i1 i2 i3 i4 i5 i6 i7
    refine Evx.step (fun k => by simp only [spec_l11DrawRight.l0]; rfl) ?_
    obtain ⟨d, e5, c5, d0, d1, _⟩ := below_ok cu 8 i1
    have d1 := d1 (by omega)
    refine Evx.pos (by omega) (Evx.pos (by simp only [List.length_cons, List.length_nil]; omega) (Evx.opt e5 ?_))
    rw [wrap_id (x := mm + d.1) (by omega) (by omega), wrap_id (x := ((i + 1 : Nat) : Int) - 1) (by omega) (by omega), show ((i + 1 : Nat) : Int) - 1 = (i : Int) by omega]
    refine hn (plan ++ [mm], d.2, mm + d.1) ⟨c5, by simp; omega, by simp; omega, fun a b hab hb => ?_, fun j hj => ?_, by dsimp only; omega, by simp; omega⟩
    · simp only [List.length_append, List.length_singleton] at hb
      by_cases eb : b = plan.length
      · rw [eb, at_app_last]
        by_cases ea : a = plan.length
        · rw [ea, at_app_last]; exact Int.le_refl _
        · rw [at_app_left _ _ (by omega) (by omega)]; exact (i5 a (by omega)).2
      · rw [at_app_left _ _ (by omega) (by omega), at_app_left _ _ (by omega) (by omega)]
        exact i4 a b hab (by omega)
    · simp only [List.length_append, List.length_singleton] at hj
      dsimp only
      by_cases e : j = plan.length
      · rw [e, at_app_last]; omega
      · rw [at_app_left _ _ (by omega) (by omega)]
        have := i5 j (by omega)
        omega
  · rintro ⟨plan, cu, mm⟩ ⟨i1, i2, i3, i4, i5, i6, i7⟩
    dsimp only at i1 i2 i3 i4 i5 i6 i7
    refine Evx.step (fun k => by simp only [spec_l11DrawRight.l0]; rfl) ?_
    refine Evx.neg (by omega) ?_
    rw [wrap_id (x := 2 * (plan.length : Int)) (by omega) (by omega)]
    obtain ⟨d, e5, c5, d0, d1, _⟩ := below_ok cu (2 * (plan.length : Int)) i1
    have d1 := d1 (by omega)
    refine Evx.opt e5 ?_
    have hplan : ∀ i : Nat, i < plan.length → 0 ≤ at_ plan (i : Int) ∧ at_ plan (i : Int) ≤ 100000 := fun i hi => by have := i5 i hi; omega
    have fin : ∀ (ls : List S52) (cu : S72), CurP cu → ls.length ≤ 28 → (∀ i, i < ls.length → LinkP plan (at_ ls (i : Int))) → Evx (fun _ => some ((⟨plan, ls, w.1⟩ : S29), cu)) (fun r => CurP r.2 ∧ WorkP r.1 ∧ 1 ≤ r.1.f0.length ∧ r.1.f0.length ≤ 14) := fun ls cu h1 h2 h3 =>
      Evx.val ⟨h1, ⟨⟨by dsimp only; omega, by dsimp only; omega, w0, by dsimp only; omega⟩, hplan, h3⟩, by dsimp only; omega, by dsimp only; omega⟩
    have key2 := evx_down (fun k i (s : List S52 × S72) => spec_l11DrawRight.l1 k w plan s.1 s.2 (i : Int))
      (fun i s => CurP s.2 ∧ s.1.length + i ≤ 28 ∧ ∀ j, j < s.1.length → LinkP plan (at_ s.1 (j : Int)))
      (fun r => CurP r.2 ∧ WorkP r.1 ∧ 1 ≤ r.1.f0.length ∧ r.1.f0.length ≤ 14) ?_ ?_ d.1.toNat ([], d.2) ⟨c5, by simp; omega, fun j hj => absurd hj (by simp)⟩
    · simpa [show ((d.1.toNat : Nat) : Int) = d.1 by omega] using key2
    · rintro i ⟨ls, cu⟩ ⟨j1, j2, j3⟩ hn
      dsimp only at j1 j2 j3
      refine Evx.step (fun k => by simp only [spec_l11DrawRight.l1]; rfl) ?_
      refine Evx.pos (by omega) (Evx.ite (fun g => ?_) (fun g => fin ls cu j1 (by omega) j3))
      rw [wrap_id (x := (plan.length : Int) - 1) (by omega) (by omega)]
      obtain ⟨t, e6, c6, t0, t1, _⟩ := below_ok cu ((plan.length : Int) - 1) j1
      have t1 := t1 (by omega)
      refine Evx.opt e6 ?_
      rw [wrap_id (x := 1 + t.1) (by omega) (by omega)]
      obtain ⟨f, e7, c7, f0, f1, _⟩ := below_ok t.2 (1 + t.1) c6
      have f1 := f1 (by omega)
      refine Evx.opt e7 (Evx.pos (by omega) (Evx.pos (by omega) (Evx.pos (by omega) (Evx.pos (by omega) ?_))))
      have hm := i4 f.1.toNat (1 + t.1).toNat (by omega) (by omega)
      have ha := i5 (1 + t.1).toNat (by omega)
      have hb := i5 f.1.toNat (by omega)
      rw [show ((f.1.toNat : Nat) : Int) = f.1 by omega] at hm hb
      rw [show (((1 + t.1).toNat : Nat) : Int) = 1 + t.1 by omega] at hm ha
      rw [wrap_id (x := at_ plan (1 + t.1) - at_ plan f.1) (by omega) (by omega), wrap_id (x := at_ plan (1 + t.1) - at_ plan f.1 + 1) (by omega) (by omega)]
      obtain ⟨g1, e8, c8, g10, g11, _⟩ := below_ok f.2 (at_ plan (1 + t.1) - at_ plan f.1 + 1) c7
      have g11 := g11 (by omega)
      obtain ⟨g2, e9, c9, g20, g21, _⟩ := below_ok g1.2 3 c8
      have g21 := g21 (by omega)
      refine Evx.opt e8 (Evx.opt e9 (Evx.pos (by simp only [List.length_cons, List.length_nil]; omega) ?_))
      rw [tdiv_of 2 g20, wrap_id (x := g2.1 / 2) (by omega) (by omega), wrap_id (x := ((i + 1 : Nat) : Int) - 1) (by omega) (by omega), show ((i + 1 : Nat) : Int) - 1 = (i : Int) by omega]
      refine hn (ls ++ [⟨f.1, 1 + t.1, g1.1, g2.1 / 2⟩], g2.2) ⟨c9, by simp; omega, fun j hj => ?_⟩
      simp only [List.length_append, List.length_singleton] at hj
      by_cases e : j = ls.length
      · rw [e, at_app_last]
        unfold LinkP
        dsimp only
        omega
      · rw [at_app_left _ _ (by omega) (by omega)]
        exact j3 j (by omega)
    · rintro ⟨ls, cu⟩ ⟨j1, j2, j3⟩
      dsimp only at j1 j2 j3
      refine Evx.step (fun k => by simp only [spec_l11DrawRight.l1]; rfl) ?_
      exact Evx.neg (by omega) (fin ls cu j1 (by omega) j3)
theorem evx_DrawLate (c : S72) (w : S29) (hc : CurP c) (hl : w.f0.length ≤ 14) : Evx (fun k => spec_l11DrawLate.f k c w) (fun r => r.1.length = w.f0.length ∧ ∀ i : Nat, i < r.1.length → 0 ≤ at_ r.1 (i : Int) ∧ at_ r.1 (i : Int) ≤ 11) := by
  unfold spec_l11DrawLate.f
  refine evx_loop (fun k i (s : S72 × List Int) => spec_l11DrawLate.l0 k w s.1 s.2 (i : Int)) w.f0.length (fun i s => CurP s.1 ∧ s.2.length = i ∧ ∀ j : Nat, j < i → 0 ≤ at_ s.2 (j : Int) ∧ at_ s.2 (j : Int) ≤ 11) _ ?_ ?_ (c, []) ⟨hc, rfl, fun j h => absurd h (by omega)⟩
  · rintro i ⟨cu, xs⟩ hi ⟨i1, i2, i3⟩ hn
    dsimp only at i1 i2 i3
    refine Evx.step (fun k => by simp only [spec_l11DrawLate.l0]; rfl) ?_
    obtain ⟨d, e5, c5, d0, d1, _⟩ := below_ok cu 12 i1
    have d1 := d1 (by omega)
    obtain ⟨p, e6, c6, p0⟩ := pick_ok d.2 [0, 0, 0, d.1] c5 (by simp)
    have hp : 0 ≤ p.1 ∧ p.1 ≤ 11 := by
      simp only [List.mem_cons, List.not_mem_nil, or_false] at p0
      omega
    rw [wrap_succ hi (by omega)]
    refine Evx.pos (by omega) (Evx.opt e5 (Evx.opt e6 (Evx.pos (by simp only [List.length_cons, List.length_nil]; omega) (hn (p.2, xs ++ [p.1]) ⟨c6, by simp [i2], fun j hj => ?_⟩))))
    dsimp only
    by_cases e : j = xs.length
    · rw [e, at_app_last]; exact hp
    · rw [at_app_left _ _ (by omega) (by omega)]
      exact i3 j (by omega)
  · rintro ⟨cu, xs⟩ ⟨i1, i2, i3⟩
    dsimp only at i1 i2 i3
    refine Evx.step (fun k => by simp only [spec_l11DrawLate.l0]; rfl) ?_
    exact Evx.neg (by omega) (Evx.val ⟨i2, fun i hi => i3 i (by dsimp only at hi; omega)⟩)
theorem evx_DrawRightWork (code : List Int) (h : CodeP code) : Evx (fun k => spec_DrawRightWork.f k code) (fun r => WorkP r.1 ∧ 1 ≤ r.1.f0.length ∧ r.1.f0.length ≤ 14 ∧ r.2.length = r.1.f0.length ∧ ∀ i : Nat, i < r.2.length → 0 ≤ at_ r.2 (i : Int) ∧ at_ r.2 (i : Int) ≤ 11) := by
  unfold spec_DrawRightWork.f
  refine Evx.bind (evx_l01New code h) (fun c hc => Evx.bind (evx_DrawRight c code hc h) (fun w ⟨w1, w2, w3, w4⟩ => Evx.bind (evx_DrawLate w.2 w.1 w1 w4) (fun l ⟨l1, l2⟩ => Evx.val ⟨w2, w3, w4, l1, l2⟩)))
section
variable {plan late : List Int} {links : List S52} {wait : Int}
theorem ev_impl_Times (hw : WorkP ⟨plan, links, wait⟩) (hl : LateP ⟨plan, links, wait⟩ late) : Ev (fun k => impl_Times.f k ⟨plan, links, wait⟩ late) (timesTo plan links wait late plan.length) := by
  have h1 := hl.1
  have h2 := hw.1.1
  dsimp only at h1 h2
  unfold impl_Times.f
  exact Ev.bind (ev_impl_playable _ _ (by omega) true (by simp; exact ⟨hw, hl⟩)) (Ev.pos rfl (Ev.bind (ev_impl_work hw hl) (ev_val rfl)))
end
section
variable {plan late : List Int} {links : List S52} {wait : Int}
theorem timesTo_pre (plan : List Int) (links : List S52) (wait : Int) (late : List Int) (m : Nat) (i : Int) (h0 : 0 ≤ i) (h : i < m) : ∀ n, m ≤ n → at_ (timesTo plan links wait late n) i = at_ (timesTo plan links wait late m) i
  | 0, hn => by omega
  | n + 1, hn => by
    by_cases e : m = n + 1
    · rw [e]
    · rw [timesTo_succ, rd_app_left _ _ i h0 (by rw [timesTo_length]; omega)]
      exact timesTo_pre plan links wait late m i h0 h n (by omega)
theorem base_why (plan : List Int) (links : List S52) (ts : List Int) (e : Nat) : ∀ i, at_ plan (e : Int) ≤ baseF plan links ts e i ∧ (baseF plan links ts e i = at_ plan (e : Int) ∨ ∃ j, j < i ∧ (lk links j).f1 = (e : Int) ∧ (lk links j).f3 = 0 ∧ baseF plan links ts e i = readyT ts (lk links j))
  | 0 => ⟨Int.le_refl _, .inl rfl⟩
  | i + 1 => by
    obtain ⟨h1, h2⟩ := base_why plan links ts e i
    have up : (baseF plan links ts e i = at_ plan (e : Int) ∨ ∃ j, j < i + 1 ∧ (lk links j).f1 = (e : Int) ∧ (lk links j).f3 = 0 ∧ baseF plan links ts e i = readyT ts (lk links j)) := by
      rcases h2 with h | ⟨j, a, b, c, d⟩
      · exact .inl h
      · exact .inr ⟨j, by omega, b, c, d⟩
    show at_ plan (e : Int) ≤ (if _ then _ else _) ∧ _
    rw [show baseF plan links ts e (i + 1) = (if (lk links i).f1 = (e : Int) ∧ (lk links i).f3 = 0 then mx (baseF plan links ts e i) (readyT ts (lk links i)) else baseF plan links ts e i) from rfl]
    split
    · next hc =>
      have hm : mx (baseF plan links ts e i) (readyT ts (lk links i)) = baseF plan links ts e i ∨ (baseF plan links ts e i ≤ readyT ts (lk links i) ∧ mx (baseF plan links ts e i) (readyT ts (lk links i)) = readyT ts (lk links i)) := by
        unfold mx
        split
        · right; exact ⟨by omega, by first | rfl | omega⟩
        · left; rfl
      rcases hm with hm | ⟨hm1, hm⟩
      · rw [hm]; exact ⟨h1, up⟩
      · rw [hm]; exact ⟨by omega, .inr ⟨i, by omega, hc.1, hc.2, rfl⟩⟩
    · exact ⟨h1, up⟩
theorem time_why (links : List S52) (ts : List Int) (wait base : Int) (e : Nat) : ∀ i, base ≤ timeF links ts wait base e i ∧ (timeF links ts wait base e i = base ∨ ∃ j, j < i ∧ (lk links j).f1 = (e : Int) ∧ readyT ts (lk links j) ≤ base + wait ∧ timeF links ts wait base e i = readyT ts (lk links j))
  | 0 => ⟨Int.le_refl _, .inl rfl⟩
  | i + 1 => by
    obtain ⟨h1, h2⟩ := time_why links ts wait base e i
    have up : (timeF links ts wait base e i = base ∨ ∃ j, j < i + 1 ∧ (lk links j).f1 = (e : Int) ∧ readyT ts (lk links j) ≤ base + wait ∧ timeF links ts wait base e i = readyT ts (lk links j)) := by
      rcases h2 with h | ⟨j, a, b, c, d⟩
      · exact .inl h
      · exact .inr ⟨j, by omega, b, c, d⟩
    rw [show timeF links ts wait base e (i + 1) = (if (lk links i).f1 = (e : Int) ∧ (lk links i).f3 = 1 ∧ readyT ts (lk links i) ≤ base + wait then mx (timeF links ts wait base e i) (readyT ts (lk links i)) else timeF links ts wait base e i) from rfl]
    split
    · next hc =>
      have hm : mx (timeF links ts wait base e i) (readyT ts (lk links i)) = timeF links ts wait base e i ∨ (timeF links ts wait base e i ≤ readyT ts (lk links i) ∧ mx (timeF links ts wait base e i) (readyT ts (lk links i)) = readyT ts (lk links i)) := by
        unfold mx
        split
        · right; exact ⟨by omega, by first | rfl | omega⟩
        · left; rfl
      rcases hm with hm | ⟨hm1, hm⟩
      · rw [hm]; exact ⟨h1, up⟩
      · rw [hm]; exact ⟨by omega, .inr ⟨i, by omega, hc.1, hc.2.2, rfl⟩⟩
    · exact ⟨h1, up⟩
/-- An event's own minute, without what came on top. -/
noncomputable def ownT (plan : List Int) (links : List S52) (wait : Int) (late : List Int) (e : Nat) : Int := at_ (playOf plan links wait late).1 (e : Int) - at_ late (e : Int)
/-- The link j is why the event e has its minute. -/
def causeP (plan : List Int) (links : List S52) (wait : Int) (late : List Int) (e j : Nat) : Prop :=
  (lk links j).f1 = (e : Int) ∧ at_ (playOf plan links wait late).2 (j : Int) = true ∧ readyT (playOf plan links wait late).1 (lk links j) = ownT plan links wait late e
theorem own_eq (e : Nat) (he : e < plan.length) : ownT plan links wait late e = timeF links (timesTo plan links wait late e) wait (baseF plan links (timesTo plan links wait late e) e links.length) e links.length := by
  unfold ownT playOf
  show at_ (timesTo plan links wait late plan.length) (e : Int) - _ = _
  rw [timesTo_pre plan links wait late (e + 1) (e : Int) (by omega) (by omega) plan.length (by omega), timesTo_succ, rd_app_right _ _ _ (by rw [timesTo_length]; omega)]
  have e1 : (e : Int) - ((timesTo plan links wait late e).length : Int) = 0 := by rw [timesTo_length]; omega
  rw [e1]
  show timeF links _ wait _ e links.length + at_ late (e : Int) - at_ late (e : Int) = _
  omega
theorem own_why (hw : WorkP ⟨plan, links, wait⟩) (e : Nat) (he : e < plan.length) : at_ plan (e : Int) ≤ ownT plan links wait late e ∧ (ownT plan links wait late e = at_ plan (e : Int) ∨ ∃ j, j < links.length ∧ causeP plan links wait late e j) := by
  classical
  have ho := own_eq (plan := plan) (late := late) (links := links) (wait := wait) e he
  have hb := base_why plan links (timesTo plan links wait late e) e links.length
  have ht := time_why links (timesTo plan links wait late e) wait (baseF plan links (timesTo plan links wait late e) e links.length) e links.length
  rw [← ho] at ht
  have pre : ∀ j, j < links.length → (lk links j).f1 = (e : Int) → readyT (playOf plan links wait late).1 (lk links j) = readyT (timesTo plan links wait late e) (lk links j) := by
    intro j hj h1
    have hp := lk_ok hw j hj
    unfold LinkP at hp
    unfold readyT playOf
    show at_ (timesTo plan links wait late plan.length) _ + _ = _
    rw [timesTo_pre plan links wait late e (lk links j).f0 (by omega) (by omega) plan.length (by omega)]
  have kq : ∀ j, j < links.length → ((lk links j).f3 = 0 ∨ keptQ plan links wait late j) → at_ (playOf plan links wait late).2 (j : Int) = true := by
    intro j hj h
    unfold playOf
    show at_ (kl links.length _) (j : Int) = true
    rw [rdOf_kl _ _ j hj]
    exact decide_eq_true h
  refine ⟨by omega, ?_⟩
  rcases ht.2 with h | ⟨j, hj, h1, h2, h3⟩
  · rcases hb.2 with g | ⟨j, hj, h1, h2, h3⟩
    · exact .inl (by rw [h, g])
    · exact .inr ⟨j, hj, h1, kq j hj (.inl h2), by rw [pre j hj h1, h, h3]⟩
  · refine .inr ⟨j, hj, h1, kq j hj (.inr ?_), by rw [pre j hj h1, h3]⟩
    unfold keptQ
    rw [show (lk links j).f1.toNat = e by omega]
    exact h2
/-- What stands behind an event, from the one that began it. -/
inductive ChainR (plan : List Int) (links : List S52) (wait : Int) (late : List Int) : Nat → List Int → List Int → Prop
  | stop (e : Nat) (acc : List Int) (h : ownT plan links wait late e = at_ plan (e : Int)) : ChainR plan links wait late e acc ((e : Int) :: acc)
  | go (e j : Nat) (acc r : List Int) (h : ownT plan links wait late e ≠ at_ plan (e : Int)) (hj : j < links.length) (hc : causeP plan links wait late e j) (hm : ∀ i, i < j → ¬ causeP plan links wait late e i)
      (hr : ChainR plan links wait late (lk links j).f0.toNat ((e : Int) :: acc) r) : ChainR plan links wait late e acc r
theorem chain_ex (hw : WorkP ⟨plan, links, wait⟩) (e : Nat) : e < plan.length → ∀ acc : List Int, ∃ r, ChainR plan links wait late e acc r ∧ r.length ≤ acc.length + e + 1 := by
  classical
  induction e using Nat.strongRecOn with
  | _ e ih =>
    intro he acc
    by_cases h : ownT plan links wait late e = at_ plan (e : Int)
    · exact ⟨_, .stop e acc h, by simp⟩
    · rcases (own_why (late := late) hw e he).2 with g | ⟨j0, g⟩
      · exact absurd g h
      · obtain ⟨j, ⟨h1, h2⟩, hm⟩ := least_of (p := fun j => j < links.length ∧ causeP plan links wait late e j) ⟨j0, g⟩
        have hp := lk_ok hw j h1
        unfold LinkP at hp
        have hq := h2.1
        obtain ⟨r, hr, hl⟩ := ih (lk links j).f0.toNat (by omega) (by omega) ((e : Int) :: acc)
        refine ⟨r, .go e j acc r h h1 h2 (fun i hi hc => hm i hi ⟨by omega, hc⟩) hr, ?_⟩
        simp only [List.length_cons] at hl
        omega
end
theorem play_len (plan : List Int) (links : List S52) (wait : Int) (late : List Int) : (playOf plan links wait late).2.length = links.length ∧ (playOf plan links wait late).1.length = plan.length := by
  unfold playOf
  exact ⟨by simp [kl], timesTo_length _ _ _ _ _⟩
section
variable {plan late : List Int} {links : List S52} {wait : Int}
theorem chain_bd (hw : WorkP ⟨plan, links, wait⟩) (hl : LateP ⟨plan, links, wait⟩ late) (i : Int) (h0 : 0 ≤ i) (h1 : i < plan.length) : 0 ≤ at_ (playOf plan links wait late).1 i ∧ at_ (playOf plan links wait late).1 i ≤ 100000 + 11000 * (plan.length : Int) ∧ 0 ≤ at_ late i ∧ at_ late i ≤ 10000 := by
  have h := timesTo_bd hw hl plan.length (Nat.le_refl _) i h0 (by omega)
  have hll : late.length = plan.length := hl.1
  have g := hl.2 i.toNat (by omega)
  rw [show ((i.toNat : Nat) : Int) = i by omega] at g
  exact ⟨h.1, h.2, g.1, g.2⟩
theorem ev_impl_cause (hw : WorkP ⟨plan, links, wait⟩) (hl : LateP ⟨plan, links, wait⟩ late) (hp : plan.length ≤ 1048576) (e : Nat) (he : e < plan.length) (r : Int)
    (hr : (ownT plan links wait late e = at_ plan (e : Int) ∧ r = -1) ∨ (ownT plan links wait late e ≠ at_ plan (e : Int) ∧ ∃ j, j < links.length ∧ causeP plan links wait late e j ∧ (∀ i, i < j → ¬ causeP plan links wait late e i) ∧ r = (lk links j).f0)) :
    Ev (fun k => impl_cause.f k ⟨plan, links, wait⟩ late (playOf plan links wait late).1 (playOf plan links wait late).2 (e : Int)) r := by
  have hlen := play_len plan links wait late
  have hlt : late.length = plan.length := hl.1
  have hb := chain_bd hw hl (e : Int) (by omega) (by omega)
  have hwl : ((plan.length : Int) ≤ 60 ∧ (links.length : Int) ≤ 150 ∧ 0 ≤ wait ∧ wait ≤ 60) := hw.1
  have hown : at_ (playOf plan links wait late).1 (e : Int) - at_ late (e : Int) = ownT plan links wait late e := rfl
  unfold impl_cause.f
  simp only [if_pos (show 0 ≤ (e : Int) by omega), if_pos (show (e : Int) < ((playOf plan links wait late).1.length : Int) by omega), if_pos (show (e : Int) < (late.length : Int) by omega), if_pos (show (e : Int) < (plan.length : Int) by omega)]
  rw [wrap_id (by omega) (by omega), hown]
  rcases hr with ⟨h1, h2⟩ | ⟨h1, j, h2, h3, h4, h5⟩
  · simp only [if_pos h1]
    exact ev_val (by rw [h2])
  simp only [if_neg h1]
  refine ev_find links.length (causeP plan links wait late e) (fun j => (lk links j).f0) (-1) r (fun k i => impl_cause.l0 k ⟨plan, links, wait⟩ late (playOf plan links wait late).1 (playOf plan links wait late).2 (e : Int) (i : Int)) (.inr ⟨j, h2, h3, h4, h5⟩) ?_ ?_ ?_
  · intro i hi hn hk
    refine Ev.step (fun k => by simp only [impl_cause.l0]; rfl) ?_
    have hq := lk_ok hw i hi
    unfold LinkP at hq
    have hb0 := chain_bd hw hl (lk links i).f0 (by omega) (by omega)
    simp only [if_pos (show (i : Int) < (links.length : Int) by omega), if_pos (show 0 ≤ (i : Int) by omega)]
    rw [wrap_succ hi (by omega)]
    refine Ev.ite (fun c1 => ?_) (fun _ => hk)
    simp only [if_pos (show (i : Int) < ((playOf plan links wait late).2.length : Int) by omega)]
    refine Ev.ite (fun c2 => ?_) (fun _ => hk)
    have e0 : at_ links (i : Int) = lk links i := rfl
    simp only [e0] at c1 c2 ⊢
    simp only [if_pos hq.1, if_pos (show (lk links i).f0 < ((playOf plan links wait late).1.length : Int) by omega)]
    rw [wrap_id (x := at_ (playOf plan links wait late).1 (lk links i).f0 + (lk links i).f2) (by omega) (by omega), wrap_id (x := at_ (playOf plan links wait late).1 (e : Int) - at_ late (e : Int)) (by omega) (by omega), hown]
    exact Ev.ite (fun c3 => absurd ⟨c1, c2, c3⟩ hn) (fun _ => hk)
  · intro i hi hc _
    refine Ev.step (fun k => by simp only [impl_cause.l0]; rfl) ?_
    have hq := lk_ok hw i hi
    unfold LinkP at hq
    have hb0 := chain_bd hw hl (lk links i).f0 (by omega) (by omega)
    have e0 : at_ links (i : Int) = lk links i := rfl
    obtain ⟨c1, c2, c3⟩ := hc
    unfold readyT at c3
    simp only [e0]
    simp only [if_pos (show (i : Int) < (links.length : Int) by omega), if_pos (show 0 ≤ (i : Int) by omega), if_pos c1, if_pos (show (i : Int) < ((playOf plan links wait late).2.length : Int) by omega), if_pos c2, if_pos hq.1, if_pos (show (lk links i).f0 < ((playOf plan links wait late).1.length : Int) by omega)]
    rw [wrap_id (x := at_ (playOf plan links wait late).1 (lk links i).f0 + (lk links i).f2) (by omega) (by omega), wrap_id (x := at_ (playOf plan links wait late).1 (e : Int) - at_ late (e : Int)) (by omega) (by omega), hown]
    simp only [if_pos c3]
    exact ev_val rfl
  · intro _
    refine Ev.step (fun k => by simp only [impl_cause.l0]; rfl) ?_
    simp only [if_neg (show ¬ (links.length : Int) < (links.length : Int) by omega)]
    exact ev_val rfl
theorem ev_impl_ChainL (hw : WorkP ⟨plan, links, wait⟩) (hl : LateP ⟨plan, links, wait⟩ late) (hp : plan.length ≤ 1048576) (e : Nat) (acc r : List Int) (hr : ChainR plan links wait late e acc r) : e < plan.length → acc.length + e + 1 ≤ 1048577 →
    Ev (fun k => impl_Chain.l0 k ⟨plan, links, wait⟩ late (playOf plan links wait late) acc (e : Int)) r := by
  induction hr with
  | stop e acc h =>
    intro he ha
    refine Ev.step (fun k => by simp only [impl_Chain.l0]; rfl) ?_
    simp only [if_pos (show (e : Int) ≥ 0 by omega), Option.bind_some, if_pos (show ([(e : Int)].length + acc.length) * 8 ≤ 70368744177664 by simp; omega)]
    refine Ev.bind (ev_impl_cause hw hl hp e he (-1) (.inl ⟨h, rfl⟩)) ?_
    refine Ev.step (fun k => by simp only [impl_Chain.l0]; rfl) ?_
    simp only [if_neg (show ¬ (-1 : Int) ≥ 0 by omega)]
    exact ev_val rfl
  | go e j acc r h hj hc hm hr ih =>
    intro he ha
    have hq := lk_ok hw j hj
    unfold LinkP at hq
    have hf := hc.1
    refine Ev.step (fun k => by simp only [impl_Chain.l0]; rfl) ?_
    simp only [if_pos (show (e : Int) ≥ 0 by omega), Option.bind_some, if_pos (show ([(e : Int)].length + acc.length) * 8 ≤ 70368744177664 by simp; omega)]
    refine Ev.bind (ev_impl_cause hw hl hp e he (lk links j).f0 (.inr ⟨h, j, hj, hc, hm, rfl⟩)) ?_
    have := ih (by omega) (by simp only [List.length_cons]; omega)
    rw [show (((lk links j).f0.toNat : Nat) : Int) = (lk links j).f0 by omega] at this
    exact this
end
/-- What the program and the reference give. -/
def ChainO (plan : List Int) (links : List S52) (wait : Int) (late : List Int) (e : Int) (r : List Int) : Prop :=
  ((WorkP ⟨plan, links, wait⟩ ∧ LateP ⟨plan, links, wait⟩ late ∧ 0 ≤ e ∧ e ≤ (plan.length : Int) - 1) ∧ ChainR plan links wait late e.toNat [] r) ∨ (¬ (WorkP ⟨plan, links, wait⟩ ∧ LateP ⟨plan, links, wait⟩ late ∧ 0 ≤ e ∧ e ≤ (plan.length : Int) - 1) ∧ r = [])
theorem chainO_ex (plan : List Int) (links : List S52) (wait : Int) (late : List Int) (e : Int) : ∃ r, ChainO plan links wait late e r ∧ r.length ≤ plan.length := by
  classical
  by_cases h : WorkP ⟨plan, links, wait⟩ ∧ LateP ⟨plan, links, wait⟩ late ∧ 0 ≤ e ∧ e ≤ (plan.length : Int) - 1
  · obtain ⟨r, hr, hl⟩ := chain_ex (late := late) h.1 e.toNat (by omega) []
    refine ⟨r, .inl ⟨h, hr⟩, ?_⟩
    have := h.2.2
    simp only [List.length_nil] at hl
    omega
  · exact ⟨[], .inr ⟨h, rfl⟩, by simp⟩
theorem ev_impl_Chain (plan late : List Int) (links : List S52) (wait e : Int) (r : List Int) (hlate : late.length ≤ 4611686018427387904) (hp : plan.length ≤ 1048576) (hr : ChainO plan links wait late e r) : Ev (fun k => impl_Chain.f k ⟨plan, links, wait⟩ late e) r := by
  classical
  unfold impl_Chain.f
  dsimp only
  have bad : ¬ (WorkP ⟨plan, links, wait⟩ ∧ LateP ⟨plan, links, wait⟩ late ∧ 0 ≤ e ∧ e ≤ (plan.length : Int) - 1) → Ev (fun k => some []) r := fun h => ev_val (by rcases hr with ⟨g, _⟩ | ⟨_, g⟩; exact absurd g h; exact g.symm)
  refine Ev.bind (ev_impl_playable ⟨plan, links, wait⟩ late hlate (decide (WorkP ⟨plan, links, wait⟩ ∧ LateP ⟨plan, links, wait⟩ late)) decide_eq_true_iff) ?_
  refine Ev.ite (fun h => ?_) (fun h => bad (fun g => h (decide_eq_true ⟨g.1, g.2.1⟩)))
  have hw := of_decide_eq_true h
  rw [wrap_id (by omega) (by omega)]
  rw [eq_impl_between]
  simp only [Option.bind_some]
  by_cases hb : 0 ≤ e ∧ e ≤ (plan.length : Int) - 1
  · simp only [decide_eq_true hb, if_true]
    refine Ev.bind (ev_impl_work hw.1 hw.2) ?_
    rcases hr with ⟨_, g⟩ | ⟨g, _⟩
    · have := ev_impl_ChainL hw.1 hw.2 hp e.toNat [] r g (by omega) (by simp only [List.length_nil]; omega)
      rw [show ((e.toNat : Nat) : Int) = e by omega] at this
      exact this
    · exact absurd ⟨hw.1, hw.2, hb.1, hb.2⟩ g
  · simp only [decide_eq_false hb, Bool.false_eq_true, if_false]
    exact bad (fun g => hb g.2.2)
section
variable {plan late : List Int} {links : List S52} {wait : Int}
theorem ev_spec_ChainL (hw : WorkP ⟨plan, links, wait⟩) (hl : LateP ⟨plan, links, wait⟩ late) (hp : plan.length ≤ 1048576) (e : Nat) (acc r : List Int) (hr : ChainR plan links wait late e acc r) : e < plan.length → acc.length + e + 1 ≤ 1048577 →
    Ev (fun k => spec_Chain.l0 k ⟨plan, links, wait⟩ late (playOf plan links wait late) ((e : Int) :: acc) (e : Int)) r := by
  have hlen := play_len plan links wait late
  have hlt : late.length = plan.length := hl.1
  have hwl : ((plan.length : Int) ≤ 60 ∧ (links.length : Int) ≤ 150 ∧ 0 ≤ wait ∧ wait ≤ 60) := hw.1
  induction hr with
  | stop e acc h =>
    intro he ha
    have hb := chain_bd hw hl (e : Int) (by omega) (by omega)
    have hown : at_ (playOf plan links wait late).1 (e : Int) - at_ late (e : Int) = ownT plan links wait late e := rfl
    refine Ev.step (fun k => by simp only [spec_Chain.l0]; rfl) ?_
    simp only [if_pos (show 0 ≤ (e : Int) by omega), if_pos (show (e : Int) < ((playOf plan links wait late).1.length : Int) by omega), if_pos (show (e : Int) < (late.length : Int) by omega), if_pos (show (e : Int) < (plan.length : Int) by omega)]
    rw [wrap_id (by omega) (by omega), hown]
    simp only [if_neg (show ¬ ownT plan links wait late e > at_ plan (e : Int) by omega)]
    exact ev_val rfl
  | go e j acc r h hj hc hm hr ih =>
    intro he ha
    have hb := chain_bd hw hl (e : Int) (by omega) (by omega)
    have hown : at_ (playOf plan links wait late).1 (e : Int) - at_ late (e : Int) = ownT plan links wait late e := rfl
    have hge := (own_why (late := late) hw e he).1
    refine Ev.step (fun k => by simp only [spec_Chain.l0]; rfl) ?_
    simp only [if_pos (show 0 ≤ (e : Int) by omega), if_pos (show (e : Int) < ((playOf plan links wait late).1.length : Int) by omega), if_pos (show (e : Int) < (late.length : Int) by omega), if_pos (show (e : Int) < (plan.length : Int) by omega)]
    rw [wrap_id (by omega) (by omega), hown]
    simp only [if_pos (show ownT plan links wait late e > at_ plan (e : Int) by omega)]
    refine ev_find links.length (causeP plan links wait late e) (fun _ => r) r r (fun k i => spec_Chain.l1 k ⟨plan, links, wait⟩ late (playOf plan links wait late) ((e : Int) :: acc) (e : Int) (i : Int)) (.inr ⟨j, hj, hc, hm, rfl⟩) ?_ ?_ (fun g => absurd hc (g j hj))
    · intro i hi hn hk
      refine Ev.step (fun k => by simp only [spec_Chain.l1]; rfl) ?_
      have hq := lk_ok hw i hi
      unfold LinkP at hq
      have hb0 := chain_bd hw hl (lk links i).f0 (by omega) (by omega)
      have e0 : at_ links (i : Int) = lk links i := rfl
      simp only [if_pos (show (i : Int) < (links.length : Int) by omega), if_pos (show 0 ≤ (i : Int) by omega), e0]
      rw [wrap_succ hi (by omega)]
      refine Ev.ite (fun c1 => ?_) (fun _ => hk)
      simp only [if_pos (show (i : Int) < ((playOf plan links wait late).2.length : Int) by omega)]
      refine Ev.ite (fun c2 => ?_) (fun _ => hk)
      simp only [if_pos hq.1, if_pos (show (lk links i).f0 < ((playOf plan links wait late).1.length : Int) by omega), if_pos (show 0 ≤ (e : Int) by omega), if_pos (show (e : Int) < ((playOf plan links wait late).1.length : Int) by omega), if_pos (show (e : Int) < (late.length : Int) by omega)]
      rw [wrap_id (x := at_ (playOf plan links wait late).1 (lk links i).f0 + (lk links i).f2) (by omega) (by omega), wrap_id (x := at_ (playOf plan links wait late).1 (e : Int) - at_ late (e : Int)) (by omega) (by omega), hown]
      exact Ev.ite (fun c3 => absurd ⟨c1, c2, c3⟩ hn) (fun _ => hk)
    · intro i hi hci hmi
      have hij : i = j := by
        rcases Nat.lt_trichotomy i j with h | h | h
        · exact absurd hci (hm i h)
        · exact h
        · exact absurd hc (hmi j h)
      subst hij
      refine Ev.step (fun k => by simp only [spec_Chain.l1]; rfl) ?_
      have hq := lk_ok hw i hi
      unfold LinkP at hq
      have hb0 := chain_bd hw hl (lk links i).f0 (by omega) (by omega)
      have e0 : at_ links (i : Int) = lk links i := rfl
      obtain ⟨c1, c2, c3⟩ := hc
      unfold readyT at c3
      simp only [e0]
      simp only [if_pos (show (i : Int) < (links.length : Int) by omega), if_pos (show 0 ≤ (i : Int) by omega), if_pos c1, if_pos (show (i : Int) < ((playOf plan links wait late).2.length : Int) by omega), if_pos c2, if_pos hq.1, if_pos (show (lk links i).f0 < ((playOf plan links wait late).1.length : Int) by omega), if_pos (show 0 ≤ (e : Int) by omega), if_pos (show (e : Int) < ((playOf plan links wait late).1.length : Int) by omega), if_pos (show (e : Int) < (late.length : Int) by omega)]
      rw [wrap_id (x := at_ (playOf plan links wait late).1 (lk links i).f0 + (lk links i).f2) (by omega) (by omega), wrap_id (x := at_ (playOf plan links wait late).1 (e : Int) - at_ late (e : Int)) (by omega) (by omega), hown]
      simp only [if_pos c3, Option.bind_some, if_pos (show ([(lk links i).f0].length + ((e : Int) :: acc).length) * 8 ≤ 70368744177664 by simp; omega)]
      have := ih (by omega) (by simp only [List.length_cons]; omega)
      rw [show (((lk links i).f0.toNat : Nat) : Int) = (lk links i).f0 by omega] at this
      exact this
end
theorem ev_spec_Chain (plan late : List Int) (links : List S52) (wait e : Int) (r : List Int) (hlate : late.length ≤ 4611686018427387904) (hp : plan.length ≤ 1048576) (hr : ChainO plan links wait late e r) : Ev (fun k => spec_Chain.f k ⟨plan, links, wait⟩ late e) r := by
  classical
  unfold spec_Chain.f
  dsimp only
  have bad : ¬ (WorkP ⟨plan, links, wait⟩ ∧ LateP ⟨plan, links, wait⟩ late ∧ 0 ≤ e ∧ e ≤ (plan.length : Int) - 1) → Ev (fun k => some []) r := fun h => ev_val (by rcases hr with ⟨g, _⟩ | ⟨_, g⟩; exact absurd g h; exact g.symm)
  refine Ev.bind (ev_spec_WorkOk ⟨plan, links, wait⟩ (decide (WorkP ⟨plan, links, wait⟩)) decide_eq_true_iff) ?_
  refine Ev.ite (fun h => ?_) (fun h => bad (fun g => h (decide_eq_true g.1)))
  have hw1 := of_decide_eq_true h
  refine Ev.bind (ev_spec_l11Late ⟨plan, links, wait⟩ late hlate (decide (LateP ⟨plan, links, wait⟩ late)) decide_eq_true_iff) ?_
  refine Ev.ite (fun h2 => ?_) (fun h2 => bad (fun g => h2 (decide_eq_true g.2.1)))
  have hw2 := of_decide_eq_true h2
  rw [wrap_id (by omega) (by omega)]
  rw [eq_spec_l01In]
  simp only [Option.bind_some]
  by_cases hb : 0 ≤ e ∧ e ≤ (plan.length : Int) - 1
  · simp only [decide_eq_true hb, if_true]
    refine Ev.bind (ev_spec_l11Play hw1 hw2) ?_
    rcases hr with ⟨_, g⟩ | ⟨g, _⟩
    · have := ev_spec_ChainL hw1 hw2 hp e.toNat [] r g (by omega) (by simp only [List.length_nil]; omega)
      rw [show ((e.toNat : Nat) : Int) = e by omega] at this
      exact this
    · exact absurd ⟨hw1, hw2, hb.1, hb.2⟩ g
  · simp only [decide_eq_false hb, Bool.false_eq_true, if_false]
    exact bad (fun g => hb g.2.2)
section
open Classical
variable {plan late : List Int} {links : List S52} {wait : Int}
theorem baseF_ge (plan : List Int) (links : List S52) (ts : List Int) (e j : Nat) (h1 : (lk links j).f1 = (e : Int)) (h3 : (lk links j).f3 = 0) : ∀ i, j < i → readyT ts (lk links j) ≤ baseF plan links ts e i
  | 0, h => by omega
  | i + 1, h => by
    unfold baseF
    by_cases g : j = i
    · subst g
      rw [if_pos ⟨h1, h3⟩]; unfold mx; split <;> omega
    · have := baseF_ge plan links ts e j h1 h3 i (by omega)
      split
      · unfold mx; split <;> omega
      · exact this
theorem timeF_ge (links : List S52) (ts : List Int) (wait base : Int) (e j : Nat) (h1 : (lk links j).f1 = (e : Int)) (h3 : (lk links j).f3 = 1) (hq : readyT ts (lk links j) ≤ base + wait) : ∀ i, j < i → readyT ts (lk links j) ≤ timeF links ts wait base e i
  | 0, h => by omega
  | i + 1, h => by
    unfold timeF
    by_cases g : j = i
    · subst g
      rw [if_pos ⟨h1, h3, hq⟩]; unfold mx; split <;> omega
    · have := timeF_ge links ts wait base e j h1 h3 hq i (by omega)
      split
      · unfold mx; split <;> omega
      · exact this
theorem kept_at {j : Nat} (hj : j < links.length) : at_ (playOf plan links wait late).2 (j : Int) = decide ((lk links j).f3 = 0 ∨ keptQ plan links wait late j) := by
  unfold playOf
  exact rdOf_kl _ _ _ hj
theorem ready_pre (hw : WorkP ⟨plan, links, wait⟩) {j : Nat} (hj : j < links.length) : readyT (timesTo plan links wait late plan.length) (lk links j) = readyT (timesTo plan links wait late (lk links j).f1.toNat) (lk links j) := by
  have hp := lk_ok hw j hj
  unfold LinkP at hp
  unfold readyT
  rw [timesTo_pre plan links wait late (lk links j).f1.toNat (lk links j).f0 (by omega) (by omega) plan.length (by omega)]
/-- A link that is kept is no later than its event's own minute. -/
theorem kept_own (hw : WorkP ⟨plan, links, wait⟩) {j : Nat} (hj : j < links.length) (hk : at_ (playOf plan links wait late).2 (j : Int) = true) : readyT (timesTo plan links wait late plan.length) (lk links j) ≤ ownT plan links wait late (lk links j).f1.toNat := by
  have hp := lk_ok hw j hj
  unfold LinkP at hp
  rw [kept_at hj, decide_eq_true_iff] at hk
  rw [ready_pre hw hj, own_eq _ (by omega)]
  have e1 : (lk links j).f1 = (((lk links j).f1.toNat : Nat) : Int) := by omega
  generalize (lk links j).f1.toNat = e at e1 ⊢
  by_cases h3 : (lk links j).f3 = 0
  · have h1 := baseF_ge plan links (timesTo plan links wait late e) e j e1 h3 links.length hj
    have h2 := (time_why links (timesTo plan links wait late e) wait (baseF plan links (timesTo plan links wait late e) e links.length) e links.length).1
    omega
  · have hq := hk.resolve_left h3
    unfold keptQ at hq
    rw [e1, Int.toNat_natCast] at hq
    exact timeF_ge links _ wait _ e j e1 (by omega) hq links.length hj
theorem missed_late (hw : WorkP ⟨plan, links, wait⟩) {j : Nat} (hj : j < links.length) (hk : ¬ at_ (playOf plan links wait late).2 (j : Int) = true) : (lk links j).f3 ≠ 0 ∧ at_ plan (lk links j).f1 + wait < readyT (timesTo plan links wait late plan.length) (lk links j) := by
  have hp := lk_ok hw j hj
  unfold LinkP at hp
  rw [kept_at hj, decide_eq_true_iff] at hk
  refine ⟨fun g => hk (.inl g), ?_⟩
  rw [ready_pre hw hj]
  have h1 := (base_why plan links (timesTo plan links wait late (lk links j).f1.toNat) (lk links j).f1.toNat links.length).1
  rw [show (((lk links j).f1.toNat : Nat) : Int) = (lk links j).f1 by omega] at h1
  have h2 : ¬ keptQ plan links wait late j := fun g => hk (.inr g)
  unfold keptQ at h2
  omega
theorem still_base (hw : WorkP ⟨plan, links, wait⟩) (e : Nat) (he : e < plan.length) : ∀ i, i ≤ links.length → baseF plan links (plan.take e) e i = at_ plan (e : Int)
  | 0, _ => rfl
  | i + 1, hi => by
    have ih := still_base hw e he i (by omega)
    have hp := lk_ok hw i (by omega)
    unfold LinkP at hp
    unfold baseF
    split
    · next g =>
      rw [ih]
      unfold readyT mx
      rw [at_take plan hp.1 (by omega)]
      rw [g.1] at hp
      split <;> omega
    · exact ih
theorem still_time (hw : WorkP ⟨plan, links, wait⟩) (e : Nat) (he : e < plan.length) : ∀ i, i ≤ links.length → timeF links (plan.take e) wait (at_ plan (e : Int)) e i = at_ plan (e : Int)
  | 0, _ => rfl
  | i + 1, hi => by
    have ih := still_time hw e he i (by omega)
    have hp := lk_ok hw i (by omega)
    unfold LinkP at hp
    unfold timeF
    split
    · next g =>
      rw [ih]
      unfold readyT mx
      rw [at_take plan hp.1 (by omega)]
      rw [g.1] at hp
      split <;> omega
    · exact ih
theorem still_times (hw : WorkP ⟨plan, links, wait⟩) (hz : ∀ i : Nat, i < plan.length → at_ late (i : Int) = 0) : ∀ m, m ≤ plan.length → timesTo plan links wait late m = plan.take m
  | 0, _ => rfl
  | m + 1, hm => by
    rw [timesTo_succ, still_times hw hz m (by omega), still_base hw m (by omega) _ (Nat.le_refl _), still_time hw m (by omega) _ (Nat.le_refl _), hz m (by omega), take_succ' (by omega : m < plan.length), at_nat (by omega : m < plan.length), Int.add_zero]
theorem still_kept (hw : WorkP ⟨plan, links, wait⟩) (hz : ∀ i : Nat, i < plan.length → at_ late (i : Int) = 0) : (playOf plan links wait late).2.countP (fun b => !b) = 0 := by
  rw [List.countP_eq_zero]
  intro b hb
  obtain ⟨j, hj, rfl⟩ := mem_at.1 hb
  have hlen := (play_len plan links wait late).1
  by_cases g : at_ (playOf plan links wait late).2 (j : Int) = true
  · rw [g]; decide
  · have h := (missed_late hw (by omega : j < links.length) g).2
    have hp := lk_ok hw j (by omega)
    have hw4 := hw.1.2.2.1
    dsimp only at hw4
    unfold LinkP at hp
    unfold readyT at h
    rw [still_times hw hz _ (Nat.le_refl _), List.take_length] at h
    omega
theorem ev_impl_Kept (hw : WorkP ⟨plan, links, wait⟩) (hl : LateP ⟨plan, links, wait⟩ late) (hn : 1 ≤ plan.length) : Ev (fun k => impl_Kept.f k ⟨plan, links, wait⟩ late) (playOf plan links wait late).2 := by
  have h1 := hl.1
  have h2 := hw.1.1
  dsimp only at h1 h2
  unfold impl_Kept.f
  exact Ev.bind (ev_impl_playable _ _ (by omega) true (by simp; exact ⟨hw, hl⟩)) (Ev.pos rfl (Ev.neg (by dsimp only; omega) (Ev.bind (ev_impl_work hw hl) (ev_val rfl))))
theorem ev_sameInts (xs : List Int) (hl : xs.length ≤ 1048576) : Ev (fun k => laws_sameInts.f k xs xs) true := by
  unfold laws_sameInts.f
  refine Ev.pos rfl ?_
  refine ev_fold (fun k i => laws_sameInts.l0 k xs xs (i : Int)) xs.length ?_ ?_
  · intro i hi hn
    refine Ev.step (fun k => by simp only [laws_sameInts.l0]; rfl) ?_
    rw [wrap_succ hi (by omega)]
    exact Ev.pos (by omega) (Ev.pos (by omega) (Ev.pos (by omega) (Ev.pos (by first | rfl | trivial) hn)))
  · refine Ev.step (fun k => by simp only [laws_sameInts.l0]; rfl) ?_
    exact Ev.neg (by omega) (ev_val rfl)
end
section
variable {plan late : List Int} {links : List S52} {wait : Int}
def LinkTo (plan : List Int) (links : List S52) (wait : Int) (late : List Int) (a b : Int) : Prop := ∃ j, j < links.length ∧ causeP plan links wait late b.toNat j ∧ (lk links j).f0 = a
def GoodC (plan : List Int) (links : List S52) (wait : Int) (late : List Int) (xs : List Int) : Prop := (∀ i : Nat, i < xs.length → 0 ≤ at_ xs (i : Int) ∧ at_ xs (i : Int) < plan.length) ∧ ∀ i : Nat, i + 1 < xs.length → LinkTo plan links wait late (at_ xs (i : Int)) (at_ xs ((i + 1 : Nat) : Int))
theorem at_cons0 (a : Int) (xs : List Int) : at_ (a :: xs) ((0 : Nat) : Int) = a := rfl
theorem at_consS (a : Int) (xs : List Int) (i : Nat) : at_ (a :: xs) ((i + 1 : Nat) : Int) = at_ xs (i : Int) := by
  unfold at_
  rw [Int.toNat_natCast, Int.toNat_natCast, List.getD_cons_succ]
theorem chain_good (hw : WorkP ⟨plan, links, wait⟩) (e : Nat) (acc r : List Int) (hr : ChainR plan links wait late e acc r) : e < plan.length → GoodC plan links wait late ((e : Int) :: acc) →
    GoodC plan links wait late r ∧ 1 ≤ r.length ∧ ownT plan links wait late (at_ r 0).toNat = at_ plan (at_ r 0) ∧ at_ r ((r.length - 1 : Nat) : Int) = at_ ((e : Int) :: acc) ((acc.length : Nat) : Int) := by
  induction hr with
  | stop e acc h =>
    intro he hg
    exact ⟨hg, by simp, h, by simp only [List.length_cons]; rfl⟩
  | go e j acc r h hj hc hm hr ih =>
    intro he hg
    have hq := lk_ok hw j hj
    unfold LinkP at hq
    have hf := hc.1
    have e0 : (((lk links j).f0.toNat : Nat) : Int) = (lk links j).f0 := by omega
    have hg2 : GoodC plan links wait late (((lk links j).f0.toNat : Int) :: (e : Int) :: acc) := by
      refine ⟨fun i hi => ?_, fun i hi => ?_⟩
      · cases i with
        | zero => rw [at_cons0]; omega
        | succ i => rw [at_consS]; exact hg.1 i (by simpa using hi)
      · cases i with
        | zero =>
          rw [at_cons0, at_consS, at_cons0]
          exact ⟨j, hj, by rw [Int.toNat_natCast]; exact hc, e0.symm⟩
        | succ i => rw [at_consS, at_consS]; exact hg.2 i (by simpa using hi)
    obtain ⟨a1, a2, a3, a4⟩ := ih (by omega) hg2
    refine ⟨a1, a2, a3, a4.trans ?_⟩
    simp only [List.length_cons]
    exact at_consS _ _ _
end
theorem pure_FnChain : Pure := by
  intro code h
  refine Ev.rounds ?_
  unfold laws_FnChain.f laws_big.f
  refine Ev.opt rfl (Ev.ite (fun _ => ev_val rfl) (fun hbig => ?_))
  have hC : CodeP code := code_ok h (fun g => hbig (decide_eq_true g))
  obtain ⟨⟨⟨plan, links, wait⟩, late⟩, e1, hw, n1, n14, l1, l2⟩ := evx_DrawRightWork code hC
  dsimp only at hw n1 n14 l1 l2
  refine Ev.bind e1 ?_
  dsimp only
  have hlk := hw.1.2.1
  have hwt := hw.1.2.2
  dsimp only at hlk hwt
  have hl : LateP ⟨plan, links, wait⟩ late := ⟨l1, fun i hi => by have := l2 i hi; omega⟩
  have tl := timesTo_length plan links wait late plan.length
  have tb := timesTo_bd hw hl plan.length (Nat.le_refl _)
  have kl_ := (play_len plan links wait late).1
  refine Ev.bind (ev_impl_Times hw hl) (Ev.bind (ev_impl_Kept hw hl n1) (Ev.pos (by omega) (Ev.pos (by omega) ?_)))
  refine ev_fold (fun k e => laws_FnChain.l0 k (⟨plan, links, wait⟩, late) (timesTo plan links wait late plan.length) (playOf plan links wait late).2 (e : Int)) plan.length ?_ ?_
  · intro e he hn
    obtain ⟨r, hO, hrl⟩ := chainO_ex plan links wait late (e : Int)
    have hR : ChainR plan links wait late e [] r := by
      rcases hO with ⟨_, g⟩ | ⟨g, _⟩
      · rwa [Int.toNat_natCast] at g
      · exact absurd ⟨hw, hl, by omega, by omega⟩ g
    obtain ⟨g1, g2, g3, g4⟩ := chain_good hw e [] r hR he ⟨fun i hi => by
      obtain rfl : i = 0 := by simpa using hi
      rw [at_cons0]; omega, fun i hi => absurd hi (by simp)⟩
    have g4 : at_ r ((r.length - 1 : Nat) : Int) = (e : Int) := g4
    have r0 := g1.1 0 (by omega)
    have r0 : 0 ≤ at_ r 0 ∧ at_ r 0 < plan.length := r0
    have hp0 := at_bd plan hw.2.1 (at_ r 0) r0.1 r0.2
    have hl0 := all_idx (p := fun x => 0 ≤ x ∧ x ≤ 11) l2 r0.1 (by omega)
    have ht0 := tb (at_ r 0) r0.1 r0.2
    have T0 : at_ (timesTo plan links wait late plan.length) (at_ r 0) = at_ plan (at_ r 0) + at_ late (at_ r 0) := by
      unfold ownT playOf at g3
      rw [show (((at_ r 0).toNat : Nat) : Int) = at_ r 0 by omega] at g3
      dsimp only at g3
      omega
    refine Ev.step (fun k => by simp only [laws_FnChain.l0]; rfl) ?_
    refine Ev.pos (by omega) (Ev.bind (ev_impl_Chain plan late links wait (e : Int) r (by omega) (by omega) hO) ?_)
    rw [wrap_id (x := (r.length : Int) - 1) (by omega) (by omega), wrap_id (x := at_ plan (at_ r 0) + at_ late (at_ r 0)) (by omega) (by omega), show (r.length : Int) - 1 = ((r.length - 1 : Nat) : Int) by omega]
    refine Ev.neg (by omega) (Ev.pos (by omega) (Ev.pos (by omega) (Ev.pos g4 (Ev.bind (ev_spec_Chain plan late links wait (e : Int) r (by omega) (by omega) hO) (Ev.bind (ev_sameInts r (by omega)) (Ev.pos rfl (Ev.pos (by omega) (Ev.pos (by omega) (Ev.pos (by omega) (Ev.pos (by omega) (Ev.pos (by omega) (Ev.pos T0 ?_))))))))))))
    rw [← T0]
    have key := ev_fold (fun k m => laws_FnChain.l1 k (⟨plan, links, wait⟩, late) (timesTo plan links wait late plan.length) (playOf plan links wait late).2 (e : Int) r (at_ (timesTo plan links wait late plan.length) (at_ r (m : Int))) ((m + 1 : Nat) : Int)) (r.length - 1) (r := true) ?_ ?_
    · exact key
    · intro m hm hn1
      refine Ev.step (fun k => by simp only [laws_FnChain.l1]; rfl) ?_
      refine Ev.pos (by omega) ?_
      obtain ⟨j0, hj0, hc, hf0⟩ := g1.2 m (by omega)
      have ra := g1.1 m (by omega)
      have rb := g1.1 (m + 1) (by omega)
      have hq0 := lk_ok hw j0 hj0
      unfold LinkP at hq0
      obtain ⟨c1, c2, c3⟩ := hc
      rw [show (((at_ r ((m + 1 : Nat) : Int)).toNat : Nat) : Int) = at_ r ((m + 1 : Nat) : Int) by omega] at c1
      have ta := tb (at_ r (m : Int)) ra.1 ra.2
      have tbb := tb (at_ r ((m + 1 : Nat) : Int)) rb.1 rb.2
      have hlb := all_idx (p := fun x => 0 ≤ x ∧ x ≤ 11) l2 rb.1 (by omega)
      have ownb : ownT plan links wait late (at_ r ((m + 1 : Nat) : Int)).toNat = at_ (timesTo plan links wait late plan.length) (at_ r ((m + 1 : Nat) : Int)) - at_ late (at_ r ((m + 1 : Nat) : Int)) := by
        unfold ownT playOf
        rw [show (((at_ r ((m + 1 : Nat) : Int)).toNat : Nat) : Int) = at_ r ((m + 1 : Nat) : Int) by omega]
      have c3 : at_ (timesTo plan links wait late plan.length) (at_ r (m : Int)) + (lk links j0).f2 = at_ (timesTo plan links wait late plan.length) (at_ r ((m + 1 : Nat) : Int)) - at_ late (at_ r ((m + 1 : Nat) : Int)) := by
        have c4 : readyT (timesTo plan links wait late plan.length) (lk links j0) = ownT plan links wait late (at_ r ((m + 1 : Nat) : Int)).toNat := c3
        rw [ownb] at c4
        unfold readyT at c4
        rw [hf0] at c4
        exact c4
      refine Evx.ev (evx_loop (fun k q (x : Int) => laws_FnChain.l2 k (⟨plan, links, wait⟩, late) (timesTo plan links wait late plan.length) (playOf plan links wait late).2 (e : Int) r (at_ (timesTo plan links wait late plan.length) (at_ r (m : Int))) ((m + 1 : Nat) : Int) x (q : Int)) links.length (fun q x => -1 ≤ x ∧ x ≤ (lk links j0).f2 ∧ (j0 < q → x = (lk links j0).f2)) _ ?_ ?_ (-1) ⟨by omega, by omega, fun g => by omega⟩)
      · intro q x hq ⟨i1, i2, i3⟩ hn2
        refine Evx.step (fun k => by simp only [laws_FnChain.l2]; rfl) ?_
        have e0 : at_ links (q : Int) = lk links q := rfl
        rw [wrap_succ hq (by omega), e0, wrap_id (x := ((m + 1 : Nat) : Int) - 1) (by omega) (by omega), show ((m + 1 : Nat) : Int) - 1 = (m : Int) by omega]
        have skip : ¬ ((lk links q).f0 = at_ r (m : Int) ∧ (lk links q).f1 = at_ r ((m + 1 : Nat) : Int) ∧ at_ (playOf plan links wait late).2 (q : Int) = true) → Evx (fun k => laws_FnChain.l2 k (⟨plan, links, wait⟩, late) (timesTo plan links wait late plan.length) (playOf plan links wait late).2 (e : Int) r (at_ (timesTo plan links wait late plan.length) (at_ r (m : Int))) ((m + 1 : Nat) : Int) x ((q + 1 : Nat) : Int)) (fun x => x = true) := fun hno =>
          hn2 x ⟨i1, i2, fun g => by
            rcases Nat.lt_or_ge j0 q with w | w
            · exact i3 w
            · obtain rfl : j0 = q := by omega
              exact absurd ⟨hf0, c1, c2⟩ hno⟩
        refine Evx.pos (by omega) (Evx.pos (by omega) (Evx.pos (by omega) (Evx.pos (by omega) (Evx.ite (fun p1 => ?_) (fun p1 => skip fun g => p1 g.1)))))
        refine Evx.pos (by omega) (Evx.pos (by omega) (Evx.ite (fun p2 => ?_) (fun p2 => skip fun g => p2 g.2.1)))
        refine Evx.pos (by omega) (Evx.ite (fun p3 => ?_) (fun p3 => skip fun g => p3 g.2.2))
        have hk := kept_own (late := late) hw hq p3
        rw [p2, ownb] at hk
        unfold readyT at hk
        rw [p1] at hk
        refine Evx.ite (fun p4 => hn2 _ ⟨by omega, by omega, fun g => ?_⟩) (fun p4 => hn2 _ ⟨i1, i2, fun g => ?_⟩)
        · rcases Nat.lt_or_ge j0 q with w | w
          · have := i3 w; omega
          · obtain rfl : j0 = q := by omega
            rfl
        · rcases Nat.lt_or_ge j0 q with w | w
          · exact i3 w
          · obtain rfl : j0 = q := by omega
            omega
      · intro x ⟨i1, i2, i3⟩
        have i3 := i3 hj0
        refine Evx.step (fun k => by simp only [laws_FnChain.l2]; rfl) ?_
        rw [i3, wrap_id (x := at_ (timesTo plan links wait late plan.length) (at_ r (m : Int)) + (lk links j0).f2) (by omega) (by omega), wrap_id (x := at_ (timesTo plan links wait late plan.length) (at_ r (m : Int)) + (lk links j0).f2 + at_ late (at_ r ((m + 1 : Nat) : Int))) (by omega) (by omega), wrap_id (x := ((m + 1 : Nat) : Int) + 1) (by omega) (by omega), show ((m + 1 : Nat) : Int) + 1 = ((m + 1 + 1 : Nat) : Int) by omega]
        have eT : at_ (timesTo plan links wait late plan.length) (at_ r (m : Int)) + (lk links j0).f2 + at_ late (at_ r ((m + 1 : Nat) : Int)) = at_ (timesTo plan links wait late plan.length) (at_ r ((m + 1 : Nat) : Int)) := by omega
        rw [eT]
        exact Evx.neg (by omega) (Evx.neg (by omega) (Evx.pos (by omega) (Evx.pos (by omega) (Evx.pos (by omega) (Evx.pos (by omega) (Evx.pos (by omega) (Evx.pos rfl (Evx.of hn1 rfl))))))))
    · refine Ev.step (fun k => by simp only [laws_FnChain.l1]; rfl) ?_
      rw [wrap_succ he (by omega)]
      exact Ev.neg (by omega) hn
  · refine Ev.step (fun k => by simp only [laws_FnChain.l0]; rfl) ?_
    exact Ev.neg (by omega) (ev_val rfl)
end Go.Proofs.Ytomkglmlhoaniaa.Fns
