/- The pure statement of the law FnExactLegsOk: its function, told by the engine, gives true for every input. -/
import Derived.Test.YtjfjifnmfnlfoaaSFnExactLegsOk
namespace Go.Proofs.Ytjfjifnmfnlfoaa.Fns
open Go.RowKit Go.WideShapes Go.Proofs.Ytjfjifnmfnlfoaa.Eng
set_option linter.unusedVariables false
set_option linter.unusedSimpArgs false
/-- From some number of rounds on there is one answer, and C holds of it. -/
def Evx {α : Type} (g : Nat → Option α) (C : α → Prop) : Prop := ∃ r, Ev g r ∧ C r
section
variable {α β : Type}
theorem Evx.val {a : α} {C : α → Prop} (h : C a) : Evx (fun _ => some a) C := ⟨a, Ev.now a, h⟩
theorem Evx.of {g : Nat → Option α} {r : α} {C : α → Prop} (h : Ev g r) (hc : C r) : Evx g C := ⟨r, h, hc⟩
theorem Evx.bind {g : Nat → Option α} {f : Nat → α → Option β} {P : α → Prop} {C : β → Prop} (h : Evx g P) (k : ∀ a, P a → Evx (fun n => f n a) C) : Evx (fun n => (g n).bind (f n)) C := by
  obtain ⟨a, h1, h2⟩ := h
  obtain ⟨r, h3, h4⟩ := k a h2
  exact ⟨r, Ev.bind h1 h3, h4⟩
theorem Evx.bindv {g : Nat → Option α} {f : Nat → α → Option β} {a : α} {C : β → Prop} (h : Ev g a) (k : Evx (fun n => f n a) C) : Evx (fun n => (g n).bind (f n)) C := by
  obtain ⟨r, h3, h4⟩ := k
  exact ⟨r, Ev.bind h h3, h4⟩
theorem Evx.opt {g : Option α} {f : Nat → α → Option β} {a : α} {C : β → Prop} (h : g = some a) (k : Evx (fun n => f n a) C) : Evx (fun n => g.bind (f n)) C := by subst h; exact k
theorem Evx.step {g f : Nat → Option α} {C : α → Prop} (h : ∀ k, g (k + 1) = f k) (k : Evx f C) : Evx g C := by
  obtain ⟨r, h3, h4⟩ := k
  exact ⟨r, Ev.step h h3, h4⟩
theorem Evx.congr {g f : Nat → Option α} {C : α → Prop} (h : ∀ k, g k = f k) (k : Evx f C) : Evx g C := by
  obtain ⟨r, h3, h4⟩ := k
  exact ⟨r, Ev.congr h h3, h4⟩
theorem Evx.ite {c : Prop} [Decidable c] {g f : Nat → Option α} {C : α → Prop} (h : c → Evx g C) (h' : ¬ c → Evx f C) : Evx (fun k => if c then g k else f k) C := by
  by_cases hc : c
  · simp only [if_pos hc]; exact h hc
  · simp only [if_neg hc]; exact h' hc
theorem Evx.pos {c : Prop} [Decidable c] {g f : Nat → Option α} {C : α → Prop} (hc : c) (h : Evx g C) : Evx (fun k => if c then g k else f k) C := by simp only [if_pos hc]; exact h
theorem Evx.neg {c : Prop} [Decidable c] {g f : Nat → Option α} {C : α → Prop} (hc : ¬ c) (h : Evx f C) : Evx (fun k => if c then g k else f k) C := by simp only [if_neg hc]; exact h
theorem Evx.mono {g : Nat → Option α} {C D : α → Prop} (h : Evx g C) (hd : ∀ r, C r → D r) : Evx g D := by
  obtain ⟨r, h1, h2⟩ := h
  exact ⟨r, h1, hd r h2⟩
theorem Evx.ev {g : Nat → Option α} {r : α} (h : Evx g (fun x => x = r)) : Ev g r := by
  obtain ⟨a, h1, rfl⟩ := h
  exact h1
theorem Ev.uniq {g : Nat → Option α} {a b : α} (h : Ev g a) (h' : Ev g b) : a = b := by
  obtain ⟨K, hK⟩ := h
  obtain ⟨K', hK'⟩ := h'
  have e1 := hK (max K K') (by omega)
  have e2 := hK' (max K K') (by omega)
  rw [e1] at e2
  exact Option.some.inj e2
end
/-- A loop that counts up, with what holds of its state at each place. -/
theorem evx_loop {R σ : Type} (G : Nat → Nat → σ → Option R) (n : Nat) (Inv : Nat → σ → Prop) (C : R → Prop)
    (hstep : ∀ i s, i < n → Inv i s → (∀ s', Inv (i + 1) s' → Evx (fun k => G k (i + 1) s') C) → Evx (fun k => G k i s) C)
    (hend : ∀ s, Inv n s → Evx (fun k => G k n s) C) : ∀ s, Inv 0 s → Evx (fun k => G k 0 s) C := by
  have key : ∀ d i, i + d = n → ∀ s, Inv i s → Evx (fun k => G k i s) C := by
    intro d
    induction d with
    | zero => intro i hi s hs; obtain rfl : i = n := by omega
              exact hend s hs
    | succ d ih => intro i hi s hs; exact hstep i s (by omega) hs (fun s' hs' => ih (i + 1) (by omega) s' hs')
  exact fun s hs => key n 0 (by omega) s hs
-- counting, taking, placing
theorem at_getD {α : Type} [Inhabited α] (xs : List α) (i : Int) : at_ xs i = xs.getD i.toNat default := rfl
theorem at_int {α : Type} [Inhabited α] {xs : List α} {i : Int} (h0 : 0 ≤ i) (h1 : i < (xs.length : Int)) : at_ xs i = xs[i.toNat]'(by omega) := by
  have h : i.toNat < xs.length := by omega
  rw [at_getD, List.getD_eq_getElem?_getD, List.getElem?_eq_getElem h]
  rfl
theorem at_mem {α : Type} [Inhabited α] {xs : List α} {i : Int} (h0 : 0 ≤ i) (h1 : i < (xs.length : Int)) : at_ xs i ∈ xs := by
  rw [at_int h0 h1]; exact List.getElem_mem _
theorem all_at {α : Type} [Inhabited α] {xs : List α} {p : α → Prop} (h : ∀ y, y ∈ xs → p y) {i : Int} (h0 : 0 ≤ i) (h1 : i < (xs.length : Int)) : p (at_ xs i) := h _ (at_mem h0 h1)
theorem all_idx {α : Type} [Inhabited α] {xs : List α} {p : α → Prop} (h : ∀ i, i < xs.length → p (at_ xs (i : Int))) {i : Int} (h0 : 0 ≤ i) (h1 : i < (xs.length : Int)) : p (at_ xs i) := by
  have := h i.toNat (by omega)
  rwa [show ((i.toNat : Nat) : Int) = i by omega] at this
theorem all_iff {α : Type} [Inhabited α] {xs : List α} {p : α → Prop} : (∀ i, i < xs.length → p (at_ xs (i : Int))) ↔ ∀ y, y ∈ xs → p y := by
  refine ⟨fun h y hy => ?_, fun h i hi => h _ (at_mem (by omega) (by omega))⟩
  obtain ⟨i, hi, rfl⟩ := List.getElem_of_mem hy
  have := h i hi
  rwa [at_nat hi] at this
theorem take_succ' {α : Type} {xs : List α} {i : Nat} (h : i < xs.length) : xs.take (i + 1) = xs.take i ++ [xs[i]] := List.take_succ_eq_append_getElem h
theorem count_take {α : Type} (p : α → Bool) {xs : List α} {i : Nat} (h : i < xs.length) : (xs.take (i + 1)).countP p = (xs.take i).countP p + (if p xs[i] then 1 else 0) := by
  rw [take_succ' h, List.countP_append, List.countP_singleton]
theorem count_le {α : Type} (p : α → Bool) (xs : List α) : xs.countP p ≤ xs.length := List.countP_le_length
theorem set_take {α : Type} {xs : List α} {i j : Nat} (v : α) (h : j < xs.length) : (xs.set i v)[j]'(by rw [List.length_set]; exact h) = if i = j then v else xs[j] := by rw [List.getElem_set]
theorem at_set_ne {α : Type} [Inhabited α] {xs : List α} {i : Nat} {j : Int} {v : α} (h0 : 0 ≤ j) (h : (i : Int) ≠ j) : at_ (xs.set i v) j = at_ xs j := by
  rw [at_getD, at_getD, List.getD_eq_getElem?_getD, List.getD_eq_getElem?_getD, List.getElem?_set_ne (by omega)]
theorem at_set_eq {α : Type} [Inhabited α] {xs : List α} {i : Nat} {v : α} (h : i < xs.length) : at_ (xs.set i v) (i : Int) = v := by
  rw [at_getD, List.getD_eq_getElem?_getD, Int.toNat_natCast, List.getElem?_set_self h]; rfl
theorem at_app_left {α : Type} [Inhabited α] (a b : List α) {i : Int} (h0 : 0 ≤ i) (h : i < (a.length : Int)) : at_ (a ++ b) i = at_ a i := by
  rw [at_getD, at_getD, List.getD_eq_getElem?_getD, List.getD_eq_getElem?_getD, List.getElem?_append_left (by omega)]
theorem at_app_right {α : Type} [Inhabited α] (a b : List α) {i : Int} (h : (a.length : Int) ≤ i) : at_ (a ++ b) i = at_ b (i - a.length) := by
  rw [at_getD, at_getD, List.getD_eq_getElem?_getD, List.getD_eq_getElem?_getD, List.getElem?_append_right (by omega)]
  congr 2; omega
theorem at_app_last {α : Type} [Inhabited α] (a : List α) (v : α) : at_ (a ++ [v]) (a.length : Int) = v := by
  rw [at_app_right a [v] (by omega), Int.sub_self]; rfl
theorem at_take {α : Type} [Inhabited α] (xs : List α) {n : Nat} {i : Int} (h0 : 0 ≤ i) (h : i < n) : at_ (xs.take n) i = at_ xs i := by
  rw [at_getD, at_getD, List.getD_eq_getElem?_getD, List.getD_eq_getElem?_getD, List.getElem?_take_of_lt (by omega)]
theorem at_rep {α : Type} [Inhabited α] (n : Nat) (v : α) {i : Int} (h0 : 0 ≤ i) (h : i < n) : at_ (List.replicate n v) i = v := by
  rw [at_int h0 (by simpa using h)]; simp
theorem tmod_of {a : Int} (b : Int) (h : 0 ≤ a) : a.tmod b = a % b := Int.tmod_eq_emod_of_nonneg h
theorem tdiv_of {a : Int} (b : Int) (h : 0 ≤ a) : a.tdiv b = a / b := Int.tdiv_eq_ediv_of_nonneg h
theorem range_at {n : Nat} {f : Nat → Int} {i : Int} (h0 : 0 ≤ i) (h : i < n) : at_ ((List.range n).map f) i = f i.toNat := by
  rw [at_int h0 (by simpa using h)]; simp
theorem range_set {α : Type} (n : Nat) (f : Nat → α) (i : Nat) (v : α) : ((List.range n).map f).set i v = (List.range n).map (fun j => if j = i then v else f j) := by
  refine List.ext_getElem (by simp) fun j h1 h2 => ?_
  simp only [List.getElem_set, List.getElem_map, List.getElem_range]
  by_cases e : i = j
  · rw [if_pos e, if_pos e.symm]
  · rw [if_neg e, if_neg (fun g => e g.symm)]
theorem range_congr {α : Type} {n : Nat} {f g : Nat → α} (h : ∀ j, j < n → f j = g j) : (List.range n).map f = (List.range n).map g :=
  List.map_congr_left fun j hj => h j (List.mem_range.1 hj)
/-- A loop that counts up and stops where P does not hold. -/
theorem ev_scan {R : Type} (n : Nat) (P : Nat → Prop) (bad : R) (G : Nat → Nat → Option R) {r : R} (hr : (∃ i, i < n ∧ ¬ P i) → r = bad)
    (hstep : ∀ i, i < n → (∀ j, j < i → P j) → (P i → Ev (fun k => G k (i + 1)) r) → (¬ P i → r = bad) → Ev (fun k => G k i) r)
    (hend : (∀ i, i < n → P i) → Ev (fun k => G k n) r) : Ev (fun k => G k 0) r := by
  have key : ∀ d i, i + d = n → (∀ j, j < i → P j) → Ev (fun k => G k i) r := by
    intro d
    induction d with
    | zero => intro i hi hp; obtain rfl : i = n := by omega
              exact hend hp
    | succ d ih =>
      intro i hi hp
      refine hstep i (by omega) hp (fun h => ih (i + 1) (by omega) fun j hj => ?_) (fun h => hr ⟨i, by omega, h⟩)
      rcases Nat.lt_or_ge j i with g | g
      · exact hp j g
      · obtain rfl : j = i := by omega
        exact h
  exact key n 0 (by omega) (fun j hj => absurd hj (by omega))
theorem bool_eq {b : Bool} {P : Prop} (hb : b = true ↔ P) (h : P) : b = true := hb.2 h
theorem not_all {n : Nat} {P : Nat → Prop} (h : ¬ ∀ i, i < n → P i) : ∃ i, i < n ∧ ¬ P i := by
  classical
  exact Classical.byContradiction fun g => h fun i hi => Classical.byContradiction fun q => g ⟨i, hi, q⟩
theorem mem_take_iff {α : Type} [Inhabited α] {xs : List α} {n : Nat} {v : α} (h : n ≤ xs.length) : v ∈ xs.take n ↔ ∃ i, i < n ∧ at_ xs (i : Int) = v := by
  constructor
  · intro hv
    obtain ⟨i, hi, e⟩ := List.getElem_of_mem hv
    rw [List.length_take] at hi
    rw [List.getElem_take] at e
    exact ⟨i, by omega, by rw [at_nat (by omega)]; exact e⟩
  · rintro ⟨i, hi, e⟩
    rw [at_nat (by omega)] at e
    rw [← e]
    exact List.mem_take_iff_getElem.2 ⟨i, by omega, rfl⟩
theorem mem_at {α : Type} [Inhabited α] {xs : List α} {v : α} : v ∈ xs ↔ ∃ i, i < xs.length ∧ at_ xs (i : Int) = v := by
  have := mem_take_iff (xs := xs) (v := v) (Nat.le_refl _)
  rwa [List.take_length] at this
theorem sz_CallS (x : (List S107)) (left : Int) (h0 : 0 ≤ left) (h1 : left ≤ 1048576) (ho : (x.length ≤ maxLen ∧ ∀ y ∈ x, ok107 y)) : Evx (fun k => laws_szCallS.f x left) (fun r => r < 0 ∨ (0 ≤ r ∧ r ≤ left ∧ (x.length ≤ 1048576))) := by
  have hm : maxLen = 9223372036854775807 := rfl
  unfold laws_szCallS.f
  obtain ⟨hl, hy⟩ := ho
  rw [wrap_id (by omega) (by omega)]
  refine Evx.ite (fun h => Evx.val (.inl (by decide))) (fun h => ?_)
  exact Evx.val (.inr ⟨by omega, by omega, by omega⟩)
theorem sz_Trip (x : S98) (left : Int) (h0 : 0 ≤ left) (h1 : left ≤ 1048576) (ho : ok98 x) : Evx (fun k => laws_szTrip.f x left) (fun r => r < 0 ∨ (0 ≤ r ∧ r ≤ left ∧ (x.f0.size ≤ 1048576 ∧ (x.f1.length ≤ 1048576)))) := by
  have hm : maxLen = 9223372036854775807 := rfl
  unfold laws_szTrip.f
  unfold ok98 at ho
  obtain ⟨o0, o1⟩ := ho
  rw [wrap_id (x := left - (x.f0.size : Int)) (by omega) (by omega)]
  refine Evx.ite (fun h => Evx.val (.inl (by decide))) (fun h0_ => ?_)
  refine Evx.bind (sz_CallS x.f1 (left - (x.f0.size : Int)) (by omega) (by omega) o1) (fun r1 hr1 => ?_)
  refine Evx.ite (fun h => Evx.val (.inl (by decide))) (fun h1_ => ?_)
  obtain ⟨p1, q1, b1⟩ := hr1.resolve_left h1_
  exact Evx.val (.inr ⟨by omega, by omega, (by omega), b1⟩)
theorem sz_TripS (x : (List S98)) (left : Int) (h0 : 0 ≤ left) (h1 : left ≤ 1048576) (ho : (x.length ≤ maxLen ∧ ∀ y ∈ x, ok98 y)) : Evx (fun k => laws_szTripS.f k x left) (fun r => r < 0 ∨ (0 ≤ r ∧ r ≤ left ∧ (x.length ≤ 1048576 ∧ ∀ y ∈ x, (y.f0.size ≤ 1048576 ∧ (y.f1.length ≤ 1048576))))) := by
  have hm : maxLen = 9223372036854775807 := rfl
  unfold laws_szTripS.f
  obtain ⟨hl, hy⟩ := ho
  rw [wrap_id (by omega) (by omega)]
  refine Evx.ite (fun h => Evx.val (.inl (by decide))) (fun h => ?_)
  refine evx_loop (fun k i (l : Int) => laws_szTripS.l0 k x l (i : Int)) x.length (fun i l => 0 ≤ l ∧ l ≤ left - x.length ∧ ∀ j (h : j < x.length), j < i → (fun y => (y.f0.size ≤ 1048576 ∧ (y.f1.length ≤ 1048576))) x[j]) _ ?_ ?_ _ ⟨by omega, by omega, fun j _ h => absurd h (by omega)⟩
  · intro i l hi ⟨a1, a2, a3⟩ hn
    refine Evx.step (fun k => by simp only [laws_szTripS.l0]; rfl) ?_
    refine Evx.pos (by omega) (Evx.pos (by omega) ?_)
    rw [at_nat hi]
    refine Evx.bind (sz_Trip x[i] l a1 (by omega) (hy _ (List.getElem_mem hi))) (fun r hr => ?_)
    rw [wrap_succ hi (by omega)]
    refine Evx.ite (fun h => Evx.val (.inl (by decide))) (fun h => ?_)
    obtain ⟨b1, b2, b3⟩ := hr.resolve_left h
    refine hn r ⟨b1, by omega, fun j hj hij => ?_⟩
    rcases Nat.lt_or_ge j i with g | g
    · exact a3 j hj g
    · obtain rfl : j = i := by omega
      exact b3
  · intro l ⟨a1, a2, a3⟩
    refine Evx.step (fun k => by simp only [laws_szTripS.l0]; rfl) ?_
    refine Evx.neg (by omega) (Evx.val (.inr ⟨a1, by omega, by omega, fun y hy => ?_⟩))
    obtain ⟨j, hj, rfl⟩ := List.getElem_of_mem hy
    exact a3 j hj hj
theorem sz_LegS (x : (List S102)) (left : Int) (h0 : 0 ≤ left) (h1 : left ≤ 1048576) (ho : (x.length ≤ maxLen ∧ ∀ y ∈ x, ok102 y)) : Evx (fun k => laws_szLegS.f x left) (fun r => r < 0 ∨ (0 ≤ r ∧ r ≤ left ∧ (x.length ≤ 1048576))) := by
  have hm : maxLen = 9223372036854775807 := rfl
  unfold laws_szLegS.f
  obtain ⟨hl, hy⟩ := ho
  rw [wrap_id (by omega) (by omega)]
  refine Evx.ite (fun h => Evx.val (.inl (by decide))) (fun h => ?_)
  exact Evx.val (.inr ⟨by omega, by omega, by omega⟩)
theorem to_Call (x : S107) (hb : True) : Ev (fun k => laws_toCall.f x) x := by
  unfold laws_toCall.f
  exact ev_val rfl
theorem to_CallS (x : (List S107)) (hb : (x.length ≤ 1048576)) : Ev (fun k => laws_toCallS.f k x) x := by
  unfold laws_toCallS.f
  have hl := hb
  refine Ev.pos (by omega) (Ev.pos (by omega) ?_)
  rw [Int.toNat_natCast]
  refine ev_fill x id _ (fun k s i => laws_toCallS.l0 k x s (i : Int)) ?_ ?_
  · intro i hi s hs hn
    refine Ev.step (fun k => by simp only [laws_toCallS.l0]; rfl) ?_
    refine Ev.pos (by omega) (Ev.pos (by omega) ?_)
    rw [at_nat hi]
    refine Ev.bind (to_Call x[i] trivial) ?_
    refine Ev.pos (by omega) ?_
    rw [Int.toNat_natCast, wrap_succ hi (by omega)]
    exact hn
  · refine Ev.step (fun k => by simp only [laws_toCallS.l0]; rfl) ?_
    refine Ev.neg (by omega) (ev_val (List.map_id x))
abbrev cv98_105 (x : S98) : S105 := ⟨x.f0, x.f1⟩
theorem bd_cv98_105 (x : S98) (h : (x.f0.size ≤ 1048576 ∧ (x.f1.length ≤ 1048576))) : ((cv98_105 x).f0.size ≤ 1048576 ∧ ((cv98_105 x).f1.length ≤ 1048576)) := ⟨h.1, h.2⟩
theorem to_Trip (x : S98) (hb : (x.f0.size ≤ 1048576 ∧ (x.f1.length ≤ 1048576))) : Ev (fun k => laws_toTrip.f k x) (cv98_105 x) := by
  unfold laws_toTrip.f
  refine Ev.bind (to_CallS x.f1 hb.2) ?_
  exact ev_val rfl
theorem to_TripS (x : (List S98)) (hb : (x.length ≤ 1048576 ∧ ∀ y ∈ x, (y.f0.size ≤ 1048576 ∧ (y.f1.length ≤ 1048576)))) : Ev (fun k => laws_toTripS.f k x) (x.map cv98_105) := by
  unfold laws_toTripS.f
  obtain ⟨hl, hy⟩ := hb
  refine Ev.pos (by omega) (Ev.pos (by omega) ?_)
  rw [Int.toNat_natCast]
  refine ev_fill x cv98_105 _ (fun k s i => laws_toTripS.l0 k x s (i : Int)) ?_ ?_
  · intro i hi s hs hn
    refine Ev.step (fun k => by simp only [laws_toTripS.l0]; rfl) ?_
    refine Ev.pos (by omega) (Ev.pos (by omega) ?_)
    rw [at_nat hi]
    refine Ev.bind (to_Trip x[i] (hy _ (List.getElem_mem hi))) ?_
    refine Ev.pos (by omega) ?_
    rw [Int.toNat_natCast, wrap_succ hi (by omega)]
    exact hn
  · refine Ev.step (fun k => by simp only [laws_toTripS.l0]; rfl) ?_
    refine Ev.neg (by omega) (ev_val rfl)
theorem to_Leg (x : S102) (hb : True) : Ev (fun k => laws_toLeg.f x) x := by
  unfold laws_toLeg.f
  exact ev_val rfl
theorem to_LegS (x : (List S102)) (hb : (x.length ≤ 1048576)) : Ev (fun k => laws_toLegS.f k x) x := by
  unfold laws_toLegS.f
  have hl := hb
  refine Ev.pos (by omega) (Ev.pos (by omega) ?_)
  rw [Int.toNat_natCast]
  refine ev_fill x id _ (fun k s i => laws_toLegS.l0 k x s (i : Int)) ?_ ?_
  · intro i hi s hs hn
    refine Ev.step (fun k => by simp only [laws_toLegS.l0]; rfl) ?_
    refine Ev.pos (by omega) (Ev.pos (by omega) ?_)
    rw [at_nat hi]
    refine Ev.bind (to_Leg x[i] trivial) ?_
    refine Ev.pos (by omega) ?_
    rw [Int.toNat_natCast, wrap_succ hi (by omega)]
    exact hn
  · refine Ev.step (fun k => by simp only [laws_toLegS.l0]; rfl) ?_
    refine Ev.neg (by omega) (ev_val (List.map_id x))
theorem eq_Call (x : S107) (hb : True) : Ev (fun k => laws_eqCall.f x x) true := by
  unfold laws_eqCall.f
  refine Ev.pos rfl ?_
  refine Ev.pos rfl ?_
  refine Ev.pos rfl ?_
  exact ev_val rfl
theorem eq_CallS (x : (List S107)) (hb : (x.length ≤ 1048576)) : Ev (fun k => laws_eqCallS.f k x x) true := by
  unfold laws_eqCallS.f
  have hl := hb
  refine Ev.pos rfl ?_
  refine ev_fold (fun k i => laws_eqCallS.l0 k x x (i : Int)) x.length ?_ ?_
  · intro i hi hn
    refine Ev.step (fun k => by simp only [laws_eqCallS.l0]; rfl) ?_
    refine Ev.pos (by omega) (Ev.pos (by omega) ?_)
    try refine Ev.pos (by omega) ?_
    rw [at_nat hi]
    refine Ev.bind (eq_Call x[i] trivial) ?_
    refine Ev.pos (by first | rfl | simp) ?_
    rw [wrap_succ hi (by omega)]
    exact hn
  · refine Ev.step (fun k => by simp only [laws_eqCallS.l0]; rfl) ?_
    exact Ev.neg (by omega) (ev_val rfl)
theorem eq_Trip (x : S105) (hb : (x.f0.size ≤ 1048576 ∧ (x.f1.length ≤ 1048576))) : Ev (fun k => laws_eqTrip.f k x x) true := by
  unfold laws_eqTrip.f
  refine Ev.pos (by simp [sEq]) ?_
  refine Ev.bind (eq_CallS x.f1 hb.2) ?_
  refine Ev.pos rfl ?_
  exact ev_val rfl
theorem eq_TripS (x : (List S105)) (hb : (x.length ≤ 1048576 ∧ ∀ y ∈ x, (y.f0.size ≤ 1048576 ∧ (y.f1.length ≤ 1048576)))) : Ev (fun k => laws_eqTripS.f k x x) true := by
  unfold laws_eqTripS.f
  obtain ⟨hl, hy⟩ := hb
  refine Ev.pos rfl ?_
  refine ev_fold (fun k i => laws_eqTripS.l0 k x x (i : Int)) x.length ?_ ?_
  · intro i hi hn
    refine Ev.step (fun k => by simp only [laws_eqTripS.l0]; rfl) ?_
    refine Ev.pos (by omega) (Ev.pos (by omega) ?_)
    try refine Ev.pos (by omega) ?_
    rw [at_nat hi]
    refine Ev.bind (eq_Trip x[i] (hy _ (List.getElem_mem hi))) ?_
    refine Ev.pos (by first | rfl | simp) ?_
    rw [wrap_succ hi (by omega)]
    exact hn
  · refine Ev.step (fun k => by simp only [laws_eqTripS.l0]; rfl) ?_
    exact Ev.neg (by omega) (ev_val rfl)
theorem eq_Leg (x : S102) (hb : True) : Ev (fun k => laws_eqLeg.f x x) true := by
  unfold laws_eqLeg.f
  refine Ev.pos rfl ?_
  refine Ev.pos rfl ?_
  refine Ev.pos rfl ?_
  exact ev_val rfl
theorem eq_LegS (x : (List S102)) (hb : (x.length ≤ 1048576)) : Ev (fun k => laws_eqLegS.f k x x) true := by
  unfold laws_eqLegS.f
  have hl := hb
  refine Ev.pos rfl ?_
  refine ev_fold (fun k i => laws_eqLegS.l0 k x x (i : Int)) x.length ?_ ?_
  · intro i hi hn
    refine Ev.step (fun k => by simp only [laws_eqLegS.l0]; rfl) ?_
    refine Ev.pos (by omega) (Ev.pos (by omega) ?_)
    try refine Ev.pos (by omega) ?_
    rw [at_nat hi]
    refine Ev.bind (eq_Leg x[i] trivial) ?_
    refine Ev.pos (by first | rfl | simp) ?_
    rw [wrap_succ hi (by omega)]
    exact hn
  · refine Ev.step (fun k => by simp only [laws_eqLegS.l0]; rfl) ?_
    exact Ev.neg (by omega) (ev_val rfl)
theorem eq_impl_between (a b c : Int) : impl_between.f a b c = some (decide (b ≤ a ∧ a ≤ c)) := by
  unfold impl_between.f
  by_cases h : a ≥ b
  · rw [if_pos h]; simp [show b ≤ a from h]
  · rw [if_neg h]; simp [show ¬ b ≤ a from h]
theorem eq_spec_l01In (a b c : Int) : spec_l01In.f a b c = some (decide (b ≤ a ∧ a ≤ c)) := by
  unfold spec_l01In.f
  by_cases h : b ≤ a
  · rw [if_pos h]; simp [h]
  · rw [if_neg h]; simp [h]
def ChP (b : Int) : Prop := (97 ≤ b ∧ b ≤ 122) ∨ (48 ≤ b ∧ b ≤ 57)
def NameP (s : ByteArray) : Prop := (1 ≤ s.size ∧ s.size ≤ 12) ∧ ∀ i, i < s.size → ChP (bt s (i : Int))
def CallP (cs : List S107) (i : Nat) : Prop := (0 ≤ (at_ cs (i : Int)).f0 ∧ (at_ cs (i : Int)).f0 ≤ 29) ∧ (0 ≤ (at_ cs (i : Int)).f1 ∧ (at_ cs (i : Int)).f1 ≤ (at_ cs (i : Int)).f2) ∧ (at_ cs (i : Int)).f2 ≤ 100000 ∧ (0 < i → (at_ cs ((i : Int) - 1)).f2 < (at_ cs (i : Int)).f1 ∧ (at_ cs ((i : Int) - 1)).f0 ≠ (at_ cs (i : Int)).f0)
def TripP (t : S105) : Prop := NameP t.f0 ∧ (2 ≤ t.f1.length ∧ t.f1.length ≤ 12) ∧ ∀ i, i < t.f1.length → CallP t.f1 i
theorem eq_impl_isMinute (a : Int) : impl_isMinute.f a = some (decide (0 ≤ a ∧ a ≤ 100000)) := by
  unfold impl_isMinute.f
  rw [eq_impl_between]
  rfl
theorem ev_spec_l01Name (s : ByteArray) (hs : s.size ≤ 1048576) (b : Bool) (hb : b = true ↔ NameP s) : Ev (fun k => spec_l01Name.f k s) b := by
  unfold spec_l01Name.f
  refine ev_scan s.size (fun i => ChP (bt s (i : Int))) false (fun k i => spec_l01Name.l0 k s (i : Int)) (fun ⟨i, hi, h⟩ => bool_not hb fun g => h (g.2 i hi)) ?_ ?_
  · intro i hi _ hn hx
    refine Ev.step (fun k => by simp only [spec_l01Name.l0]; rfl) ?_
    rw [wrap_succ hi (by omega)]
    unfold ChP at hn hx
    have no : ¬ (97 ≤ bt s (i : Int) ∧ bt s (i : Int) ≤ 122 ∨ 48 ≤ bt s (i : Int) ∧ bt s (i : Int) ≤ 57) → Ev (fun _ => some false) b := fun h => ev_val (hx h).symm
    refine Ev.pos (by omega) (Ev.pos (by omega) (Ev.ite (fun h1 => Ev.ite (fun h2 => hn (.inl ⟨h1, h2⟩)) (fun h2 => Ev.ite (fun h3 => Ev.ite (fun h4 => hn (.inr ⟨h3, h4⟩)) (fun h4 => no (by omega))) (fun h3 => no (by omega)))) (fun h1 => Ev.ite (fun h3 => Ev.ite (fun h4 => hn (.inr ⟨h3, h4⟩)) (fun h4 => no (by omega))) (fun h3 => no (by omega)))))
  · intro hp
    refine Ev.step (fun k => by simp only [spec_l01Name.l0]; rfl) ?_
    refine Ev.neg (by omega) (Ev.opt (eq_spec_l01In _ _ _) (ev_val ?_))
    rw [Bool.eq_iff_iff, decide_eq_true_iff, hb]
    exact ⟨fun g => ⟨by omega, hp⟩, fun g => by have := g.1; omega⟩
theorem ev_impl_nameOk (s : ByteArray) (hs : s.size ≤ 1048576) (b : Bool) (hb : b = true ↔ NameP s) : Ev (fun k => impl_nameOk.f k s) b := by
  unfold impl_nameOk.f
  have bad : ¬ NameP s → b = false := bool_not hb
  refine Ev.ite (fun h => ev_val (bad fun g => by have := g.1; omega).symm) (fun g1 => Ev.ite (fun h => ev_val (bad fun g => by have := g.1; omega).symm) (fun g2 => ?_))
  refine ev_scan s.size (fun i => ChP (bt s (i : Int))) false (fun k i => impl_nameOk.l0 k s (i : Int)) (fun ⟨i, hi, h⟩ => bool_not hb fun g => h (g.2 i hi)) ?_ ?_
  · intro i hi _ hn hx
    refine Ev.step (fun k => by simp only [impl_nameOk.l0]; rfl) ?_
    rw [wrap_succ hi (by omega)]
    unfold ChP at hn hx
    have no : ¬ (97 ≤ bt s (i : Int) ∧ bt s (i : Int) ≤ 122 ∨ 48 ≤ bt s (i : Int) ∧ bt s (i : Int) ≤ 57) → Ev (fun _ => some false) b := fun h => ev_val (hx h).symm
    refine Ev.pos (by omega) (Ev.pos (by omega) (Ev.ite (fun h1 => ?_) (fun h1 => ?_)))
    · exact Ev.ite (fun h => no (by omega)) (fun h3 => Ev.ite (fun h => no (by omega)) (fun h4 => hn (.inr (by omega))))
    · exact Ev.ite (fun h2 => Ev.ite (fun h => no (by omega)) (fun h3 => Ev.ite (fun h => no (by omega)) (fun h4 => hn (.inr (by omega))))) (fun h2 => hn (.inl (by omega)))
  · intro hp
    refine Ev.step (fun k => by simp only [impl_nameOk.l0]; rfl) ?_
    exact Ev.neg (by omega) (ev_val (hb.2 ⟨by omega, hp⟩).symm)
theorem ev_spec_TripOk (t : S105) (hs : t.f0.size ≤ 1048576) (hl : t.f1.length ≤ 1048576) (b : Bool) (hb : b = true ↔ TripP t) : Ev (fun k => spec_TripOk.f k t) b := by
  classical
  unfold spec_TripOk.f
  have bad : ¬ TripP t → b = false := bool_not hb
  refine Ev.bind (ev_spec_l01Name t.f0 hs (decide (NameP t.f0)) decide_eq_true_iff) (Ev.ite (fun g1 => ?_) (fun h => ev_val (bad fun g => h (decide_eq_true g.1)).symm))
  refine Ev.opt (eq_spec_l01In _ _ _) (Ev.ite (fun g2 => ?_) (fun h => ev_val (bad fun g => h (decide_eq_true (by have := g.2.1; omega))).symm))
  have g2 := of_decide_eq_true g2
  refine ev_scan t.f1.length (CallP t.f1) false (fun k i => spec_TripOk.l0 k t (i : Int)) (fun ⟨i, hi, h⟩ => bad fun g => h (g.2.2 i hi)) ?_ ?_
  · intro i hi _ hn hx
    refine Ev.step (fun k => by simp only [spec_TripOk.l0]; rfl) ?_
    rw [wrap_succ hi (by omega), wrap_id (x := (i : Int) - 1) (by omega) (by omega)]
    unfold CallP at hn hx
    refine Ev.pos (by omega) (Ev.pos (by omega) (Ev.opt (eq_spec_l01In _ _ _) (Ev.ite (fun q1 => ?_) (fun h => ev_val (hx fun g => h (decide_eq_true g.1)).symm))))
    have q1 := of_decide_eq_true q1
    refine Ev.opt (eq_spec_l01In _ _ _) (Ev.ite (fun q2 => ?_) (fun h => ev_val (hx fun g => h (decide_eq_true (by omega))).symm))
    have q2 := of_decide_eq_true q2
    refine Ev.opt (eq_spec_l01In _ _ _) (Ev.ite (fun q3 => ?_) (fun h => ev_val (hx fun g => h (decide_eq_true (by omega))).symm))
    have q3 := of_decide_eq_true q3
    refine Ev.ite (fun h0 => ?_) (fun h0 => hn ⟨q1, q3, by omega, fun g => by omega⟩)
    refine Ev.pos (by omega) (Ev.pos (by omega) (Ev.ite (fun h => ev_val (hx fun g => by have := g.2.2.2 (by omega); omega).symm) (fun h1 => Ev.ite (fun h => ev_val (hx fun g => (g.2.2.2 (by omega)).2 h).symm) (fun h2 => hn ⟨q1, q3, by omega, fun _ => ⟨by omega, h2⟩⟩))))
  · intro hp
    refine Ev.step (fun k => by simp only [spec_TripOk.l0]; rfl) ?_
    exact Ev.neg (by omega) (ev_val (hb.2 ⟨of_decide_eq_true g1, by omega, hp⟩).symm)
theorem ev_impl_TripOk (t : S105) (hs : t.f0.size ≤ 1048576) (hl : t.f1.length ≤ 1048576) (b : Bool) (hb : b = true ↔ TripP t) : Ev (fun k => impl_TripOk.f k t) b := by
  classical
  unfold impl_TripOk.f
  have bad : ¬ TripP t → b = false := bool_not hb
  refine Ev.bind (ev_impl_nameOk t.f0 hs (decide (NameP t.f0)) decide_eq_true_iff) (Ev.ite (fun g1 => ?_) (fun h => ev_val (bad fun g => h (decide_eq_true g.1)).symm))
  refine Ev.opt (eq_impl_between _ _ _) (Ev.ite (fun g2 => ?_) (fun h => ev_val (bad fun g => h (decide_eq_true (by have := g.2.1; omega))).symm))
  have g2 := of_decide_eq_true g2
  refine ev_scan t.f1.length (CallP t.f1) false (fun k i => impl_TripOk.l0 k t (i : Int)) (fun ⟨i, hi, h⟩ => bad fun g => h (g.2.2 i hi)) ?_ ?_
  · intro i hi _ hn hx
    refine Ev.step (fun k => by simp only [impl_TripOk.l0]; rfl) ?_
    rw [wrap_succ hi (by omega), wrap_id (x := (i : Int) - 1) (by omega) (by omega)]
    unfold CallP at hn hx
    refine Ev.pos (by omega) (Ev.pos (by omega) (Ev.opt (eq_impl_between _ _ _) (Ev.ite (fun q1 => ?_) (fun h => ev_val (hx fun g => h (decide_eq_true g.1)).symm))))
    have q1 := of_decide_eq_true q1
    refine Ev.opt (eq_impl_isMinute _) (Ev.ite (fun q2 => ?_) (fun h => ev_val (hx fun g => h (decide_eq_true (by omega))).symm))
    have q2 := of_decide_eq_true q2
    refine Ev.opt (eq_impl_isMinute _) (Ev.ite (fun q3 => ?_) (fun h => ev_val (hx fun g => h (decide_eq_true (by omega))).symm))
    have q3 := of_decide_eq_true q3
    refine Ev.ite (fun h => ev_val (hx fun g => by omega).symm) (fun h4 => Ev.ite (fun h0 => ?_) (fun h0 => hn ⟨q1, by omega, by omega, fun g => by omega⟩))
    refine Ev.pos (by omega) (Ev.pos (by omega) (Ev.ite (fun h => ev_val (hx fun g => by have := g.2.2.2 (by omega); omega).symm) (fun h1 => Ev.ite (fun h => ev_val (hx fun g => (g.2.2.2 (by omega)).2 h.symm).symm) (fun h2 => hn ⟨q1, by omega, by omega, fun _ => ⟨by omega, fun g => h2 g.symm⟩⟩))))
  · intro hp
    refine Ev.step (fun k => by simp only [impl_TripOk.l0]; rfl) ?_
    exact Ev.neg (by omega) (ev_val (hb.2 ⟨of_decide_eq_true g1, by omega, hp⟩).symm)
def TripB (t : S105) : Prop := t.f0.size ≤ 1048576 ∧ t.f1.length ≤ 1048576
theorem ev_impl_tripNamed (ts : List S105) (s : ByteArray) (hl : ts.length ≤ 1048576) : Evx (fun k => impl_tripNamed.f k ts s) (fun r => (0 ≤ r ↔ ∃ j, j < ts.length ∧ sEq (at_ ts (j : Int)).f0 s = true)) := by
  classical
  unfold impl_tripNamed.f slices_IndexFunc_1.f
  obtain ⟨r, hr⟩ := FindR.exists ts.length (fun j => sEq (at_ ts (j : Int)).f0 s = true) (fun j => ((j : Int), s)) (((-1 : Int)), s)
  refine Evx.bind (P := fun x => x = r) (Evx.of ?_ rfl) (fun x hx => ?_)
  · refine ev_find ts.length (fun j => sEq (at_ ts (j : Int)).f0 s = true) (fun j => ((j : Int), s)) ((-1 : Int), s) r (fun k i => slices_IndexFunc_1.l0 k ts s (i : Int)) hr ?_ ?_ ?_
    · intro i hi hc hn
      refine Ev.step (fun k => by simp only [slices_IndexFunc_1.l0, impl_tripNamed_1.f, Option.bind_some]; rfl) ?_
      rw [wrap_succ hi (by omega)]
      exact Ev.pos (by omega) (Ev.pos (by omega) (Ev.neg hc hn))
    · intro i hi hc _
      refine Ev.step (fun k => by simp only [slices_IndexFunc_1.l0, impl_tripNamed_1.f, Option.bind_some]; rfl) ?_
      exact Ev.pos (by omega) (Ev.pos (by omega) (Ev.pos hc (ev_val rfl)))
    · intro _
      refine Ev.step (fun k => by simp only [slices_IndexFunc_1.l0]; rfl) ?_
      exact Ev.neg (by omega) (ev_val rfl)
  · subst hx
    refine Evx.val ?_
    rcases hr with ⟨rfl, h⟩ | ⟨i, h1, h2, _, rfl⟩
    · exact ⟨fun g => absurd g (by show ¬ (0 ≤ (-1 : Int)); omega), fun ⟨j, hj, g⟩ => absurd g (h j hj)⟩
    · exact ⟨fun _ => ⟨i, h1, h2⟩, fun _ => by show 0 ≤ (i : Int); omega⟩
def NewP (ts : List S105) (i : Nat) : Prop := TripP (at_ ts (i : Int)) ∧ ∀ j, j < i → sEq (at_ ts (j : Int)).f0 (at_ ts (i : Int)).f0 ≠ true
def TableP (ts : List S105) : Prop := ts.length ≤ 24 ∧ ∀ i, i < ts.length → NewP ts i
def TableB (ts : List S105) : Prop := ts.length ≤ 1048576 ∧ ∀ y, y ∈ ts → TripB y
theorem ev_spec_TableOk (ts : List S105) (hB : TableB ts) (b : Bool) (hb : b = true ↔ TableP ts) : Ev (fun k => spec_TableOk.f k ts) b := by
  classical
  obtain ⟨B0, B1⟩ := hB
  unfold spec_TableOk.f
  have bad : ¬ TableP ts → b = false := bool_not hb
  refine Ev.ite (fun h => ev_val (bad fun g => by have := g.1; omega).symm) (fun g1 => ?_)
  refine ev_scan ts.length (NewP ts) false (fun k i => spec_TableOk.l0 k ts (i : Int)) (fun ⟨i, hi, h⟩ => bad fun g => h (g.2 i hi)) ?_ ?_
  · intro i hi _ hn hx
    have hy := B1 _ (at_mem (xs := ts) (i := (i : Int)) (by omega) (by omega))
    refine Ev.step (fun k => by simp only [spec_TableOk.l0]; rfl) ?_
    refine Ev.pos (by omega) (Ev.pos (by omega) (Ev.bind (ev_spec_TripOk _ hy.1 hy.2 (decide (TripP (at_ ts (i : Int)))) decide_eq_true_iff) (Ev.ite (fun g => ?_) (fun h => ev_val (hx fun g => h (decide_eq_true g.1)).symm))))
    refine ev_scan i (fun j => sEq (at_ ts (j : Int)).f0 (at_ ts (i : Int)).f0 ≠ true) false (fun k j => spec_TableOk.l1 k ts (i : Int) (j : Int)) (fun ⟨j, hj, h⟩ => hx fun g => h (g.2 j hj)) ?_ ?_
    · intro j hj _ hn2 hx2
      refine Ev.step (fun k => by simp only [spec_TableOk.l1]; rfl) ?_
      rw [wrap_succ hj (by omega)]
      exact Ev.pos (by omega) (Ev.pos (by omega) (Ev.pos (by omega) (Ev.pos (by omega) (Ev.pos (by omega) (Ev.ite (fun h => ev_val (hx2 fun g => g h).symm) (fun h => hn2 h))))))
    · intro hN
      refine Ev.step (fun k => by simp only [spec_TableOk.l1]; rfl) ?_
      rw [wrap_succ hi (by omega)]
      exact Ev.neg (by omega) (hn ⟨of_decide_eq_true g, hN⟩)
  · intro hp
    refine Ev.step (fun k => by simp only [spec_TableOk.l0]; rfl) ?_
    exact Ev.neg (by omega) (ev_val (hb.2 ⟨by omega, hp⟩).symm)
theorem ev_impl_TableOk (ts : List S105) (hB : TableB ts) (b : Bool) (hb : b = true ↔ TableP ts) : Ev (fun k => impl_TableOk.f k ts) b := by
  classical
  obtain ⟨B0, B1⟩ := hB
  unfold impl_TableOk.f
  have bad : ¬ TableP ts → b = false := bool_not hb
  refine Ev.ite (fun h => ev_val (bad fun g => by have := g.1; omega).symm) (fun g1 => ?_)
  refine ev_scan ts.length (NewP ts) false (fun k i => impl_TableOk.l0 k ts (i : Int)) (fun ⟨i, hi, h⟩ => bad fun g => h (g.2 i hi)) ?_ ?_
  · intro i hi _ hn hx
    have hy := B1 _ (at_mem (xs := ts) (i := (i : Int)) (by omega) (by omega))
    refine Ev.step (fun k => by simp only [impl_TableOk.l0]; rfl) ?_
    refine Ev.pos (by omega) (Ev.pos (by omega) (Ev.bind (ev_impl_TripOk _ hy.1 hy.2 (decide (TripP (at_ ts (i : Int)))) decide_eq_true_iff) (Ev.ite (fun g => ?_) (fun h => ev_val (hx fun g => h (decide_eq_true g.1)).symm))))
    refine Ev.pos (by omega) ?_
    rw [Int.toNat_natCast, show (0 : Int).toNat = 0 from rfl, List.drop_zero, Nat.sub_zero, wrap_succ hi (by omega)]
    have hlt : (ts.take i).length = i := by rw [List.length_take]; omega
    obtain ⟨r, e1, e2⟩ := ev_impl_tripNamed (ts.take i) (at_ ts (i : Int)).f0 (by omega)
    have e3 : 0 ≤ r ↔ ∃ j, j < i ∧ sEq (at_ ts (j : Int)).f0 (at_ ts (i : Int)).f0 = true := by
      rw [e2, hlt]
      exact ⟨fun ⟨j, hj, g⟩ => ⟨j, hj, by rw [at_take ts (by omega) (by omega)] at g; exact g⟩, fun ⟨j, hj, g⟩ => ⟨j, hj, by rw [at_take ts (by omega) (by omega)]; exact g⟩⟩
    refine Ev.bind e1 (Ev.ite (fun h => ev_val (hx fun q => ?_).symm) (fun h => hn ⟨of_decide_eq_true g, fun j hj q => h (e3.2 ⟨j, hj, q⟩)⟩))
    obtain ⟨j, hj, w⟩ := e3.1 h
    exact q.2 j hj w
  · intro hp
    refine Ev.step (fun k => by simp only [impl_TableOk.l0]; rfl) ?_
    exact Ev.neg (by omega) (ev_val (hb.2 ⟨by omega, hp⟩).symm)
theorem trips_bd (x : List S98) (b : x.length ≤ 1048576 ∧ ∀ y ∈ x, (y.f0.size ≤ 1048576 ∧ (y.f1.length ≤ 1048576))) (cv : S98 → S105) (h : ∀ y, (cv y).f0 = y.f0 ∧ (cv y).f1 = y.f1) : TableB (x.map cv) := by
  refine ⟨by rw [List.length_map]; exact b.1, fun y hy => ?_⟩
  obtain ⟨z, hz, rfl⟩ := List.mem_map.1 hy
  have := b.2 z hz
  unfold TripB
  rw [(h z).1, (h z).2]
  exact this
theorem call_bd {t : S105} (h : TripP t) {i : Int} (h0 : 0 ≤ i) (h1 : i < (t.f1.length : Int)) : (0 ≤ (at_ t.f1 i).f0 ∧ (at_ t.f1 i).f0 ≤ 29) ∧ (0 ≤ (at_ t.f1 i).f1 ∧ (at_ t.f1 i).f1 ≤ (at_ t.f1 i).f2) ∧ (at_ t.f1 i).f2 ≤ 100000 := by
  have h2 := h.2.2 i.toNat (by omega)
  unfold CallP at h2
  rw [show ((i.toNat : Nat) : Int) = i by omega] at h2
  exact ⟨h2.1, h2.2.1, h2.2.2.1⟩
theorem trip_at {ts : List S105} (h : TableP ts) {i : Int} (h0 : 0 ≤ i) (h1 : i < (ts.length : Int)) : TripP (at_ ts i) := by
  have h2 := (h.2 i.toNat (by omega)).1
  rwa [show ((i.toNat : Nat) : Int) = i by omega] at h2
def LegIn (ts : List S105) (l : S102) : Prop := (0 ≤ l.f0 ∧ l.f0 ≤ (ts.length : Int) - 1) ∧ (0 ≤ l.f1 ∧ l.f1 ≤ l.f2 - 1) ∧ l.f2 ≤ ((at_ ts l.f0).f1.length : Int) - 1
def LegP (ts : List S105) (legs : List S102) (ch : Int) (i : Nat) : Prop := LegIn ts (at_ legs (i : Int)) ∧ (0 < i →
  (at_ (at_ ts (at_ legs ((i : Int) - 1)).f0).f1 (at_ legs ((i : Int) - 1)).f2).f0 = (at_ (at_ ts (at_ legs (i : Int)).f0).f1 (at_ legs (i : Int)).f1).f0 ∧
  (at_ (at_ ts (at_ legs ((i : Int) - 1)).f0).f1 (at_ legs ((i : Int) - 1)).f2).f1 + ch ≤ (at_ (at_ ts (at_ legs (i : Int)).f0).f1 (at_ legs (i : Int)).f1).f2)
def LegsP (ts : List S105) (legs : List S102) (ch : Int) : Prop := TableP ts ∧ (0 ≤ ch ∧ ch ≤ 60) ∧ legs.length ≤ 5 ∧ ∀ i, i < legs.length → LegP ts legs ch i
theorem eq_spec_l12Change (a : Int) : spec_l12Change.f a = some (decide (0 ≤ a ∧ a ≤ 60)) := by
  unfold spec_l12Change.f; rw [eq_spec_l01In]; rfl
theorem eq_impl_changeOk (a : Int) : impl_changeOk.f a = some (decide (0 ≤ a ∧ a ≤ 60)) := by
  unfold impl_changeOk.f; rw [eq_impl_between]; rfl
theorem eq_impl_ends {ts : List S105} {l : S102} (h : LegIn ts l) : impl_ends.f ts l = some (at_ (at_ ts l.f0).f1 l.f2).f0 := by
  obtain ⟨h1, h2, h3⟩ := h
  unfold impl_ends.f
  rw [if_pos h1.1, if_pos (by omega), if_pos (by omega), if_pos (by omega)]
theorem eq_impl_arrives {ts : List S105} {l : S102} (h : LegIn ts l) : impl_arrives.f ts l = some (at_ (at_ ts l.f0).f1 l.f2).f1 := by
  obtain ⟨h1, h2, h3⟩ := h
  unfold impl_arrives.f
  rw [if_pos h1.1, if_pos (by omega), if_pos (by omega), if_pos (by omega)]
theorem eq_impl_leaves {ts : List S105} {l : S102} (h : LegIn ts l) : impl_leaves.f ts l = some (at_ (at_ ts l.f0).f1 l.f1).f2 := by
  obtain ⟨h1, h2, h3⟩ := h
  unfold impl_leaves.f
  rw [if_pos h1.1, if_pos (by omega), if_pos (by omega), if_pos (by omega)]
theorem ev_spec_LegsOk (ts : List S105) (legs : List S102) (ch : Int) (hB : TableB ts) (hl : legs.length ≤ 1048576) (hw : ∀ y, y ∈ legs → (Lit.int .i64 y.f2).wf = true) (b : Bool) (hb : b = true ↔ LegsP ts legs ch) : Ev (fun k => spec_LegsOk.f k ts legs ch) b := by
  classical
  have B0 := hB.1
  unfold spec_LegsOk.f
  have bad : ¬ LegsP ts legs ch → b = false := bool_not hb
  refine Ev.bind (ev_spec_TableOk ts hB (decide (TableP ts)) decide_eq_true_iff) (Ev.ite (fun g1 => ?_) (fun h => ev_val (bad fun g => h (decide_eq_true g.1)).symm))
  have hT := of_decide_eq_true g1
  refine Ev.opt (eq_spec_l12Change _) (Ev.ite (fun g2 => ?_) (fun h => ev_val (bad fun g => h (decide_eq_true g.2.1)).symm))
  have g2 := of_decide_eq_true g2
  refine Ev.ite (fun h => ev_val (bad fun g => by have := g.2.2.1; omega).symm) (fun g3 => ?_)
  refine ev_scan legs.length (LegP ts legs ch) false (fun k i => spec_LegsOk.l0 k ts legs ch (i : Int)) (fun ⟨i, hi, h⟩ => bad fun g => h (g.2.2.2 i hi)) ?_ ?_
  · intro i hi hpre hn hx
    have hf2 := hw _ (at_mem (xs := legs) (i := (i : Int)) (by omega) (by omega))
    have w1 := wf_lo hf2
    have w2 := wf_hi hf2
    refine Ev.step (fun k => by simp only [spec_LegsOk.l0]; rfl) ?_
    rw [wrap_succ hi (by omega), wrap_id (x := (i : Int) - 1) (by omega) (by omega), wrap_id (x := (ts.length : Int) - 1) (by omega) (by omega)]
    unfold LegP LegIn at hn hx
    refine Ev.pos (by omega) (Ev.pos (by omega) (Ev.opt (eq_spec_l01In _ _ _) (Ev.ite (fun q1 => ?_) (fun h => ev_val (hx fun g => h (decide_eq_true g.1.1)).symm))))
    have q1 := of_decide_eq_true q1
    have hTr := trip_at hT (i := (at_ legs (i : Int)).f0) (by omega) (by omega)
    have hTl := hTr.2.1
    rw [wrap_id (x := ((at_ ts (at_ legs (i : Int)).f0).f1.length : Int) - 1) (by omega) (by omega)]
    refine Ev.pos (by omega) (Ev.pos (by omega) (Ev.opt (eq_spec_l01In _ _ _) (Ev.ite (fun q2 => ?_) (fun h => ev_val (hx fun g => h (decide_eq_true (by omega))).symm))))
    have q2 := of_decide_eq_true q2
    rw [wrap_id (x := (at_ legs (i : Int)).f2 - 1) (by omega) (by omega)]
    refine Ev.opt (eq_spec_l01In _ _ _) (Ev.ite (fun q3 => ?_) (fun h => ev_val (hx fun g => h (decide_eq_true (by omega))).symm))
    have q3 := of_decide_eq_true q3
    refine Ev.ite (fun h0 => ?_) (fun h0 => hn ⟨⟨q1, q3, by omega⟩, fun g => by omega⟩)
    have hp := (hpre (i - 1) (by omega)).1
    rw [show ((i - 1 : Nat) : Int) = (i : Int) - 1 by omega] at hp
    obtain ⟨p1, p2, p3⟩ := hp
    have hTp := trip_at hT (i := (at_ legs ((i : Int) - 1)).f0) (by omega) (by omega)
    have hc := call_bd hTp (i := (at_ legs ((i : Int) - 1)).f2) (by omega) (by omega)
    rw [wrap_id (x := (at_ (at_ ts (at_ legs ((i : Int) - 1)).f0).f1 (at_ legs ((i : Int) - 1)).f2).f1 + ch) (by omega) (by omega)]
    refine Ev.pos (by omega) (Ev.pos (by omega) (Ev.pos (by omega) (Ev.pos (by omega) (Ev.pos (by omega) (Ev.pos (by omega) (Ev.pos (by omega) (Ev.pos (by omega) ?_)))))))
    refine Ev.ite (fun e => ?_) (fun e => ev_val (hx fun g => e (g.2 (by omega)).1).symm)
    exact Ev.ite (fun h => ev_val (hx fun g => by have := (g.2 (by omega)).2; omega).symm) (fun h => hn ⟨⟨q1, q3, by omega⟩, fun _ => ⟨e, by omega⟩⟩)
  · intro hp
    refine Ev.step (fun k => by simp only [spec_LegsOk.l0]; rfl) ?_
    exact Ev.neg (by omega) (ev_val (hb.2 ⟨hT, g2, by omega, hp⟩).symm)
theorem ev_impl_LegsOk (ts : List S105) (legs : List S102) (ch : Int) (hB : TableB ts) (hl : legs.length ≤ 1048576) (b : Bool) (hb : b = true ↔ LegsP ts legs ch) : Ev (fun k => impl_LegsOk.f k ts legs ch) b := by
  classical
  have B0 := hB.1
  unfold impl_LegsOk.f
  have bad : ¬ LegsP ts legs ch → b = false := bool_not hb
  refine Ev.bind (ev_impl_TableOk ts hB (decide (TableP ts)) decide_eq_true_iff) (Ev.ite (fun g1 => ?_) (fun h => ev_val (bad fun g => h (decide_eq_true g.1)).symm))
  have hT := of_decide_eq_true g1
  refine Ev.opt (eq_impl_changeOk _) (Ev.ite (fun g2 => ?_) (fun h => ev_val (bad fun g => h (decide_eq_true g.2.1)).symm))
  have g2 := of_decide_eq_true g2
  refine Ev.ite (fun h => ev_val (bad fun g => by have := g.2.2.1; omega).symm) (fun g3 => ?_)
  refine ev_scan legs.length (LegP ts legs ch) false (fun k i => impl_LegsOk.l0 k ts legs ch (i : Int)) (fun ⟨i, hi, h⟩ => bad fun g => h (g.2.2.2 i hi)) ?_ ?_
  · intro i hi hpre hn hx
    refine Ev.step (fun k => by simp only [impl_LegsOk.l0]; rfl) ?_
    rw [wrap_succ hi (by omega), wrap_id (x := (i : Int) - 1) (by omega) (by omega), wrap_id (x := (ts.length : Int) - 1) (by omega) (by omega)]
    unfold LegP LegIn at hn hx
    refine Ev.pos (by omega) (Ev.pos (by omega) (Ev.opt (eq_impl_between _ _ _) (Ev.ite (fun q1 => ?_) (fun h => ev_val (hx fun g => h (decide_eq_true g.1.1)).symm))))
    have q1 := of_decide_eq_true q1
    refine Ev.ite (fun h => ev_val (hx fun g => by omega).symm) (fun q2 => Ev.ite (fun h => ev_val (hx fun g => by omega).symm) (fun q3 => ?_))
    refine Ev.pos (by omega) (Ev.pos (by omega) (Ev.ite (fun h => ev_val (hx fun g => by omega).symm) (fun q4 => ?_)))
    refine Ev.ite (fun h0 => hn ⟨⟨q1, by omega, by omega⟩, fun g => by omega⟩) (fun h0 => ?_)
    have hp := (hpre (i - 1) (by omega)).1
    rw [show ((i - 1 : Nat) : Int) = (i : Int) - 1 by omega] at hp
    obtain ⟨p1, p2, p3⟩ := hp
    have hTp := trip_at hT (i := (at_ legs ((i : Int) - 1)).f0) (by omega) (by omega)
    have hc := call_bd hTp (i := (at_ legs ((i : Int) - 1)).f2) (by omega) (by omega)
    refine Ev.pos (by omega) (Ev.pos (by omega) (Ev.pos (by omega) (Ev.pos (by omega) ?_)))
    refine Ev.opt (eq_impl_ends ⟨p1, p2, p3⟩) (Ev.ite (fun e => ?_) (fun e => ev_val (hx fun g => e (g.2 (by omega)).1.symm).symm))
    refine Ev.opt (eq_impl_leaves ⟨q1, by omega, by omega⟩) (Ev.opt (eq_impl_arrives ⟨p1, p2, p3⟩) ?_)
    rw [wrap_id (x := (at_ (at_ ts (at_ legs ((i : Int) - 1)).f0).f1 (at_ legs ((i : Int) - 1)).f2).f1 + ch) (by omega) (by omega)]
    exact Ev.ite (fun h => ev_val (hx fun g => by have := (g.2 (by omega)).2; omega).symm) (fun h => hn ⟨⟨q1, by omega, by omega⟩, fun _ => ⟨e.symm, by omega⟩⟩)
  · intro hp
    refine Ev.step (fun k => by simp only [impl_LegsOk.l0]; rfl) ?_
    exact Ev.neg (by omega) (ev_val (hb.2 ⟨hT, g2, by omega, hp⟩).symm)
theorem main_FnExactLegsOk (x0 : (List S98)) (x1 : (List S102)) (x2 : Int) (h0 : (x0.length ≤ maxLen ∧ ∀ y ∈ x0, ok98 y)) (h1 : (x1.length ≤ maxLen ∧ ∀ y ∈ x1, ok102 y)) (h2 : (Lit.int .i64 x2).wf = true) (b0 : (x0.length ≤ 1048576 ∧ ∀ y ∈ x0, (y.f0.size ≤ 1048576 ∧ (y.f1.length ≤ 1048576)))) (b1 : (x1.length ≤ 1048576)) : ∃ w, Ev (fun k => spec_LegsOk.f k (x0.map cv98_105) x1 x2) w ∧ Ev (fun k => impl_LegsOk.f k (x0.map cv98_105) x1 x2) w ∧ True := by
  classical
  have hB := trips_bd x0 b0 cv98_105 (fun _ => ⟨rfl, rfl⟩)
  exact ⟨decide (LegsP (x0.map cv98_105) x1 x2), ev_spec_LegsOk _ _ _ hB b1 (fun y hy => (h1.2 y hy).2.2) _ decide_eq_true_iff, ev_impl_LegsOk _ _ _ hB b1 _ decide_eq_true_iff, trivial⟩
theorem pure_FnExactLegsOk : Pure := by
  intro x0 x1 x2 h0 h1 h2
  refine Ev.rounds ?_
  unfold laws_FnExactLegsOk.f
  obtain ⟨r0, e0, hr0⟩ := sz_TripS x0 1048576 (by omega) (by omega) h0
  refine Ev.bind e0 ?_
  refine Ev.ite (fun _ => ev_val rfl) (fun g0 => ?_)
  obtain ⟨p0, q0, b0⟩ := hr0.resolve_left g0
  obtain ⟨r1, e1, hr1⟩ := sz_LegS x1 r0 (by omega) (by omega) h1
  refine Ev.bind e1 ?_
  refine Ev.ite (fun _ => ev_val rfl) (fun g1 => ?_)
  obtain ⟨p1, q1, b1⟩ := hr1.resolve_left g1
  have c0 : x0.length ≤ 1048576 := b0.1
  obtain ⟨w, es, ei, hb⟩ := main_FnExactLegsOk x0 x1 x2 h0 h1 h2 b0 b1
  refine Ev.bind (to_TripS x0 b0) ?_
  refine Ev.bind (to_LegS x1 b1) ?_
  refine Ev.bind es ?_
  refine Ev.bind (to_TripS x0 b0) ?_
  refine Ev.bind (to_LegS x1 b1) ?_
  refine Ev.bind ei ?_
  refine Ev.pos (by first | rfl | simp [sEq] | omega) ?_
  refine Ev.bind (to_TripS x0 b0) ?_
  refine Ev.bind (eq_TripS _ ⟨by rw [List.length_map]; exact b0.1, fun y hy => by obtain ⟨x, hx, rfl⟩ := List.mem_map.1 hy; exact bd_cv98_105 x (b0.2 x hx)⟩) ?_
  refine Ev.pos (by first | rfl | simp [sEq] | omega) ?_
  refine Ev.bind (to_LegS x1 b1) ?_
  refine Ev.bind (eq_LegS _ b1) ?_
  refine Ev.pos (by first | rfl | simp [sEq] | omega) ?_
  exact ev_val rfl
end Go.Proofs.Ytjfjifnmfnlfoaa.Fns
