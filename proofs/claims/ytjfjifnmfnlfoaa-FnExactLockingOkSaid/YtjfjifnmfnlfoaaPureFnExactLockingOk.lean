/- The pure statement of the law FnExactLockingOk: its function, told by the engine, gives true for every input. -/
import Derived.Test.YtjfjifnmfnlfoaaSFnExactLockingOk
namespace Go.Proofs.Ytjfjifnmfnlfoaa.Fns
open Go.RowKit Go.WideShapes Go.Proofs.Ytjfjifnmfnlfoaa.Eng
set_option linter.unusedVariables false
set_option linter.unusedSimpArgs false
/-- From some number of rounds on there is one answer, and C holds of it. -/
def Evx {α : Type} (g : Nat → Option α) (C : α → Prop) : Prop := ∃ r, Ev g r ∧ C r
section
variable {α β : Type}
theorem Evx.val {a : α} {C : α → Prop} (h : C a) : Evx (fun _ => some a) C := ⟨a, Ev.now a, h⟩
theorem Evx.of {g : Nat → Option α} {r : α} {C : α → Prop} (h : Ev g r) (hc : C r) : Evx g C := ⟨r, h, hc⟩
theorem Evx.bind {g : Nat → Option α} {f : Nat → α → Option β} {P : α → Prop} {C : β → Prop} (h : Evx g P) (k : ∀ a, P a → Evx (fun n => f n a) C) : Evx (fun n => (g n).bind (f n)) C := by
  obtain ⟨a, h1, h2⟩ := h
  obtain ⟨r, h3, h4⟩ := k a h2
  exact ⟨r, Ev.bind h1 h3, h4⟩
theorem Evx.bindv {g : Nat → Option α} {f : Nat → α → Option β} {a : α} {C : β → Prop} (h : Ev g a) (k : Evx (fun n => f n a) C) : Evx (fun n => (g n).bind (f n)) C := by
  obtain ⟨r, h3, h4⟩ := k
  exact ⟨r, Ev.bind h h3, h4⟩
theorem Evx.opt {g : Option α} {f : Nat → α → Option β} {a : α} {C : β → Prop} (h : g = some a) (k : Evx (fun n => f n a) C) : Evx (fun n => g.bind (f n)) C := by subst h; exact k
theorem Evx.step {g f : Nat → Option α} {C : α → Prop} (h : ∀ k, g (k + 1) = f k) (k : Evx f C) : Evx g C := by
  obtain ⟨r, h3, h4⟩ := k
  exact ⟨r, Ev.step h h3, h4⟩
theorem Evx.congr {g f : Nat → Option α} {C : α → Prop} (h : ∀ k, g k = f k) (k : Evx f C) : Evx g C := by
  obtain ⟨r, h3, h4⟩ := k
  exact ⟨r, Ev.congr h h3, h4⟩
theorem Evx.ite {c : Prop} [Decidable c] {g f : Nat → Option α} {C : α → Prop} (h : c → Evx g C) (h' : ¬ c → Evx f C) : Evx (fun k => if c then g k else f k) C := by
  by_cases hc : c
  · simp only [if_pos hc]; exact h hc
  · simp only [if_neg hc]; exact h' hc
theorem Evx.pos {c : Prop} [Decidable c] {g f : Nat → Option α} {C : α → Prop} (hc : c) (h : Evx g C) : Evx (fun k => if c then g k else f k) C := by simp only [if_pos hc]; exact h
theorem Evx.neg {c : Prop} [Decidable c] {g f : Nat → Option α} {C : α → Prop} (hc : ¬ c) (h : Evx f C) : Evx (fun k => if c then g k else f k) C := by simp only [if_neg hc]; exact h
theorem Evx.mono {g : Nat → Option α} {C D : α → Prop} (h : Evx g C) (hd : ∀ r, C r → D r) : Evx g D := by
  obtain ⟨r, h1, h2⟩ := h
  exact ⟨r, h1, hd r h2⟩
theorem Evx.ev {g : Nat → Option α} {r : α} (h : Evx g (fun x => x = r)) : Ev g r := by
  obtain ⟨a, h1, rfl⟩ := h
  exact h1
theorem Ev.uniq {g : Nat → Option α} {a b : α} (h : Ev g a) (h' : Ev g b) : a = b := by
  obtain ⟨K, hK⟩ := h
  obtain ⟨K', hK'⟩ := h'
  have e1 := hK (max K K') (by omega)
  have e2 := hK' (max K K') (by omega)
  rw [e1] at e2
  exact Option.some.inj e2
end
/-- A loop that counts up, with what holds of its state at each place. -/
theorem evx_loop {R σ : Type} (G : Nat → Nat → σ → Option R) (n : Nat) (Inv : Nat → σ → Prop) (C : R → Prop)
    (hstep : ∀ i s, i < n → Inv i s → (∀ s', Inv (i + 1) s' → Evx (fun k => G k (i + 1) s') C) → Evx (fun k => G k i s) C)
    (hend : ∀ s, Inv n s → Evx (fun k => G k n s) C) : ∀ s, Inv 0 s → Evx (fun k => G k 0 s) C := by
  have key : ∀ d i, i + d = n → ∀ s, Inv i s → Evx (fun k => G k i s) C := by
    intro d
    induction d with
    | zero => intro i hi s hs; obtain rfl : i = n := by omega
              exact hend s hs
    | succ d ih => intro i hi s hs; exact hstep i s (by omega) hs (fun s' hs' => ih (i + 1) (by omega) s' hs')
  exact fun s hs => key n 0 (by omega) s hs
-- counting, taking, placing
theorem at_getD {α : Type} [Inhabited α] (xs : List α) (i : Int) : at_ xs i = xs.getD i.toNat default := rfl
theorem at_int {α : Type} [Inhabited α] {xs : List α} {i : Int} (h0 : 0 ≤ i) (h1 : i < (xs.length : Int)) : at_ xs i = xs[i.toNat]'(by omega) := by
  have h : i.toNat < xs.length := by omega
  rw [at_getD, List.getD_eq_getElem?_getD, List.getElem?_eq_getElem h]
  rfl
theorem at_mem {α : Type} [Inhabited α] {xs : List α} {i : Int} (h0 : 0 ≤ i) (h1 : i < (xs.length : Int)) : at_ xs i ∈ xs := by
  rw [at_int h0 h1]; exact List.getElem_mem _
theorem all_at {α : Type} [Inhabited α] {xs : List α} {p : α → Prop} (h : ∀ y, y ∈ xs → p y) {i : Int} (h0 : 0 ≤ i) (h1 : i < (xs.length : Int)) : p (at_ xs i) := h _ (at_mem h0 h1)
theorem all_idx {α : Type} [Inhabited α] {xs : List α} {p : α → Prop} (h : ∀ i, i < xs.length → p (at_ xs (i : Int))) {i : Int} (h0 : 0 ≤ i) (h1 : i < (xs.length : Int)) : p (at_ xs i) := by
  have := h i.toNat (by omega)
  rwa [show ((i.toNat : Nat) : Int) = i by omega] at this
theorem all_iff {α : Type} [Inhabited α] {xs : List α} {p : α → Prop} : (∀ i, i < xs.length → p (at_ xs (i : Int))) ↔ ∀ y, y ∈ xs → p y := by
  refine ⟨fun h y hy => ?_, fun h i hi => h _ (at_mem (by omega) (by omega))⟩
  obtain ⟨i, hi, rfl⟩ := List.getElem_of_mem hy
  have := h i hi
  rwa [at_nat hi] at this
theorem take_succ' {α : Type} {xs : List α} {i : Nat} (h : i < xs.length) : xs.take (i + 1) = xs.take i ++ [xs[i]] := List.take_succ_eq_append_getElem h
theorem count_take {α : Type} (p : α → Bool) {xs : List α} {i : Nat} (h : i < xs.length) : (xs.take (i + 1)).countP p = (xs.take i).countP p + (if p xs[i] then 1 else 0) := by
  rw [take_succ' h, List.countP_append, List.countP_singleton]
theorem count_le {α : Type} (p : α → Bool) (xs : List α) : xs.countP p ≤ xs.length := List.countP_le_length
theorem set_take {α : Type} {xs : List α} {i j : Nat} (v : α) (h : j < xs.length) : (xs.set i v)[j]'(by rw [List.length_set]; exact h) = if i = j then v else xs[j] := by rw [List.getElem_set]
theorem at_set_ne {α : Type} [Inhabited α] {xs : List α} {i : Nat} {j : Int} {v : α} (h0 : 0 ≤ j) (h : (i : Int) ≠ j) : at_ (xs.set i v) j = at_ xs j := by
  rw [at_getD, at_getD, List.getD_eq_getElem?_getD, List.getD_eq_getElem?_getD, List.getElem?_set_ne (by omega)]
theorem at_set_eq {α : Type} [Inhabited α] {xs : List α} {i : Nat} {v : α} (h : i < xs.length) : at_ (xs.set i v) (i : Int) = v := by
  rw [at_getD, List.getD_eq_getElem?_getD, Int.toNat_natCast, List.getElem?_set_self h]; rfl
theorem at_app_left {α : Type} [Inhabited α] (a b : List α) {i : Int} (h0 : 0 ≤ i) (h : i < (a.length : Int)) : at_ (a ++ b) i = at_ a i := by
  rw [at_getD, at_getD, List.getD_eq_getElem?_getD, List.getD_eq_getElem?_getD, List.getElem?_append_left (by omega)]
theorem at_app_right {α : Type} [Inhabited α] (a b : List α) {i : Int} (h : (a.length : Int) ≤ i) : at_ (a ++ b) i = at_ b (i - a.length) := by
  rw [at_getD, at_getD, List.getD_eq_getElem?_getD, List.getD_eq_getElem?_getD, List.getElem?_append_right (by omega)]
  congr 2; omega
theorem at_app_last {α : Type} [Inhabited α] (a : List α) (v : α) : at_ (a ++ [v]) (a.length : Int) = v := by
  rw [at_app_right a [v] (by omega), Int.sub_self]; rfl
theorem at_take {α : Type} [Inhabited α] (xs : List α) {n : Nat} {i : Int} (h0 : 0 ≤ i) (h : i < n) : at_ (xs.take n) i = at_ xs i := by
  rw [at_getD, at_getD, List.getD_eq_getElem?_getD, List.getD_eq_getElem?_getD, List.getElem?_take_of_lt (by omega)]
theorem at_rep {α : Type} [Inhabited α] (n : Nat) (v : α) {i : Int} (h0 : 0 ≤ i) (h : i < n) : at_ (List.replicate n v) i = v := by
  rw [at_int h0 (by simpa using h)]; simp
theorem tmod_of {a : Int} (b : Int) (h : 0 ≤ a) : a.tmod b = a % b := Int.tmod_eq_emod_of_nonneg h
theorem tdiv_of {a : Int} (b : Int) (h : 0 ≤ a) : a.tdiv b = a / b := Int.tdiv_eq_ediv_of_nonneg h
theorem range_at {n : Nat} {f : Nat → Int} {i : Int} (h0 : 0 ≤ i) (h : i < n) : at_ ((List.range n).map f) i = f i.toNat := by
  rw [at_int h0 (by simpa using h)]; simp
theorem range_set {α : Type} (n : Nat) (f : Nat → α) (i : Nat) (v : α) : ((List.range n).map f).set i v = (List.range n).map (fun j => if j = i then v else f j) := by
  refine List.ext_getElem (by simp) fun j h1 h2 => ?_
  simp only [List.getElem_set, List.getElem_map, List.getElem_range]
  by_cases e : i = j
  · rw [if_pos e, if_pos e.symm]
  · rw [if_neg e, if_neg (fun g => e g.symm)]
theorem range_congr {α : Type} {n : Nat} {f g : Nat → α} (h : ∀ j, j < n → f j = g j) : (List.range n).map f = (List.range n).map g :=
  List.map_congr_left fun j hj => h j (List.mem_range.1 hj)
/-- A loop that counts up and stops where P does not hold. -/
theorem ev_scan {R : Type} (n : Nat) (P : Nat → Prop) (bad : R) (G : Nat → Nat → Option R) {r : R} (hr : (∃ i, i < n ∧ ¬ P i) → r = bad)
    (hstep : ∀ i, i < n → (∀ j, j < i → P j) → (P i → Ev (fun k => G k (i + 1)) r) → (¬ P i → r = bad) → Ev (fun k => G k i) r)
    (hend : (∀ i, i < n → P i) → Ev (fun k => G k n) r) : Ev (fun k => G k 0) r := by
  have key : ∀ d i, i + d = n → (∀ j, j < i → P j) → Ev (fun k => G k i) r := by
    intro d
    induction d with
    | zero => intro i hi hp; obtain rfl : i = n := by omega
              exact hend hp
    | succ d ih =>
      intro i hi hp
      refine hstep i (by omega) hp (fun h => ih (i + 1) (by omega) fun j hj => ?_) (fun h => hr ⟨i, by omega, h⟩)
      rcases Nat.lt_or_ge j i with g | g
      · exact hp j g
      · obtain rfl : j = i := by omega
        exact h
  exact key n 0 (by omega) (fun j hj => absurd hj (by omega))
theorem bool_eq {b : Bool} {P : Prop} (hb : b = true ↔ P) (h : P) : b = true := hb.2 h
theorem not_all {n : Nat} {P : Nat → Prop} (h : ¬ ∀ i, i < n → P i) : ∃ i, i < n ∧ ¬ P i := by
  classical
  exact Classical.byContradiction fun g => h fun i hi => Classical.byContradiction fun q => g ⟨i, hi, q⟩
theorem mem_take_iff {α : Type} [Inhabited α] {xs : List α} {n : Nat} {v : α} (h : n ≤ xs.length) : v ∈ xs.take n ↔ ∃ i, i < n ∧ at_ xs (i : Int) = v := by
  constructor
  · intro hv
    obtain ⟨i, hi, e⟩ := List.getElem_of_mem hv
    rw [List.length_take] at hi
    rw [List.getElem_take] at e
    exact ⟨i, by omega, by rw [at_nat (by omega)]; exact e⟩
  · rintro ⟨i, hi, e⟩
    rw [at_nat (by omega)] at e
    rw [← e]
    exact List.mem_take_iff_getElem.2 ⟨i, by omega, rfl⟩
theorem mem_at {α : Type} [Inhabited α] {xs : List α} {v : α} : v ∈ xs ↔ ∃ i, i < xs.length ∧ at_ xs (i : Int) = v := by
  have := mem_take_iff (xs := xs) (v := v) (Nat.le_refl _)
  rwa [List.take_length] at this
theorem sz_IntS (x : (List Int)) (left : Int) (h0 : 0 ≤ left) (h1 : left ≤ 1048576) (ho : (x.length ≤ maxLen ∧ ∀ y ∈ x, (Lit.int .i64 y).wf = true)) : Evx (fun k => laws_szIntS.f x left) (fun r => r < 0 ∨ (0 ≤ r ∧ r ≤ left ∧ (x.length ≤ 1048576))) := by
  have hm : maxLen = 9223372036854775807 := rfl
  unfold laws_szIntS.f
  obtain ⟨hl, hy⟩ := ho
  rw [wrap_id (by omega) (by omega)]
  refine Evx.ite (fun h => Evx.val (.inl (by decide))) (fun h => ?_)
  exact Evx.val (.inr ⟨by omega, by omega, by omega⟩)
theorem sz_NeedS (x : (List S93)) (left : Int) (h0 : 0 ≤ left) (h1 : left ≤ 1048576) (ho : (x.length ≤ maxLen ∧ ∀ y ∈ x, ok93 y)) : Evx (fun k => laws_szNeedS.f x left) (fun r => r < 0 ∨ (0 ≤ r ∧ r ≤ left ∧ (x.length ≤ 1048576))) := by
  have hm : maxLen = 9223372036854775807 := rfl
  unfold laws_szNeedS.f
  obtain ⟨hl, hy⟩ := ho
  rw [wrap_id (by omega) (by omega)]
  refine Evx.ite (fun h => Evx.val (.inl (by decide))) (fun h => ?_)
  exact Evx.val (.inr ⟨by omega, by omega, by omega⟩)
theorem sz_Route (x : S142) (left : Int) (h0 : 0 ≤ left) (h1 : left ≤ 1048576) (ho : ok142 x) : Evx (fun k => laws_szRoute.f x left) (fun r => r < 0 ∨ (0 ≤ r ∧ r ≤ left ∧ ((x.f0.length ≤ 1048576) ∧ (x.f1.length ≤ 1048576)))) := by
  have hm : maxLen = 9223372036854775807 := rfl
  unfold laws_szRoute.f
  unfold ok142 at ho
  obtain ⟨o0, o1⟩ := ho
  refine Evx.bind (sz_NeedS x.f0 left (by omega) (by omega) o0) (fun r0 hr0 => ?_)
  refine Evx.ite (fun h => Evx.val (.inl (by decide))) (fun h0_ => ?_)
  obtain ⟨p0, q0, b0⟩ := hr0.resolve_left h0_
  refine Evx.bind (sz_IntS x.f1 r0 (by omega) (by omega) o1) (fun r1 hr1 => ?_)
  refine Evx.ite (fun h => Evx.val (.inl (by decide))) (fun h1_ => ?_)
  obtain ⟨p1, q1, b1⟩ := hr1.resolve_left h1_
  exact Evx.val (.inr ⟨by omega, by omega, b0, b1⟩)
theorem sz_RouteS (x : (List S142)) (left : Int) (h0 : 0 ≤ left) (h1 : left ≤ 1048576) (ho : (x.length ≤ maxLen ∧ ∀ y ∈ x, ok142 y)) : Evx (fun k => laws_szRouteS.f k x left) (fun r => r < 0 ∨ (0 ≤ r ∧ r ≤ left ∧ (x.length ≤ 1048576 ∧ ∀ y ∈ x, ((y.f0.length ≤ 1048576) ∧ (y.f1.length ≤ 1048576))))) := by
  have hm : maxLen = 9223372036854775807 := rfl
  unfold laws_szRouteS.f
  obtain ⟨hl, hy⟩ := ho
  rw [wrap_id (by omega) (by omega)]
  refine Evx.ite (fun h => Evx.val (.inl (by decide))) (fun h => ?_)
  refine evx_loop (fun k i (l : Int) => laws_szRouteS.l0 k x l (i : Int)) x.length (fun i l => 0 ≤ l ∧ l ≤ left - x.length ∧ ∀ j (h : j < x.length), j < i → (fun y => ((y.f0.length ≤ 1048576) ∧ (y.f1.length ≤ 1048576))) x[j]) _ ?_ ?_ _ ⟨by omega, by omega, fun j _ h => absurd h (by omega)⟩
  · intro i l hi ⟨a1, a2, a3⟩ hn
    refine Evx.step (fun k => by simp only [laws_szRouteS.l0]; rfl) ?_
    refine Evx.pos (by omega) (Evx.pos (by omega) ?_)
    rw [at_nat hi]
    refine Evx.bind (sz_Route x[i] l a1 (by omega) (hy _ (List.getElem_mem hi))) (fun r hr => ?_)
    rw [wrap_succ hi (by omega)]
    refine Evx.ite (fun h => Evx.val (.inl (by decide))) (fun h => ?_)
    obtain ⟨b1, b2, b3⟩ := hr.resolve_left h
    refine hn r ⟨b1, by omega, fun j hj hij => ?_⟩
    rcases Nat.lt_or_ge j i with g | g
    · exact a3 j hj g
    · obtain rfl : j = i := by omega
      exact b3
  · intro l ⟨a1, a2, a3⟩
    refine Evx.step (fun k => by simp only [laws_szRouteS.l0]; rfl) ?_
    refine Evx.neg (by omega) (Evx.val (.inr ⟨a1, by omega, by omega, fun y hy => ?_⟩))
    obtain ⟨j, hj, rfl⟩ := List.getElem_of_mem hy
    exact a3 j hj hj
theorem sz_Plant (x : S24) (left : Int) (h0 : 0 ≤ left) (h1 : left ≤ 1048576) (ho : ok24 x) : Evx (fun k => laws_szPlant.f k x left) (fun r => r < 0 ∨ (0 ≤ r ∧ r ≤ left ∧ ((x.f0.length ≤ 1048576) ∧ (x.f2.length ≤ 1048576 ∧ ∀ y ∈ x.f2, ((y.f0.length ≤ 1048576) ∧ (y.f1.length ≤ 1048576)))))) := by
  have hm : maxLen = 9223372036854775807 := rfl
  unfold laws_szPlant.f
  unfold ok24 at ho
  obtain ⟨o0, o1, o2⟩ := ho
  refine Evx.bind (sz_IntS x.f0 left (by omega) (by omega) o0) (fun r0 hr0 => ?_)
  refine Evx.ite (fun h => Evx.val (.inl (by decide))) (fun h0_ => ?_)
  obtain ⟨p0, q0, b0⟩ := hr0.resolve_left h0_
  refine Evx.bind (sz_RouteS x.f2 r0 (by omega) (by omega) o2) (fun r2 hr2 => ?_)
  refine Evx.ite (fun h => Evx.val (.inl (by decide))) (fun h2_ => ?_)
  obtain ⟨p2, q2, b2⟩ := hr2.resolve_left h2_
  exact Evx.val (.inr ⟨by omega, by omega, b0, b2⟩)
theorem sz_BoolS (x : (List Bool)) (left : Int) (h0 : 0 ≤ left) (h1 : left ≤ 1048576) (ho : (x.length ≤ maxLen ∧ ∀ y ∈ x, True)) : Evx (fun k => laws_szBoolS.f x left) (fun r => r < 0 ∨ (0 ≤ r ∧ r ≤ left ∧ (x.length ≤ 1048576))) := by
  have hm : maxLen = 9223372036854775807 := rfl
  unfold laws_szBoolS.f
  obtain ⟨hl, hy⟩ := ho
  rw [wrap_id (by omega) (by omega)]
  refine Evx.ite (fun h => Evx.val (.inl (by decide))) (fun h => ?_)
  exact Evx.val (.inr ⟨by omega, by omega, by omega⟩)
theorem sz_Locking (x : S37) (left : Int) (h0 : 0 ≤ left) (h1 : left ≤ 1048576) (ho : ok37 x) : Evx (fun k => laws_szLocking.f x left) (fun r => r < 0 ∨ (0 ≤ r ∧ r ≤ left ∧ ((x.f0.length ≤ 1048576) ∧ (x.f1.length ≤ 1048576) ∧ (x.f2.length ≤ 1048576)))) := by
  have hm : maxLen = 9223372036854775807 := rfl
  unfold laws_szLocking.f
  unfold ok37 at ho
  obtain ⟨o0, o1, o2⟩ := ho
  refine Evx.bind (sz_IntS x.f0 left (by omega) (by omega) o0) (fun r0 hr0 => ?_)
  refine Evx.ite (fun h => Evx.val (.inl (by decide))) (fun h0_ => ?_)
  obtain ⟨p0, q0, b0⟩ := hr0.resolve_left h0_
  refine Evx.bind (sz_BoolS x.f1 r0 (by omega) (by omega) o1) (fun r1 hr1 => ?_)
  refine Evx.ite (fun h => Evx.val (.inl (by decide))) (fun h1_ => ?_)
  obtain ⟨p1, q1, b1⟩ := hr1.resolve_left h1_
  refine Evx.bind (sz_BoolS x.f2 r1 (by omega) (by omega) o2) (fun r2 hr2 => ?_)
  refine Evx.ite (fun h => Evx.val (.inl (by decide))) (fun h2_ => ?_)
  obtain ⟨p2, q2, b2⟩ := hr2.resolve_left h2_
  exact Evx.val (.inr ⟨by omega, by omega, b0, b1, b2⟩)
theorem to_IntS (x : (List Int)) (hb : (x.length ≤ 1048576)) : Ev (fun k => laws_toIntS.f k x) x := by
  unfold laws_toIntS.f
  have hl := hb
  refine Ev.pos (by omega) (Ev.pos (by omega) ?_)
  rw [Int.toNat_natCast]
  refine ev_fill x id _ (fun k s i => laws_toIntS.l0 k x s (i : Int)) ?_ ?_
  · intro i hi s hs hn
    refine Ev.step (fun k => by simp only [laws_toIntS.l0]; rfl) ?_
    refine Ev.pos (by omega) (Ev.pos (by omega) ?_)
    rw [at_nat hi]
    refine Ev.pos (by omega) ?_
    rw [Int.toNat_natCast, wrap_succ hi (by omega)]
    exact hn
  · refine Ev.step (fun k => by simp only [laws_toIntS.l0]; rfl) ?_
    refine Ev.neg (by omega) (ev_val (List.map_id x))
theorem to_Need (x : S93) (hb : True) : Ev (fun k => laws_toNeed.f x) x := by
  unfold laws_toNeed.f
  exact ev_val rfl
theorem to_NeedS (x : (List S93)) (hb : (x.length ≤ 1048576)) : Ev (fun k => laws_toNeedS.f k x) x := by
  unfold laws_toNeedS.f
  have hl := hb
  refine Ev.pos (by omega) (Ev.pos (by omega) ?_)
  rw [Int.toNat_natCast]
  refine ev_fill x id _ (fun k s i => laws_toNeedS.l0 k x s (i : Int)) ?_ ?_
  · intro i hi s hs hn
    refine Ev.step (fun k => by simp only [laws_toNeedS.l0]; rfl) ?_
    refine Ev.pos (by omega) (Ev.pos (by omega) ?_)
    rw [at_nat hi]
    refine Ev.bind (to_Need x[i] trivial) ?_
    refine Ev.pos (by omega) ?_
    rw [Int.toNat_natCast, wrap_succ hi (by omega)]
    exact hn
  · refine Ev.step (fun k => by simp only [laws_toNeedS.l0]; rfl) ?_
    refine Ev.neg (by omega) (ev_val (List.map_id x))
abbrev cv142_83 (x : S142) : S83 := ⟨x.f0, x.f1⟩
theorem bd_cv142_83 (x : S142) (h : ((x.f0.length ≤ 1048576) ∧ (x.f1.length ≤ 1048576))) : (((cv142_83 x).f0.length ≤ 1048576) ∧ ((cv142_83 x).f1.length ≤ 1048576)) := ⟨h.1, h.2⟩
theorem to_Route (x : S142) (hb : ((x.f0.length ≤ 1048576) ∧ (x.f1.length ≤ 1048576))) : Ev (fun k => laws_toRoute.f k x) (cv142_83 x) := by
  unfold laws_toRoute.f
  refine Ev.bind (to_NeedS x.f0 hb.1) ?_
  refine Ev.bind (to_IntS x.f1 hb.2) ?_
  exact ev_val rfl
theorem to_RouteS (x : (List S142)) (hb : (x.length ≤ 1048576 ∧ ∀ y ∈ x, ((y.f0.length ≤ 1048576) ∧ (y.f1.length ≤ 1048576)))) : Ev (fun k => laws_toRouteS.f k x) (x.map cv142_83) := by
  unfold laws_toRouteS.f
  obtain ⟨hl, hy⟩ := hb
  refine Ev.pos (by omega) (Ev.pos (by omega) ?_)
  rw [Int.toNat_natCast]
  refine ev_fill x cv142_83 _ (fun k s i => laws_toRouteS.l0 k x s (i : Int)) ?_ ?_
  · intro i hi s hs hn
    refine Ev.step (fun k => by simp only [laws_toRouteS.l0]; rfl) ?_
    refine Ev.pos (by omega) (Ev.pos (by omega) ?_)
    rw [at_nat hi]
    refine Ev.bind (to_Route x[i] (hy _ (List.getElem_mem hi))) ?_
    refine Ev.pos (by omega) ?_
    rw [Int.toNat_natCast, wrap_succ hi (by omega)]
    exact hn
  · refine Ev.step (fun k => by simp only [laws_toRouteS.l0]; rfl) ?_
    refine Ev.neg (by omega) (ev_val rfl)
abbrev cv24_29 (x : S24) : S29 := ⟨x.f0, x.f1, (x.f2.map cv142_83)⟩
theorem bd_cv24_29 (x : S24) (h : ((x.f0.length ≤ 1048576) ∧ (x.f2.length ≤ 1048576 ∧ ∀ y ∈ x.f2, ((y.f0.length ≤ 1048576) ∧ (y.f1.length ≤ 1048576))))) : (((cv24_29 x).f0.length ≤ 1048576) ∧ ((cv24_29 x).f2.length ≤ 1048576 ∧ ∀ y ∈ (cv24_29 x).f2, ((y.f0.length ≤ 1048576) ∧ (y.f1.length ≤ 1048576)))) := ⟨h.1, ⟨by rw [List.length_map]; exact h.2.1, fun y hy => by obtain ⟨x, hx, rfl⟩ := List.mem_map.1 hy; exact bd_cv142_83 x (h.2.2 x hx)⟩⟩
theorem to_Plant (x : S24) (hb : ((x.f0.length ≤ 1048576) ∧ (x.f2.length ≤ 1048576 ∧ ∀ y ∈ x.f2, ((y.f0.length ≤ 1048576) ∧ (y.f1.length ≤ 1048576))))) : Ev (fun k => laws_toPlant.f k x) (cv24_29 x) := by
  unfold laws_toPlant.f
  refine Ev.bind (to_IntS x.f0 hb.1) ?_
  refine Ev.bind (to_RouteS x.f2 hb.2) ?_
  exact ev_val rfl
theorem to_BoolS (x : (List Bool)) (hb : (x.length ≤ 1048576)) : Ev (fun k => laws_toBoolS.f k x) x := by
  unfold laws_toBoolS.f
  have hl := hb
  refine Ev.pos (by omega) (Ev.pos (by omega) ?_)
  rw [Int.toNat_natCast]
  refine ev_fill x id _ (fun k s i => laws_toBoolS.l0 k x s (i : Int)) ?_ ?_
  · intro i hi s hs hn
    refine Ev.step (fun k => by simp only [laws_toBoolS.l0]; rfl) ?_
    refine Ev.pos (by omega) (Ev.pos (by omega) ?_)
    rw [at_nat hi]
    refine Ev.pos (by omega) ?_
    rw [Int.toNat_natCast, wrap_succ hi (by omega)]
    exact hn
  · refine Ev.step (fun k => by simp only [laws_toBoolS.l0]; rfl) ?_
    refine Ev.neg (by omega) (ev_val (List.map_id x))
theorem to_Locking (x : S37) (hb : ((x.f0.length ≤ 1048576) ∧ (x.f1.length ≤ 1048576) ∧ (x.f2.length ≤ 1048576))) : Ev (fun k => laws_toLocking.f k x) x := by
  unfold laws_toLocking.f
  refine Ev.bind (to_IntS x.f0 hb.1) ?_
  refine Ev.bind (to_BoolS x.f1 hb.2.1) ?_
  refine Ev.bind (to_BoolS x.f2 hb.2.2) ?_
  exact ev_val rfl
theorem eq_IntS (x : (List Int)) (hb : (x.length ≤ 1048576)) : Ev (fun k => laws_eqIntS.f k x x) true := by
  unfold laws_eqIntS.f
  have hl := hb
  refine Ev.pos rfl ?_
  refine ev_fold (fun k i => laws_eqIntS.l0 k x x (i : Int)) x.length ?_ ?_
  · intro i hi hn
    refine Ev.step (fun k => by simp only [laws_eqIntS.l0]; rfl) ?_
    refine Ev.pos (by omega) (Ev.pos (by omega) ?_)
    try refine Ev.pos (by omega) ?_
    refine Ev.pos (by first | rfl | simp) ?_
    rw [wrap_succ hi (by omega)]
    exact hn
  · refine Ev.step (fun k => by simp only [laws_eqIntS.l0]; rfl) ?_
    exact Ev.neg (by omega) (ev_val rfl)
theorem eq_Need (x : S93) (hb : True) : Ev (fun k => laws_eqNeed.f x x) true := by
  unfold laws_eqNeed.f
  refine Ev.pos rfl ?_
  refine Ev.pos rfl ?_
  exact ev_val rfl
theorem eq_NeedS (x : (List S93)) (hb : (x.length ≤ 1048576)) : Ev (fun k => laws_eqNeedS.f k x x) true := by
  unfold laws_eqNeedS.f
  have hl := hb
  refine Ev.pos rfl ?_
  refine ev_fold (fun k i => laws_eqNeedS.l0 k x x (i : Int)) x.length ?_ ?_
  · intro i hi hn
    refine Ev.step (fun k => by simp only [laws_eqNeedS.l0]; rfl) ?_
    refine Ev.pos (by omega) (Ev.pos (by omega) ?_)
    try refine Ev.pos (by omega) ?_
    rw [at_nat hi]
    refine Ev.bind (eq_Need x[i] trivial) ?_
    refine Ev.pos (by first | rfl | simp) ?_
    rw [wrap_succ hi (by omega)]
    exact hn
  · refine Ev.step (fun k => by simp only [laws_eqNeedS.l0]; rfl) ?_
    exact Ev.neg (by omega) (ev_val rfl)
theorem eq_Route (x : S83) (hb : ((x.f0.length ≤ 1048576) ∧ (x.f1.length ≤ 1048576))) : Ev (fun k => laws_eqRoute.f k x x) true := by
  unfold laws_eqRoute.f
  refine Ev.bind (eq_NeedS x.f0 hb.1) ?_
  refine Ev.pos rfl ?_
  refine Ev.bind (eq_IntS x.f1 hb.2) ?_
  refine Ev.pos rfl ?_
  exact ev_val rfl
theorem eq_RouteS (x : (List S83)) (hb : (x.length ≤ 1048576 ∧ ∀ y ∈ x, ((y.f0.length ≤ 1048576) ∧ (y.f1.length ≤ 1048576)))) : Ev (fun k => laws_eqRouteS.f k x x) true := by
  unfold laws_eqRouteS.f
  obtain ⟨hl, hy⟩ := hb
  refine Ev.pos rfl ?_
  refine ev_fold (fun k i => laws_eqRouteS.l0 k x x (i : Int)) x.length ?_ ?_
  · intro i hi hn
    refine Ev.step (fun k => by simp only [laws_eqRouteS.l0]; rfl) ?_
    refine Ev.pos (by omega) (Ev.pos (by omega) ?_)
    try refine Ev.pos (by omega) ?_
    rw [at_nat hi]
    refine Ev.bind (eq_Route x[i] (hy _ (List.getElem_mem hi))) ?_
    refine Ev.pos (by first | rfl | simp) ?_
    rw [wrap_succ hi (by omega)]
    exact hn
  · refine Ev.step (fun k => by simp only [laws_eqRouteS.l0]; rfl) ?_
    exact Ev.neg (by omega) (ev_val rfl)
theorem eq_Plant (x : S29) (hb : ((x.f0.length ≤ 1048576) ∧ (x.f2.length ≤ 1048576 ∧ ∀ y ∈ x.f2, ((y.f0.length ≤ 1048576) ∧ (y.f1.length ≤ 1048576))))) : Ev (fun k => laws_eqPlant.f k x x) true := by
  unfold laws_eqPlant.f
  refine Ev.bind (eq_IntS x.f0 hb.1) ?_
  refine Ev.pos rfl ?_
  refine Ev.pos rfl ?_
  refine Ev.bind (eq_RouteS x.f2 hb.2) ?_
  refine Ev.pos rfl ?_
  exact ev_val rfl
theorem eq_BoolS (x : (List Bool)) (hb : (x.length ≤ 1048576)) : Ev (fun k => laws_eqBoolS.f k x x) true := by
  unfold laws_eqBoolS.f
  have hl := hb
  refine Ev.pos rfl ?_
  refine ev_fold (fun k i => laws_eqBoolS.l0 k x x (i : Int)) x.length ?_ ?_
  · intro i hi hn
    refine Ev.step (fun k => by simp only [laws_eqBoolS.l0]; rfl) ?_
    refine Ev.pos (by omega) (Ev.pos (by omega) ?_)
    try refine Ev.pos (by omega) ?_
    refine Ev.pos (by first | rfl | simp) ?_
    rw [wrap_succ hi (by omega)]
    exact hn
  · refine Ev.step (fun k => by simp only [laws_eqBoolS.l0]; rfl) ?_
    exact Ev.neg (by omega) (ev_val rfl)
theorem eq_Locking (x : S37) (hb : ((x.f0.length ≤ 1048576) ∧ (x.f1.length ≤ 1048576) ∧ (x.f2.length ≤ 1048576))) : Ev (fun k => laws_eqLocking.f k x x) true := by
  unfold laws_eqLocking.f
  refine Ev.bind (eq_IntS x.f0 hb.1) ?_
  refine Ev.pos rfl ?_
  refine Ev.bind (eq_BoolS x.f1 hb.2.1) ?_
  refine Ev.pos rfl ?_
  refine Ev.bind (eq_BoolS x.f2 hb.2.2) ?_
  refine Ev.pos rfl ?_
  exact ev_val rfl
theorem eq_impl_between (a b c : Int) : impl_between.f a b c = some (decide (b ≤ a ∧ a ≤ c)) := by
  unfold impl_between.f
  by_cases h : a ≥ b
  · rw [if_pos h]; simp [show b ≤ a from h]
  · rw [if_neg h]; simp [show ¬ b ≤ a from h]
theorem eq_spec_l01In (a b c : Int) : spec_l01In.f a b c = some (decide (b ≤ a ∧ a ≤ c)) := by
  unfold spec_l01In.f
  by_cases h : b ≤ a
  · rw [if_pos h]; simp [h]
  · rw [if_neg h]; simp [h]
theorem ev_spec_l01Has (xs : List Int) (v : Int) (hl : xs.length ≤ 1048576) (b : Bool) (hb : b = true ↔ v ∈ xs) : Ev (fun k => spec_l01Has.f k xs v) b := by
  unfold spec_l01Has.f
  refine ev_scan xs.length (fun i => at_ xs (i : Int) ≠ v) true (fun k i => spec_l01Has.l0 k xs v (i : Int)) (fun ⟨i, hi, h⟩ => hb.2 (mem_at.2 ⟨i, hi, Classical.not_not.1 h⟩)) ?_ ?_
  · intro i hi _ hn hx
    refine Ev.step (fun k => by simp only [spec_l01Has.l0]; rfl) ?_
    rw [wrap_succ hi (by omega)]
    exact Ev.pos (by omega) (Ev.pos (by omega) (Ev.ite (fun h => ev_val (hx fun g => g h).symm) (fun h => hn h)))
  · intro hp
    refine Ev.step (fun k => by simp only [spec_l01Has.l0]; rfl) ?_
    exact Ev.neg (by omega) (ev_val (bool_not hb fun g => by obtain ⟨i, hi, e⟩ := mem_at.1 g; exact hp i hi e).symm)
theorem ev_impl_has (xs : List Int) (v : Int) (hl : xs.length ≤ 1048576) (b : Bool) (hb : b = true ↔ v ∈ xs) : Ev (fun k => impl_has.f k xs v) b := by
  unfold impl_has.f
  refine ev_scan xs.length (fun i => at_ xs (i : Int) ≠ v) true (fun k i => impl_has.l0 k xs v (i : Int)) (fun ⟨i, hi, h⟩ => hb.2 (mem_at.2 ⟨i, hi, Classical.not_not.1 h⟩)) ?_ ?_
  · intro i hi _ hn hx
    refine Ev.step (fun k => by simp only [impl_has.l0]; rfl) ?_
    rw [wrap_succ hi (by omega)]
    exact Ev.pos (by omega) (Ev.pos (by omega) (Ev.ite (fun h => ev_val (hx fun g => g h).symm) (fun h => hn h)))
  · intro hp
    refine Ev.step (fun k => by simp only [impl_has.l0]; rfl) ?_
    exact Ev.neg (by omega) (ev_val (bool_not hb fun g => by obtain ⟨i, hi, e⟩ := mem_at.1 g; exact hp i hi e).symm)
/-- A route is right in a plant with so many points and blocks. -/
def NeedsP (u : Int) (r : S83) : Prop := ∀ i, i < r.f0.length → (0 ≤ (at_ r.f0 (i : Int)).f0 ∧ (at_ r.f0 (i : Int)).f0 ≤ u - 1) ∧ (0 ≤ (at_ r.f0 (i : Int)).f1 ∧ (at_ r.f0 (i : Int)).f1 ≤ 1) ∧ (0 < i → (at_ r.f0 ((i : Int) - 1)).f0 < (at_ r.f0 (i : Int)).f0)
def BlocksP (n : Int) (r : S83) : Prop := ∀ i, i < r.f1.length → (0 ≤ at_ r.f1 (i : Int) ∧ at_ r.f1 (i : Int) ≤ n - 1) ∧ at_ r.f1 (i : Int) ∉ r.f1.take i
def RouteP (u n : Int) (r : S83) : Prop := NeedsP u r ∧ BlocksP n r ∧ 1 ≤ r.f1.length
theorem needs_len {u : Int} {r : S83} (h : NeedsP u r) (hu : 0 ≤ u) : (r.f0.length : Int) ≤ u := by
  have key : ∀ i, i < r.f0.length → (i : Int) ≤ (at_ r.f0 (i : Int)).f0 := by
    intro i
    induction i with
    | zero => intro hi; exact (h 0 hi).1.1
    | succ i ih =>
      intro hi
      have h1 := ih (by omega)
      have h2 := (h (i + 1) hi).2.2 (by omega)
      rw [show ((i + 1 : Nat) : Int) - 1 = (i : Int) by omega] at h2
      omega
  rcases Nat.eq_zero_or_pos r.f0.length with h0 | h0
  · omega
  · have h1 := key (r.f0.length - 1) (by omega)
    have h2 := (h (r.f0.length - 1) (by omega)).1.2
    omega
theorem count_one {xs : List Int} (v : Int) (h : ∀ i, i < xs.length → at_ xs (i : Int) ∉ xs.take i) : ∀ i, i ≤ xs.length → (xs.take i).countP (fun y => y == v) ≤ 1 := by
  intro i
  induction i with
  | zero => intro _; simp
  | succ i ih =>
    intro hi
    have h1 := ih (by omega)
    rw [count_take _ (by omega : i < xs.length)]
    by_cases e : xs[i] = v
    · have h2 := h i (by omega)
      rw [at_nat (by omega : i < xs.length), e] at h2
      have : (xs.take i).countP (fun y => y == v) = 0 := by
        rw [List.countP_eq_zero]
        intro y hy g
        rw [beq_iff_eq] at g
        exact h2 (g ▸ hy)
      rw [this]
      split <;> omega
    · rw [if_neg (by simpa using e)]; omega
theorem pigeon : ∀ (n : Nat) (xs : List Int), (∀ y, y ∈ xs → 0 ≤ y ∧ y < (n : Int)) → (∀ v, xs.countP (fun y => y == v) ≤ 1) → xs.length ≤ n
  | 0, xs, h, _ => by
    cases xs with
    | nil => simp
    | cons y r => have := h y (by simp); omega
  | n + 1, xs, h, hc => by
    have e := List.length_eq_countP_add_countP (fun y : Int => y == (n : Int)) (l := xs)
    have h1 := hc (n : Int)
    have e2 : xs.countP (fun y => ¬ (y == (n : Int)) = true) = (xs.filter (fun y => !(y == (n : Int)))).length := by
      rw [List.countP_eq_length_filter]
      congr 1
      refine List.filter_congr fun y _ => ?_
      cases (y == (n : Int)) <;> rfl
    have ih := pigeon n (xs.filter (fun y => !(y == (n : Int)))) (fun y hy => by
      rw [List.mem_filter] at hy
      have h2 := h y hy.1
      have h3 : y ≠ (n : Int) := by simpa using hy.2
      omega) (fun v => by
      have := hc v
      rw [List.countP_filter]
      refine Nat.le_trans (List.countP_mono_left fun y _ g => ?_) this
      rw [Bool.and_eq_true] at g
      exact g.1)
    omega
theorem blocks_len {n : Int} {r : S83} (h : BlocksP n r) (hn : 0 ≤ n) : (r.f1.length : Int) ≤ n := by
  have h1 : ∀ y, y ∈ r.f1 → 0 ≤ y ∧ y < (n.toNat : Int) := fun y hy => by
    obtain ⟨i, hi, rfl⟩ := mem_at.1 hy
    have := (h i hi).1
    omega
  have h2 : ∀ v, r.f1.countP (fun y => y == v) ≤ 1 := fun v => by
    have := count_one v (fun i hi => (h i hi).2) r.f1.length (Nat.le_refl _)
    rwa [List.take_length] at this
  have := pigeon n.toNat r.f1 h1 h2
  omega
theorem ev_spec_l06Route (p : S29) (r : S83) (hp : p.f0.length ≤ 1048576) (hn : 1 ≤ p.f1 ∧ p.f1 ≤ 24) (h0 : r.f0.length ≤ 1048576) (h1 : r.f1.length ≤ 1048576) (b : Bool) (hb : b = true ↔ RouteP p.f0.length p.f1 r) : Ev (fun k => spec_l06Route.f k p r) b := by
  unfold spec_l06Route.f
  have bad : ¬ RouteP p.f0.length p.f1 r → b = false := bool_not hb
  refine ev_scan r.f0.length _ false (fun k i => spec_l06Route.l0 k p r (i : Int)) (fun ⟨i, hi, h⟩ => bad fun g => h (g.1 i hi)) ?_ ?_
  · intro i hi _ hnx hx
    refine Ev.step (fun k => by simp only [spec_l06Route.l0]; rfl) ?_
    rw [wrap_succ hi (by omega), wrap_id (x := (p.f0.length : Int) - 1) (by omega) (by omega), wrap_id (x := (i : Int) - 1) (by omega) (by omega)]
    refine Ev.pos (by omega) (Ev.pos (by omega) (Ev.opt (eq_spec_l01In _ _ _) (Ev.ite (fun g1 => ?_) (fun g1 => ev_val (hx fun g => g1 (decide_eq_true g.1)).symm))))
    have g1 := of_decide_eq_true g1
    refine Ev.opt (eq_spec_l01In _ _ _) (Ev.ite (fun g2 => ?_) (fun g2 => ev_val (hx fun g => g2 (decide_eq_true g.2.1)).symm))
    have g2 := of_decide_eq_true g2
    refine Ev.ite (fun g3 => ?_) (fun g3 => hnx ⟨g1, g2, fun g => by omega⟩)
    refine Ev.pos (by omega) (Ev.pos (by omega) (Ev.ite (fun g4 => ev_val (hx fun g => by have := g.2.2 (by omega); omega).symm) (fun g4 => hnx ⟨g1, g2, fun _ => by omega⟩)))
  · intro hN
    refine Ev.step (fun k => by simp only [spec_l06Route.l0]; rfl) ?_
    refine Ev.neg (by omega) ?_
    refine ev_scan r.f1.length _ false (fun k i => spec_l06Route.l1 k p r (i : Int)) (fun ⟨i, hi, h⟩ => bad fun g => h (g.2.1 i hi)) ?_ ?_
    · intro i hi _ hnx hx
      refine Ev.step (fun k => by simp only [spec_l06Route.l1]; rfl) ?_
      rw [wrap_succ hi (by omega), wrap_id (x := p.f1 - 1) (by omega) (by omega)]
      refine Ev.pos (by omega) (Ev.pos (by omega) (Ev.opt (eq_spec_l01In _ _ _) (Ev.ite (fun g1 => ?_) (fun g1 => ev_val (hx fun g => g1 (decide_eq_true g.1)).symm))))
      have g1 := of_decide_eq_true g1
      classical
      refine Ev.pos (by omega) ?_
      rw [Int.toNat_natCast, show (0 : Int).toNat = 0 from rfl, List.drop_zero, Nat.sub_zero]
      refine Ev.bind (ev_spec_l01Has _ _ (by rw [List.length_take]; omega) (decide (at_ r.f1 (i : Int) ∈ r.f1.take i)) decide_eq_true_iff) ?_
      exact Ev.ite (fun g2 => ev_val (hx fun g => g.2 (of_decide_eq_true g2)).symm) (fun g2 => hnx ⟨g1, fun g => g2 (decide_eq_true g)⟩)
    · intro hB
      refine Ev.step (fun k => by simp only [spec_l06Route.l1]; rfl) ?_
      refine Ev.neg (by omega) (ev_val ?_)
      rw [Bool.eq_iff_iff, decide_eq_true_iff, hb]
      exact ⟨fun g => ⟨hN, hB, by omega⟩, fun g => by have := g.2.2; omega⟩
theorem ev_impl_routeOk (p : S29) (r : S83) (hp : p.f0.length ≤ 1048576) (hn : 1 ≤ p.f1 ∧ p.f1 ≤ 24) (h0 : r.f0.length ≤ 1048576) (h1 : r.f1.length ≤ 1048576) (b : Bool) (hb : b = true ↔ RouteP p.f0.length p.f1 r) : Ev (fun k => impl_routeOk.f k p r) b := by
  unfold impl_routeOk.f
  have bad : ¬ RouteP p.f0.length p.f1 r → b = false := bool_not hb
  refine ev_scan r.f0.length _ false (fun k i => impl_routeOk.l0 k p r (i : Int)) (fun ⟨i, hi, h⟩ => bad fun g => h (g.1 i hi)) ?_ ?_
  · intro i hi _ hnx hx
    refine Ev.step (fun k => by simp only [impl_routeOk.l0]; rfl) ?_
    rw [wrap_succ hi (by omega), wrap_id (x := (p.f0.length : Int) - 1) (by omega) (by omega), wrap_id (x := (i : Int) - 1) (by omega) (by omega)]
    refine Ev.pos (by omega) (Ev.pos (by omega) (Ev.opt (eq_impl_between _ _ _) (Ev.ite (fun g1 => ?_) (fun g1 => ev_val (hx fun g => g1 (decide_eq_true g.1)).symm))))
    have g1 := of_decide_eq_true g1
    refine Ev.opt (eq_impl_between _ _ _) (Ev.ite (fun g2 => ?_) (fun g2 => ev_val (hx fun g => g2 (decide_eq_true g.2.1)).symm))
    have g2 := of_decide_eq_true g2
    refine Ev.ite (fun g3 => ?_) (fun g3 => hnx ⟨g1, g2, fun g => by omega⟩)
    refine Ev.pos (by omega) (Ev.pos (by omega) (Ev.ite (fun g4 => ev_val (hx fun g => by have := g.2.2 (by omega); omega).symm) (fun g4 => hnx ⟨g1, g2, fun _ => by omega⟩)))
  · intro hN
    refine Ev.step (fun k => by simp only [impl_routeOk.l0]; rfl) ?_
    refine Ev.neg (by omega) (Ev.ite (fun g => ev_val (bad fun q => by have := q.2.2; omega).symm) (fun g0 => Ev.ite (fun g => ev_val (bad fun q => by have := blocks_len q.2.1 (by omega); omega).symm) (fun _ => ?_)))
    refine ev_scan r.f1.length _ false (fun k i => impl_routeOk.l1 k p r (i : Int)) (fun ⟨i, hi, h⟩ => bad fun g => h (g.2.1 i hi)) ?_ ?_
    · intro i hi _ hnx hx
      refine Ev.step (fun k => by simp only [impl_routeOk.l1]; rfl) ?_
      rw [wrap_succ hi (by omega), wrap_id (x := p.f1 - 1) (by omega) (by omega)]
      refine Ev.pos (by omega) (Ev.pos (by omega) (Ev.opt (eq_impl_between _ _ _) (Ev.ite (fun g1 => ?_) (fun g1 => ev_val (hx fun g => g1 (decide_eq_true g.1)).symm))))
      have g1 := of_decide_eq_true g1
      classical
      refine Ev.pos (by omega) ?_
      rw [Int.toNat_natCast, show (0 : Int).toNat = 0 from rfl, List.drop_zero, Nat.sub_zero]
      refine Ev.bind (ev_impl_has _ _ (by rw [List.length_take]; omega) (decide (at_ r.f1 (i : Int) ∈ r.f1.take i)) decide_eq_true_iff) ?_
      exact Ev.ite (fun g2 => ev_val (hx fun g => g.2 (of_decide_eq_true g2)).symm) (fun g2 => hnx ⟨g1, fun g => g2 (decide_eq_true g)⟩)
    · intro hB
      refine Ev.step (fun k => by simp only [impl_routeOk.l1]; rfl) ?_
      exact Ev.neg (by omega) (ev_val (hb.2 ⟨hN, hB, by omega⟩).symm)
def PlantP (p : S29) : Prop := (p.f0.length ≤ 16 ∧ (1 ≤ p.f1 ∧ p.f1 ≤ 24) ∧ p.f2.length ≤ 12) ∧ (∀ i, i < p.f0.length → 0 ≤ at_ p.f0 (i : Int) ∧ at_ p.f0 (i : Int) ≤ p.f1 - 1) ∧ ∀ i, i < p.f2.length → RouteP p.f0.length p.f1 (at_ p.f2 (i : Int))
def PlantB (p : S29) : Prop := p.f0.length ≤ 1048576 ∧ p.f2.length ≤ 1048576 ∧ ∀ y, y ∈ p.f2 → y.f0.length ≤ 1048576 ∧ y.f1.length ≤ 1048576
theorem ev_spec_PlantOk (p : S29) (hB : PlantB p) (b : Bool) (hb : b = true ↔ PlantP p) : Ev (fun k => spec_PlantOk.f k p) b := by
  classical
  obtain ⟨B0, B1, B2⟩ := hB
  unfold spec_PlantOk.f
  have bad : ¬ PlantP p → b = false := bool_not hb
  refine Ev.ite (fun h => ev_val (bad fun g => by have := g.1.1; omega).symm) (fun g1 => ?_)
  refine Ev.opt (eq_spec_l01In _ _ _) (Ev.ite (fun h => ?_) (fun h => ev_val (bad fun g => h (decide_eq_true g.1.2.1)).symm))
  have g2 := of_decide_eq_true h
  refine Ev.ite (fun h => ev_val (bad fun g => by have := g.1.2.2; omega).symm) (fun g3 => ?_)
  refine ev_scan p.f0.length _ false (fun k i => spec_PlantOk.l0 k p (i : Int)) (fun ⟨i, hi, h⟩ => bad fun g => h (g.2.1 i hi)) ?_ ?_
  · intro i hi _ hnx hx
    refine Ev.step (fun k => by simp only [spec_PlantOk.l0]; rfl) ?_
    rw [wrap_succ hi (by omega), wrap_id (x := p.f1 - 1) (by omega) (by omega)]
    exact Ev.pos (by omega) (Ev.pos (by omega) (Ev.opt (eq_spec_l01In _ _ _) (Ev.ite (fun h => hnx (of_decide_eq_true h)) (fun h => ev_val (hx fun g => h (decide_eq_true g)).symm))))
  · intro hU
    refine Ev.step (fun k => by simp only [spec_PlantOk.l0]; rfl) ?_
    refine Ev.neg (by omega) ?_
    refine ev_scan p.f2.length _ false (fun k i => spec_PlantOk.l1 k p (i : Int)) (fun ⟨i, hi, h⟩ => bad fun g => h (g.2.2 i hi)) ?_ ?_
    · intro i hi _ hnx hx
      have hy := B2 _ (at_mem (xs := p.f2) (i := (i : Int)) (by omega) (by omega))
      refine Ev.step (fun k => by simp only [spec_PlantOk.l1]; rfl) ?_
      rw [wrap_succ hi (by omega)]
      refine Ev.pos (by omega) (Ev.pos (by omega) (Ev.ite (fun h => ev_val (hx fun g => by have := blocks_len g.2.1 (by omega); omega).symm) (fun _ => Ev.ite (fun h => ev_val (hx fun g => by have := needs_len g.1 (by omega); omega).symm) (fun _ => ?_))))
      refine Ev.bind (ev_spec_l06Route p _ B0 g2 hy.1 hy.2 (decide (RouteP p.f0.length p.f1 (at_ p.f2 (i : Int)))) decide_eq_true_iff) ?_
      exact Ev.ite (fun h => hnx (of_decide_eq_true h)) (fun h => ev_val (hx fun g => h (decide_eq_true g)).symm)
    · intro hR
      refine Ev.step (fun k => by simp only [spec_PlantOk.l1]; rfl) ?_
      exact Ev.neg (by omega) (ev_val (hb.2 ⟨⟨by omega, g2, by omega⟩, hU, hR⟩).symm)
theorem ev_impl_PlantOk (p : S29) (hB : PlantB p) (b : Bool) (hb : b = true ↔ PlantP p) : Ev (fun k => impl_PlantOk.f k p) b := by
  classical
  obtain ⟨B0, B1, B2⟩ := hB
  unfold impl_PlantOk.f
  have bad : ¬ PlantP p → b = false := bool_not hb
  refine Ev.opt (eq_impl_between _ _ _) (Ev.ite (fun h => ?_) (fun h => ev_val (bad fun g => h (decide_eq_true g.1.2.1)).symm))
  have g2 := of_decide_eq_true h
  refine Ev.ite (fun h => ev_val (bad fun g => by have := g.1.1; omega).symm) (fun g1 => ?_)
  refine Ev.ite (fun h => ev_val (bad fun g => by have := g.1.2.2; omega).symm) (fun g3 => ?_)
  refine ev_scan p.f0.length _ false (fun k i => impl_PlantOk.l0 k p (i : Int)) (fun ⟨i, hi, h⟩ => bad fun g => h (g.2.1 i hi)) ?_ ?_
  · intro i hi _ hnx hx
    refine Ev.step (fun k => by simp only [impl_PlantOk.l0]; rfl) ?_
    rw [wrap_succ hi (by omega), wrap_id (x := p.f1 - 1) (by omega) (by omega)]
    exact Ev.pos (by omega) (Ev.pos (by omega) (Ev.opt (eq_impl_between _ _ _) (Ev.ite (fun h => hnx (of_decide_eq_true h)) (fun h => ev_val (hx fun g => h (decide_eq_true g)).symm))))
  · intro hU
    refine Ev.step (fun k => by simp only [impl_PlantOk.l0]; rfl) ?_
    refine Ev.neg (by omega) ?_
    refine ev_scan p.f2.length _ false (fun k i => impl_PlantOk.l1 k p (i : Int)) (fun ⟨i, hi, h⟩ => bad fun g => h (g.2.2 i hi)) ?_ ?_
    · intro i hi _ hnx hx
      have hy := B2 _ (at_mem (xs := p.f2) (i := (i : Int)) (by omega) (by omega))
      refine Ev.step (fun k => by simp only [impl_PlantOk.l1]; rfl) ?_
      rw [wrap_succ hi (by omega)]
      refine Ev.pos (by omega) (Ev.pos (by omega) ?_)
      refine Ev.bind (ev_impl_routeOk p _ B0 g2 hy.1 hy.2 (decide (RouteP p.f0.length p.f1 (at_ p.f2 (i : Int)))) decide_eq_true_iff) ?_
      exact Ev.ite (fun h => hnx (of_decide_eq_true h)) (fun h => ev_val (hx fun g => h (decide_eq_true g)).symm)
    · intro hR
      refine Ev.step (fun k => by simp only [impl_PlantOk.l1]; rfl) ?_
      exact Ev.neg (by omega) (ev_val (hb.2 ⟨⟨by omega, g2, by omega⟩, hU, hR⟩).symm)
/-- Two routes stand against each other. -/
def AgainstP (a b : S83) : Prop := (∃ i, i < a.f1.length ∧ at_ a.f1 (i : Int) ∈ b.f1) ∨ ∃ i, i < a.f0.length ∧ ∃ j, j < b.f0.length ∧ (at_ a.f0 (i : Int)).f0 = (at_ b.f0 (j : Int)).f0 ∧ (at_ a.f0 (i : Int)).f1 ≠ (at_ b.f0 (j : Int)).f1
theorem ev_spec_l06Against (a r : S83) (ha0 : a.f0.length ≤ 1048576) (ha1 : a.f1.length ≤ 1048576) (hr0 : r.f0.length ≤ 1048576) (hr1 : r.f1.length ≤ 1048576) (b : Bool) (hb : b = true ↔ AgainstP a r) : Ev (fun k => spec_l06Against.f k a r) b := by
  classical
  unfold spec_l06Against.f
  refine ev_scan a.f1.length (fun i => at_ a.f1 (i : Int) ∉ r.f1) true (fun k i => spec_l06Against.l0 k a r (i : Int)) (fun ⟨i, hi, h⟩ => hb.2 (.inl ⟨i, hi, Classical.not_not.1 h⟩)) ?_ ?_
  · intro i hi _ hnx hx
    refine Ev.step (fun k => by simp only [spec_l06Against.l0]; rfl) ?_
    rw [wrap_succ hi (by omega)]
    refine Ev.pos (by omega) (Ev.pos (by omega) (Ev.bind (ev_spec_l01Has r.f1 (at_ a.f1 (i : Int)) hr1 (decide (at_ a.f1 (i : Int) ∈ r.f1)) decide_eq_true_iff) ?_))
    exact Ev.ite (fun h => ev_val (hx fun g => g (of_decide_eq_true h)).symm) (fun h => hnx fun g => h (decide_eq_true g))
  · intro hB
    refine Ev.step (fun k => by simp only [spec_l06Against.l0]; rfl) ?_
    refine Ev.neg (by omega) ?_
    refine ev_scan a.f0.length (fun i => ∀ j, j < r.f0.length → ¬ ((at_ a.f0 (i : Int)).f0 = (at_ r.f0 (j : Int)).f0 ∧ (at_ a.f0 (i : Int)).f1 ≠ (at_ r.f0 (j : Int)).f1)) true (fun k i => spec_l06Against.l1 k a r (i : Int)) (fun ⟨i, hi, h⟩ => hb.2 (.inr ⟨i, hi, by obtain ⟨j, hj, g⟩ := not_all h; exact ⟨j, hj, Classical.not_not.1 g⟩⟩)) ?_ ?_
    · intro i hi _ hnx hx
      refine Ev.step (fun k => by simp only [spec_l06Against.l1]; rfl) ?_
      refine Ev.pos (by omega) ?_
      try refine Ev.pos (by omega) ?_
      refine ev_scan r.f0.length (fun j => ¬ ((at_ a.f0 (i : Int)).f0 = (at_ r.f0 (j : Int)).f0 ∧ (at_ a.f0 (i : Int)).f1 ≠ (at_ r.f0 (j : Int)).f1)) true (fun k j => spec_l06Against.l2 k a r (i : Int) (j : Int)) (fun ⟨j, hj, h⟩ => hx fun g => h (g j hj)) ?_ ?_
      · intro j hj _ hnx2 hx2
        refine Ev.step (fun k => by simp only [spec_l06Against.l2]; rfl) ?_
        rw [wrap_succ hj (by omega)]
        refine Ev.pos (by omega) (Ev.pos (by omega) ?_)
        try refine Ev.pos (by omega) (Ev.pos (by omega) ?_)
        refine Ev.ite (fun h1 => Ev.ite (fun h2 => hnx2 fun g => g.2 h2) (fun h2 => ev_val (hx2 fun g => g ⟨h1, h2⟩).symm)) (fun h1 => hnx2 fun g => h1 g.1)
      · intro hN
        refine Ev.step (fun k => by simp only [spec_l06Against.l2]; rfl) ?_
        rw [wrap_succ hi (by omega)]
        exact Ev.neg (by omega) (hnx hN)
    · intro hN
      refine Ev.step (fun k => by simp only [spec_l06Against.l1]; rfl) ?_
      refine Ev.neg (by omega) (ev_val (bool_not hb fun g => ?_).symm)
      rcases g with ⟨i, hi, g⟩ | ⟨i, hi, j, hj, g⟩
      · exact hB i hi g
      · exact hN i hi j hj g
theorem ev_impl_Route_against (a r : S83) (ha0 : a.f0.length ≤ 1048576) (ha1 : a.f1.length ≤ 1048576) (hr0 : r.f0.length ≤ 1048576) (hr1 : r.f1.length ≤ 1048576) (b : Bool) (hb : b = true ↔ AgainstP a r) : Ev (fun k => impl_Route_against.f k a r) b := by
  classical
  unfold impl_Route_against.f
  refine ev_scan a.f1.length (fun i => at_ a.f1 (i : Int) ∉ r.f1) true (fun k i => impl_Route_against.l0 k a r (i : Int)) (fun ⟨i, hi, h⟩ => hb.2 (.inl ⟨i, hi, Classical.not_not.1 h⟩)) ?_ ?_
  · intro i hi _ hnx hx
    refine Ev.step (fun k => by simp only [impl_Route_against.l0]; rfl) ?_
    rw [wrap_succ hi (by omega)]
    refine Ev.pos (by omega) (Ev.pos (by omega) (Ev.bind (ev_impl_has r.f1 (at_ a.f1 (i : Int)) hr1 (decide (at_ a.f1 (i : Int) ∈ r.f1)) decide_eq_true_iff) ?_))
    exact Ev.ite (fun h => ev_val (hx fun g => g (of_decide_eq_true h)).symm) (fun h => hnx fun g => h (decide_eq_true g))
  · intro hB
    refine Ev.step (fun k => by simp only [impl_Route_against.l0]; rfl) ?_
    refine Ev.neg (by omega) ?_
    refine ev_scan a.f0.length (fun i => ∀ j, j < r.f0.length → ¬ ((at_ a.f0 (i : Int)).f0 = (at_ r.f0 (j : Int)).f0 ∧ (at_ a.f0 (i : Int)).f1 ≠ (at_ r.f0 (j : Int)).f1)) true (fun k i => impl_Route_against.l1 k a r (i : Int)) (fun ⟨i, hi, h⟩ => hb.2 (.inr ⟨i, hi, by obtain ⟨j, hj, g⟩ := not_all h; exact ⟨j, hj, Classical.not_not.1 g⟩⟩)) ?_ ?_
    · intro i hi _ hnx hx
      refine Ev.step (fun k => by simp only [impl_Route_against.l1]; rfl) ?_
      refine Ev.pos (by omega) ?_
      try refine Ev.pos (by omega) ?_
      refine ev_scan r.f0.length (fun j => ¬ ((at_ a.f0 (i : Int)).f0 = (at_ r.f0 (j : Int)).f0 ∧ (at_ a.f0 (i : Int)).f1 ≠ (at_ r.f0 (j : Int)).f1)) true (fun k j => impl_Route_against.l2 k a r (i : Int) (j : Int)) (fun ⟨j, hj, h⟩ => hx fun g => h (g j hj)) ?_ ?_
      · intro j hj _ hnx2 hx2
        refine Ev.step (fun k => by simp only [impl_Route_against.l2]; rfl) ?_
        rw [wrap_succ hj (by omega)]
        refine Ev.pos (by omega) (Ev.pos (by omega) ?_)
        try refine Ev.pos (by omega) (Ev.pos (by omega) ?_)
        refine Ev.ite (fun h1 => Ev.ite (fun h2 => hnx2 fun g => g.2 h2) (fun h2 => ev_val (hx2 fun g => g ⟨h1, h2⟩).symm)) (fun h1 => hnx2 fun g => h1 g.1)
      · intro hN
        refine Ev.step (fun k => by simp only [impl_Route_against.l2]; rfl) ?_
        rw [wrap_succ hi (by omega)]
        exact Ev.neg (by omega) (hnx hN)
    · intro hN
      refine Ev.step (fun k => by simp only [impl_Route_against.l1]; rfl) ?_
      refine Ev.neg (by omega) (ev_val (bool_not hb fun g => ?_).symm)
      rcases g with ⟨i, hi, g⟩ | ⟨i, hi, j, hj, g⟩
      · exact hB i hi g
      · exact hN i hi j hj g
def SetP (p : S29) (l : S37) (a : Nat) : Prop := at_ l.f1 (a : Int) = true → (∀ b, b < a → at_ l.f1 (b : Int) = true → ¬ AgainstP (at_ p.f2 (a : Int)) (at_ p.f2 (b : Int))) ∧ ∀ i, i < (at_ p.f2 (a : Int)).f0.length → at_ l.f0 (at_ (at_ p.f2 (a : Int)).f0 (i : Int)).f0 = (at_ (at_ p.f2 (a : Int)).f0 (i : Int)).f1
def LockingP (p : S29) (l : S37) : Prop := PlantP p ∧ (l.f0.length = p.f0.length ∧ l.f1.length = p.f2.length ∧ (l.f2.length : Int) = p.f1) ∧ (∀ i, i < l.f0.length → 0 ≤ at_ l.f0 (i : Int) ∧ at_ l.f0 (i : Int) ≤ 1) ∧ ∀ a, a < p.f2.length → SetP p l a
theorem ev_spec_LockingOk (p : S29) (l : S37) (hB : PlantB p) (b : Bool) (hb : b = true ↔ LockingP p l) : Ev (fun k => spec_LockingOk.f k p l) b := by
  classical
  have B1 := hB.2.1
  have B0 := hB.1
  unfold spec_LockingOk.f
  have bad : ¬ LockingP p l → b = false := bool_not hb
  refine Ev.bind (ev_spec_PlantOk p hB (decide (PlantP p)) decide_eq_true_iff) (Ev.ite (fun g1 => ?_) (fun h => ev_val (bad fun g => h (decide_eq_true g.1)).symm))
  have hp := of_decide_eq_true g1
  refine Ev.ite (fun e0 => ?_) (fun h => ev_val (bad fun g => h (by have := g.2.1.1; omega)).symm)
  refine Ev.ite (fun e1 => ?_) (fun h => ev_val (bad fun g => h (by have := g.2.1.2.1; omega)).symm)
  refine Ev.ite (fun e2 => ?_) (fun h => ev_val (bad fun g => h (by have := g.2.1.2.2; omega)).symm)
  refine ev_scan l.f0.length _ false (fun k i => spec_LockingOk.l0 k p l (i : Int)) (fun ⟨i, hi, h⟩ => bad fun g => h (g.2.2.1 i hi)) ?_ ?_
  · intro i hi _ hnx hx
    refine Ev.step (fun k => by simp only [spec_LockingOk.l0]; rfl) ?_
    rw [wrap_succ hi (by omega)]
    exact Ev.pos (by omega) (Ev.pos (by omega) (Ev.opt (eq_spec_l01In _ _ _) (Ev.ite (fun h => hnx (of_decide_eq_true h)) (fun h => ev_val (hx fun g => h (decide_eq_true g)).symm))))
  · intro hpos
    refine Ev.step (fun k => by simp only [spec_LockingOk.l0]; rfl) ?_
    refine Ev.neg (by omega) ?_
    refine ev_scan p.f2.length (SetP p l) false (fun k a => spec_LockingOk.l1 k p l (a : Int)) (fun ⟨i, hi, h⟩ => bad fun g => h (g.2.2.2 i hi)) ?_ ?_
    · intro a ha _ hnx hx
      have hr := hp.2.2 a ha
      have ya := hB.2.2 _ (at_mem (xs := p.f2) (i := (a : Int)) (by omega) (by omega))
      refine Ev.step (fun k => by simp only [spec_LockingOk.l1]; rfl) ?_
      refine Ev.pos (by omega) (Ev.pos (by omega) (Ev.pos (by omega) (Ev.ite (fun hs => ?_) (fun hs => ?_))))
      · refine ev_scan a (fun c => at_ l.f1 (c : Int) = true → ¬ AgainstP (at_ p.f2 (a : Int)) (at_ p.f2 (c : Int))) false (fun k c => spec_LockingOk.l2 k p l (a : Int) (c : Int)) (fun ⟨i, hi, h⟩ => hx fun g => h ((g hs).1 i hi)) ?_ ?_
        · intro c hc _ hn2 hx2
          have yc := hB.2.2 _ (at_mem (xs := p.f2) (i := (c : Int)) (by omega) (by omega))
          refine Ev.step (fun k => by simp only [spec_LockingOk.l2]; rfl) ?_
          rw [wrap_succ hc (by omega)]
          refine Ev.pos (by omega) (Ev.pos (by omega) (Ev.pos (by omega) (Ev.ite (fun h => ?_) (fun h => hn2 fun g => absurd g h))))
          refine Ev.pos (by omega) (Ev.pos (by omega) (Ev.pos (by omega) (Ev.bind (ev_spec_l06Against _ _ ya.1 ya.2 yc.1 yc.2 (decide (AgainstP (at_ p.f2 (a : Int)) (at_ p.f2 (c : Int)))) decide_eq_true_iff) ?_)))
          exact Ev.ite (fun q => ev_val (hx2 fun g => g h (of_decide_eq_true q)).symm) (fun q => hn2 fun _ g => q (decide_eq_true g))
        · intro hA
          refine Ev.step (fun k => by simp only [spec_LockingOk.l2]; rfl) ?_
          refine Ev.neg (by omega) ?_
          refine ev_scan (at_ p.f2 (a : Int)).f0.length (fun i => at_ l.f0 (at_ (at_ p.f2 (a : Int)).f0 (i : Int)).f0 = (at_ (at_ p.f2 (a : Int)).f0 (i : Int)).f1) false (fun k i => spec_LockingOk.l3 k p l (a : Int) (i : Int)) (fun ⟨i, hi, h⟩ => hx fun g => h ((g hs).2 i hi)) ?_ ?_
          · intro i hi _ hn3 hx3
            have hne := (hr.1 i hi).1
            refine Ev.step (fun k => by simp only [spec_LockingOk.l3]; rfl) ?_
            rw [wrap_succ hi (by omega)]
            exact Ev.pos (by omega) (Ev.pos (by omega) (Ev.pos (by omega) (Ev.pos (by omega) (Ev.pos (by omega) (Ev.pos (by omega) (Ev.ite (fun h => hn3 h) (fun h => ev_val (hx3 h).symm)))))))
          · intro hN
            refine Ev.step (fun k => by simp only [spec_LockingOk.l3]; rfl) ?_
            rw [wrap_succ ha (by omega)]
            exact Ev.pos (by omega) (Ev.pos (by omega) (Ev.neg (by omega) (hnx fun _ => ⟨hA, hN⟩)))
      · rw [wrap_succ ha (by omega)]
        exact hnx fun g => absurd g hs
    · intro hS
      refine Ev.step (fun k => by simp only [spec_LockingOk.l1]; rfl) ?_
      exact Ev.neg (by omega) (ev_val (hb.2 ⟨hp, ⟨by omega, by omega, e2⟩, hpos, hS⟩).symm)
theorem ev_impl_LockingOk (p : S29) (l : S37) (hB : PlantB p) (b : Bool) (hb : b = true ↔ LockingP p l) : Ev (fun k => impl_LockingOk.f k p l) b := by
  classical
  have B1 := hB.2.1
  have B0 := hB.1
  unfold impl_LockingOk.f
  have bad : ¬ LockingP p l → b = false := bool_not hb
  refine Ev.bind (ev_impl_PlantOk p hB (decide (PlantP p)) decide_eq_true_iff) (Ev.ite (fun g1 => ?_) (fun h => ev_val (bad fun g => h (decide_eq_true g.1)).symm))
  have hp := of_decide_eq_true g1
  refine Ev.ite (fun e0 => ?_) (fun h => ev_val (bad fun g => h (by have := g.2.1.1; omega)).symm)
  refine Ev.ite (fun e1 => ?_) (fun h => ev_val (bad fun g => h (by have := g.2.1.2.1; omega)).symm)
  refine Ev.ite (fun e2 => ?_) (fun h => ev_val (bad fun g => h (by have := g.2.1.2.2; omega)).symm)
  refine ev_scan l.f0.length _ false (fun k i => impl_LockingOk.l0 k p l (i : Int)) (fun ⟨i, hi, h⟩ => bad fun g => h (g.2.2.1 i hi)) ?_ ?_
  · intro i hi _ hnx hx
    refine Ev.step (fun k => by simp only [impl_LockingOk.l0]; rfl) ?_
    rw [wrap_succ hi (by omega)]
    exact Ev.pos (by omega) (Ev.pos (by omega) (Ev.opt (eq_impl_between _ _ _) (Ev.ite (fun h => hnx (of_decide_eq_true h)) (fun h => ev_val (hx fun g => h (decide_eq_true g)).symm))))
  · intro hpos
    refine Ev.step (fun k => by simp only [impl_LockingOk.l0]; rfl) ?_
    refine Ev.neg (by omega) ?_
    refine ev_scan p.f2.length (SetP p l) false (fun k a => impl_LockingOk.l1 k p l (a : Int)) (fun ⟨i, hi, h⟩ => bad fun g => h (g.2.2.2 i hi)) ?_ ?_
    · intro a ha _ hnx hx
      have hr := hp.2.2 a ha
      have ya := hB.2.2 _ (at_mem (xs := p.f2) (i := (a : Int)) (by omega) (by omega))
      refine Ev.step (fun k => by simp only [impl_LockingOk.l1]; rfl) ?_
      refine Ev.pos (by omega) (Ev.pos (by omega) (Ev.pos (by omega) (Ev.ite (fun hs => ?_) (fun hs => ?_))))
      · refine ev_scan (at_ p.f2 (a : Int)).f0.length (fun i => at_ l.f0 (at_ (at_ p.f2 (a : Int)).f0 (i : Int)).f0 = (at_ (at_ p.f2 (a : Int)).f0 (i : Int)).f1) false (fun k i => impl_LockingOk.l2 k p l (a : Int) (i : Int)) (fun ⟨i, hi, h⟩ => hx fun g => h ((g hs).2 i hi)) ?_ ?_
        · intro i hi _ hn3 hx3
          have hne := (hr.1 i hi).1
          refine Ev.step (fun k => by simp only [impl_LockingOk.l2]; rfl) ?_
          rw [wrap_succ hi (by omega)]
          exact Ev.pos (by omega) (Ev.pos (by omega) (Ev.pos (by omega) (Ev.pos (by omega) (Ev.ite (fun h => hn3 h) (fun h => ev_val (hx3 h).symm)))))
        · intro hN
          refine Ev.step (fun k => by simp only [impl_LockingOk.l2]; rfl) ?_
          refine Ev.neg (by omega) ?_
          refine ev_scan a (fun c => at_ l.f1 (c : Int) = true → ¬ AgainstP (at_ p.f2 (a : Int)) (at_ p.f2 (c : Int))) false (fun k c => impl_LockingOk.l3 k p l (a : Int) (c : Int)) (fun ⟨i, hi, h⟩ => hx fun g => h ((g hs).1 i hi)) ?_ ?_
          · intro c hc _ hn2 hx2
            have yc := hB.2.2 _ (at_mem (xs := p.f2) (i := (c : Int)) (by omega) (by omega))
            refine Ev.step (fun k => by simp only [impl_LockingOk.l3]; rfl) ?_
            rw [wrap_succ hc (by omega)]
            refine Ev.pos (by omega) (Ev.pos (by omega) (Ev.pos (by omega) (Ev.ite (fun h => ?_) (fun h => hn2 fun g => absurd g h))))
            refine Ev.pos (by omega) (Ev.bind (ev_impl_Route_against _ _ ya.1 ya.2 yc.1 yc.2 (decide (AgainstP (at_ p.f2 (a : Int)) (at_ p.f2 (c : Int)))) decide_eq_true_iff) ?_)
            exact Ev.ite (fun q => ev_val (hx2 fun g => g h (of_decide_eq_true q)).symm) (fun q => hn2 fun _ g => q (decide_eq_true g))
          · intro hA
            refine Ev.step (fun k => by simp only [impl_LockingOk.l3]; rfl) ?_
            rw [wrap_succ ha (by omega)]
            exact Ev.neg (by omega) (hnx fun _ => ⟨hA, hN⟩)
      · rw [wrap_succ ha (by omega)]
        exact hnx fun g => absurd g hs
    · intro hS
      refine Ev.step (fun k => by simp only [impl_LockingOk.l1]; rfl) ?_
      exact Ev.neg (by omega) (ev_val (hb.2 ⟨hp, ⟨by omega, by omega, e2⟩, hpos, hS⟩).symm)
theorem main_FnExactLockingOk (x0 : S24) (x1 : S37) (h0 : ok24 x0) (h1 : ok37 x1) (b0 : ((x0.f0.length ≤ 1048576) ∧ (x0.f2.length ≤ 1048576 ∧ ∀ y ∈ x0.f2, ((y.f0.length ≤ 1048576) ∧ (y.f1.length ≤ 1048576))))) (b1 : ((x1.f0.length ≤ 1048576) ∧ (x1.f1.length ≤ 1048576) ∧ (x1.f2.length ≤ 1048576))) : ∃ w, Ev (fun k => spec_LockingOk.f k (cv24_29 x0) x1) w ∧ Ev (fun k => impl_LockingOk.f k (cv24_29 x0) x1) w ∧ True := by
  classical
  have hB : PlantB (cv24_29 x0) := bd_cv24_29 x0 b0
  exact ⟨decide (LockingP (cv24_29 x0) x1), ev_spec_LockingOk _ _ hB _ decide_eq_true_iff, ev_impl_LockingOk _ _ hB _ decide_eq_true_iff, trivial⟩
theorem pure_FnExactLockingOk : Pure := by
  intro x0 x1 h0 h1
  refine Ev.rounds ?_
  unfold laws_FnExactLockingOk.f
  obtain ⟨r0, e0, hr0⟩ := sz_Plant x0 1048576 (by omega) (by omega) h0
  refine Ev.bind e0 ?_
  refine Ev.ite (fun _ => ev_val rfl) (fun g0 => ?_)
  obtain ⟨p0, q0, b0⟩ := hr0.resolve_left g0
  obtain ⟨r1, e1, hr1⟩ := sz_Locking x1 r0 (by omega) (by omega) h1
  refine Ev.bind e1 ?_
  refine Ev.ite (fun _ => ev_val rfl) (fun g1 => ?_)
  obtain ⟨p1, q1, b1⟩ := hr1.resolve_left g1
  have c0_0 : x0.f0.length ≤ 1048576 := b0.1
  have c0_2 : x0.f2.length ≤ 1048576 := b0.2.1
  have c1_0 : x1.f0.length ≤ 1048576 := b1.1
  have c1_1 : x1.f1.length ≤ 1048576 := b1.2.1
  have c1_2 : x1.f2.length ≤ 1048576 := b1.2.2
  obtain ⟨w, es, ei, hb⟩ := main_FnExactLockingOk x0 x1 h0 h1 b0 b1
  refine Ev.bind (to_Plant x0 b0) ?_
  refine Ev.bind (to_Locking x1 b1) ?_
  refine Ev.bind es ?_
  refine Ev.bind (to_Plant x0 b0) ?_
  refine Ev.bind (to_Locking x1 b1) ?_
  refine Ev.bind ei ?_
  refine Ev.pos (by first | rfl | simp [sEq] | omega) ?_
  refine Ev.bind (to_Plant x0 b0) ?_
  refine Ev.bind (eq_Plant _ ⟨b0.1, ⟨by rw [List.length_map]; exact b0.2.1, fun y hy => by obtain ⟨x, hx, rfl⟩ := List.mem_map.1 hy; exact bd_cv142_83 x (b0.2.2 x hx)⟩⟩) ?_
  refine Ev.pos (by first | rfl | simp [sEq] | omega) ?_
  refine Ev.bind (to_Locking x1 b1) ?_
  refine Ev.bind (eq_Locking _ b1) ?_
  refine Ev.pos (by first | rfl | simp [sEq] | omega) ?_
  exact ev_val rfl
end Go.Proofs.Ytjfjifnmfnlfoaa.Fns
