/- The pure statement of the law FnExactDrive: its function, told by the engine, gives true for every input. -/
import Derived.Test.YtjfjifnmfnlfoaaSFnExactDrive
namespace Go.Proofs.Ytjfjifnmfnlfoaa.Fns
open Go.RowKit Go.WideShapes Go.Proofs.Ytjfjifnmfnlfoaa.Eng
set_option linter.unusedVariables false
set_option linter.unusedSimpArgs false
/-- From some number of rounds on there is one answer, and C holds of it. -/
def Evx {α : Type} (g : Nat → Option α) (C : α → Prop) : Prop := ∃ r, Ev g r ∧ C r
section
variable {α β : Type}
theorem Evx.val {a : α} {C : α → Prop} (h : C a) : Evx (fun _ => some a) C := ⟨a, Ev.now a, h⟩
theorem Evx.of {g : Nat → Option α} {r : α} {C : α → Prop} (h : Ev g r) (hc : C r) : Evx g C := ⟨r, h, hc⟩
theorem Evx.bind {g : Nat → Option α} {f : Nat → α → Option β} {P : α → Prop} {C : β → Prop} (h : Evx g P) (k : ∀ a, P a → Evx (fun n => f n a) C) : Evx (fun n => (g n).bind (f n)) C := by
  obtain ⟨a, h1, h2⟩ := h
  obtain ⟨r, h3, h4⟩ := k a h2
  exact ⟨r, Ev.bind h1 h3, h4⟩
theorem Evx.bindv {g : Nat → Option α} {f : Nat → α → Option β} {a : α} {C : β → Prop} (h : Ev g a) (k : Evx (fun n => f n a) C) : Evx (fun n => (g n).bind (f n)) C := by
  obtain ⟨r, h3, h4⟩ := k
  exact ⟨r, Ev.bind h h3, h4⟩
theorem Evx.opt {g : Option α} {f : Nat → α → Option β} {a : α} {C : β → Prop} (h : g = some a) (k : Evx (fun n => f n a) C) : Evx (fun n => g.bind (f n)) C := by subst h; exact k
theorem Evx.step {g f : Nat → Option α} {C : α → Prop} (h : ∀ k, g (k + 1) = f k) (k : Evx f C) : Evx g C := by
  obtain ⟨r, h3, h4⟩ := k
  exact ⟨r, Ev.step h h3, h4⟩
theorem Evx.congr {g f : Nat → Option α} {C : α → Prop} (h : ∀ k, g k = f k) (k : Evx f C) : Evx g C := by
  obtain ⟨r, h3, h4⟩ := k
  exact ⟨r, Ev.congr h h3, h4⟩
theorem Evx.ite {c : Prop} [Decidable c] {g f : Nat → Option α} {C : α → Prop} (h : c → Evx g C) (h' : ¬ c → Evx f C) : Evx (fun k => if c then g k else f k) C := by
  by_cases hc : c
  · simp only [if_pos hc]; exact h hc
  · simp only [if_neg hc]; exact h' hc
theorem Evx.pos {c : Prop} [Decidable c] {g f : Nat → Option α} {C : α → Prop} (hc : c) (h : Evx g C) : Evx (fun k => if c then g k else f k) C := by simp only [if_pos hc]; exact h
theorem Evx.neg {c : Prop} [Decidable c] {g f : Nat → Option α} {C : α → Prop} (hc : ¬ c) (h : Evx f C) : Evx (fun k => if c then g k else f k) C := by simp only [if_neg hc]; exact h
theorem Evx.mono {g : Nat → Option α} {C D : α → Prop} (h : Evx g C) (hd : ∀ r, C r → D r) : Evx g D := by
  obtain ⟨r, h1, h2⟩ := h
  exact ⟨r, h1, hd r h2⟩
theorem Evx.ev {g : Nat → Option α} {r : α} (h : Evx g (fun x => x = r)) : Ev g r := by
  obtain ⟨a, h1, rfl⟩ := h
  exact h1
theorem Ev.uniq {g : Nat → Option α} {a b : α} (h : Ev g a) (h' : Ev g b) : a = b := by
  obtain ⟨K, hK⟩ := h
  obtain ⟨K', hK'⟩ := h'
  have e1 := hK (max K K') (by omega)
  have e2 := hK' (max K K') (by omega)
  rw [e1] at e2
  exact Option.some.inj e2
end
/-- A loop that counts up, with what holds of its state at each place. -/
theorem evx_loop {R σ : Type} (G : Nat → Nat → σ → Option R) (n : Nat) (Inv : Nat → σ → Prop) (C : R → Prop)
    (hstep : ∀ i s, i < n → Inv i s → (∀ s', Inv (i + 1) s' → Evx (fun k => G k (i + 1) s') C) → Evx (fun k => G k i s) C)
    (hend : ∀ s, Inv n s → Evx (fun k => G k n s) C) : ∀ s, Inv 0 s → Evx (fun k => G k 0 s) C := by
  have key : ∀ d i, i + d = n → ∀ s, Inv i s → Evx (fun k => G k i s) C := by
    intro d
    induction d with
    | zero => intro i hi s hs; obtain rfl : i = n := by omega
              exact hend s hs
    | succ d ih => intro i hi s hs; exact hstep i s (by omega) hs (fun s' hs' => ih (i + 1) (by omega) s' hs')
  exact fun s hs => key n 0 (by omega) s hs
-- counting, taking, placing
theorem at_getD {α : Type} [Inhabited α] (xs : List α) (i : Int) : at_ xs i = xs.getD i.toNat default := rfl
theorem at_int {α : Type} [Inhabited α] {xs : List α} {i : Int} (h0 : 0 ≤ i) (h1 : i < (xs.length : Int)) : at_ xs i = xs[i.toNat]'(by omega) := by
  have h : i.toNat < xs.length := by omega
  rw [at_getD, List.getD_eq_getElem?_getD, List.getElem?_eq_getElem h]
  rfl
theorem at_mem {α : Type} [Inhabited α] {xs : List α} {i : Int} (h0 : 0 ≤ i) (h1 : i < (xs.length : Int)) : at_ xs i ∈ xs := by
  rw [at_int h0 h1]; exact List.getElem_mem _
theorem all_at {α : Type} [Inhabited α] {xs : List α} {p : α → Prop} (h : ∀ y, y ∈ xs → p y) {i : Int} (h0 : 0 ≤ i) (h1 : i < (xs.length : Int)) : p (at_ xs i) := h _ (at_mem h0 h1)
theorem all_idx {α : Type} [Inhabited α] {xs : List α} {p : α → Prop} (h : ∀ i, i < xs.length → p (at_ xs (i : Int))) {i : Int} (h0 : 0 ≤ i) (h1 : i < (xs.length : Int)) : p (at_ xs i) := by
  have := h i.toNat (by omega)
  rwa [show ((i.toNat : Nat) : Int) = i by omega] at this
theorem all_iff {α : Type} [Inhabited α] {xs : List α} {p : α → Prop} : (∀ i, i < xs.length → p (at_ xs (i : Int))) ↔ ∀ y, y ∈ xs → p y := by
  refine ⟨fun h y hy => ?_, fun h i hi => h _ (at_mem (by omega) (by omega))⟩
  obtain ⟨i, hi, rfl⟩ := List.getElem_of_mem hy
  have := h i hi
  rwa [at_nat hi] at this
theorem take_succ' {α : Type} {xs : List α} {i : Nat} (h : i < xs.length) : xs.take (i + 1) = xs.take i ++ [xs[i]] := List.take_succ_eq_append_getElem h
theorem count_take {α : Type} (p : α → Bool) {xs : List α} {i : Nat} (h : i < xs.length) : (xs.take (i + 1)).countP p = (xs.take i).countP p + (if p xs[i] then 1 else 0) := by
  rw [take_succ' h, List.countP_append, List.countP_singleton]
theorem count_le {α : Type} (p : α → Bool) (xs : List α) : xs.countP p ≤ xs.length := List.countP_le_length
theorem set_take {α : Type} {xs : List α} {i j : Nat} (v : α) (h : j < xs.length) : (xs.set i v)[j]'(by rw [List.length_set]; exact h) = if i = j then v else xs[j] := by rw [List.getElem_set]
theorem at_set_ne {α : Type} [Inhabited α] {xs : List α} {i : Nat} {j : Int} {v : α} (h0 : 0 ≤ j) (h : (i : Int) ≠ j) : at_ (xs.set i v) j = at_ xs j := by
  rw [at_getD, at_getD, List.getD_eq_getElem?_getD, List.getD_eq_getElem?_getD, List.getElem?_set_ne (by omega)]
theorem at_set_eq {α : Type} [Inhabited α] {xs : List α} {i : Nat} {v : α} (h : i < xs.length) : at_ (xs.set i v) (i : Int) = v := by
  rw [at_getD, List.getD_eq_getElem?_getD, Int.toNat_natCast, List.getElem?_set_self h]; rfl
theorem at_app_left {α : Type} [Inhabited α] (a b : List α) {i : Int} (h0 : 0 ≤ i) (h : i < (a.length : Int)) : at_ (a ++ b) i = at_ a i := by
  rw [at_getD, at_getD, List.getD_eq_getElem?_getD, List.getD_eq_getElem?_getD, List.getElem?_append_left (by omega)]
theorem at_app_right {α : Type} [Inhabited α] (a b : List α) {i : Int} (h : (a.length : Int) ≤ i) : at_ (a ++ b) i = at_ b (i - a.length) := by
  rw [at_getD, at_getD, List.getD_eq_getElem?_getD, List.getD_eq_getElem?_getD, List.getElem?_append_right (by omega)]
  congr 2; omega
theorem at_app_last {α : Type} [Inhabited α] (a : List α) (v : α) : at_ (a ++ [v]) (a.length : Int) = v := by
  rw [at_app_right a [v] (by omega), Int.sub_self]; rfl
theorem at_take {α : Type} [Inhabited α] (xs : List α) {n : Nat} {i : Int} (h0 : 0 ≤ i) (h : i < n) : at_ (xs.take n) i = at_ xs i := by
  rw [at_getD, at_getD, List.getD_eq_getElem?_getD, List.getD_eq_getElem?_getD, List.getElem?_take_of_lt (by omega)]
theorem at_rep {α : Type} [Inhabited α] (n : Nat) (v : α) {i : Int} (h0 : 0 ≤ i) (h : i < n) : at_ (List.replicate n v) i = v := by
  rw [at_int h0 (by simpa using h)]; simp
theorem tmod_of {a : Int} (b : Int) (h : 0 ≤ a) : a.tmod b = a % b := Int.tmod_eq_emod_of_nonneg h
theorem tdiv_of {a : Int} (b : Int) (h : 0 ≤ a) : a.tdiv b = a / b := Int.tdiv_eq_ediv_of_nonneg h
theorem range_at {n : Nat} {f : Nat → Int} {i : Int} (h0 : 0 ≤ i) (h : i < n) : at_ ((List.range n).map f) i = f i.toNat := by
  rw [at_int h0 (by simpa using h)]; simp
theorem range_set {α : Type} (n : Nat) (f : Nat → α) (i : Nat) (v : α) : ((List.range n).map f).set i v = (List.range n).map (fun j => if j = i then v else f j) := by
  refine List.ext_getElem (by simp) fun j h1 h2 => ?_
  simp only [List.getElem_set, List.getElem_map, List.getElem_range]
  by_cases e : i = j
  · rw [if_pos e, if_pos e.symm]
  · rw [if_neg e, if_neg (fun g => e g.symm)]
theorem range_congr {α : Type} {n : Nat} {f g : Nat → α} (h : ∀ j, j < n → f j = g j) : (List.range n).map f = (List.range n).map g :=
  List.map_congr_left fun j hj => h j (List.mem_range.1 hj)
/-- A loop that counts up and stops where P does not hold. -/
theorem ev_scan {R : Type} (n : Nat) (P : Nat → Prop) (bad : R) (G : Nat → Nat → Option R) {r : R} (hr : (∃ i, i < n ∧ ¬ P i) → r = bad)
    (hstep : ∀ i, i < n → (∀ j, j < i → P j) → (P i → Ev (fun k => G k (i + 1)) r) → (¬ P i → r = bad) → Ev (fun k => G k i) r)
    (hend : (∀ i, i < n → P i) → Ev (fun k => G k n) r) : Ev (fun k => G k 0) r := by
  have key : ∀ d i, i + d = n → (∀ j, j < i → P j) → Ev (fun k => G k i) r := by
    intro d
    induction d with
    | zero => intro i hi hp; obtain rfl : i = n := by omega
              exact hend hp
    | succ d ih =>
      intro i hi hp
      refine hstep i (by omega) hp (fun h => ih (i + 1) (by omega) fun j hj => ?_) (fun h => hr ⟨i, by omega, h⟩)
      rcases Nat.lt_or_ge j i with g | g
      · exact hp j g
      · obtain rfl : j = i := by omega
        exact h
  exact key n 0 (by omega) (fun j hj => absurd hj (by omega))
theorem bool_eq {b : Bool} {P : Prop} (hb : b = true ↔ P) (h : P) : b = true := hb.2 h
theorem not_all {n : Nat} {P : Nat → Prop} (h : ¬ ∀ i, i < n → P i) : ∃ i, i < n ∧ ¬ P i := by
  classical
  exact Classical.byContradiction fun g => h fun i hi => Classical.byContradiction fun q => g ⟨i, hi, q⟩
theorem mem_take_iff {α : Type} [Inhabited α] {xs : List α} {n : Nat} {v : α} (h : n ≤ xs.length) : v ∈ xs.take n ↔ ∃ i, i < n ∧ at_ xs (i : Int) = v := by
  constructor
  · intro hv
    obtain ⟨i, hi, e⟩ := List.getElem_of_mem hv
    rw [List.length_take] at hi
    rw [List.getElem_take] at e
    exact ⟨i, by omega, by rw [at_nat (by omega)]; exact e⟩
  · rintro ⟨i, hi, e⟩
    rw [at_nat (by omega)] at e
    rw [← e]
    exact List.mem_take_iff_getElem.2 ⟨i, by omega, rfl⟩
theorem mem_at {α : Type} [Inhabited α] {xs : List α} {v : α} : v ∈ xs ↔ ∃ i, i < xs.length ∧ at_ xs (i : Int) = v := by
  have := mem_take_iff (xs := xs) (v := v) (Nat.le_refl _)
  rwa [List.take_length] at this
theorem sz_SpanS (x : (List S117)) (left : Int) (h0 : 0 ≤ left) (h1 : left ≤ 1048576) (ho : (x.length ≤ maxLen ∧ ∀ y ∈ x, ok117 y)) : Evx (fun k => laws_szSpanS.f x left) (fun r => r < 0 ∨ (0 ≤ r ∧ r ≤ left ∧ (x.length ≤ 1048576))) := by
  have hm : maxLen = 9223372036854775807 := rfl
  unfold laws_szSpanS.f
  obtain ⟨hl, hy⟩ := ho
  rw [wrap_id (by omega) (by omega)]
  refine Evx.ite (fun h => Evx.val (.inl (by decide))) (fun h => ?_)
  exact Evx.val (.inr ⟨by omega, by omega, by omega⟩)
theorem to_Span (x : S117) (hb : True) : Ev (fun k => laws_toSpan.f x) x := by
  unfold laws_toSpan.f
  exact ev_val rfl
theorem to_SpanS (x : (List S117)) (hb : (x.length ≤ 1048576)) : Ev (fun k => laws_toSpanS.f k x) x := by
  unfold laws_toSpanS.f
  have hl := hb
  refine Ev.pos (by omega) (Ev.pos (by omega) ?_)
  rw [Int.toNat_natCast]
  refine ev_fill x id _ (fun k s i => laws_toSpanS.l0 k x s (i : Int)) ?_ ?_
  · intro i hi s hs hn
    refine Ev.step (fun k => by simp only [laws_toSpanS.l0]; rfl) ?_
    refine Ev.pos (by omega) (Ev.pos (by omega) ?_)
    rw [at_nat hi]
    refine Ev.bind (to_Span x[i] trivial) ?_
    refine Ev.pos (by omega) ?_
    rw [Int.toNat_natCast, wrap_succ hi (by omega)]
    exact hn
  · refine Ev.step (fun k => by simp only [laws_toSpanS.l0]; rfl) ?_
    refine Ev.neg (by omega) (ev_val (List.map_id x))
theorem to_IntS (x : (List Int)) (hb : (x.length ≤ 1048576)) : Ev (fun k => laws_toIntS.f k x) x := by
  unfold laws_toIntS.f
  have hl := hb
  refine Ev.pos (by omega) (Ev.pos (by omega) ?_)
  rw [Int.toNat_natCast]
  refine ev_fill x id _ (fun k s i => laws_toIntS.l0 k x s (i : Int)) ?_ ?_
  · intro i hi s hs hn
    refine Ev.step (fun k => by simp only [laws_toIntS.l0]; rfl) ?_
    refine Ev.pos (by omega) (Ev.pos (by omega) ?_)
    rw [at_nat hi]
    refine Ev.pos (by omega) ?_
    rw [Int.toNat_natCast, wrap_succ hi (by omega)]
    exact hn
  · refine Ev.step (fun k => by simp only [laws_toIntS.l0]; rfl) ?_
    refine Ev.neg (by omega) (ev_val (List.map_id x))
theorem eq_Span (x : S117) (hb : True) : Ev (fun k => laws_eqSpan.f x x) true := by
  unfold laws_eqSpan.f
  refine Ev.pos rfl ?_
  refine Ev.pos rfl ?_
  exact ev_val rfl
theorem eq_SpanS (x : (List S117)) (hb : (x.length ≤ 1048576)) : Ev (fun k => laws_eqSpanS.f k x x) true := by
  unfold laws_eqSpanS.f
  have hl := hb
  refine Ev.pos rfl ?_
  refine ev_fold (fun k i => laws_eqSpanS.l0 k x x (i : Int)) x.length ?_ ?_
  · intro i hi hn
    refine Ev.step (fun k => by simp only [laws_eqSpanS.l0]; rfl) ?_
    refine Ev.pos (by omega) (Ev.pos (by omega) ?_)
    try refine Ev.pos (by omega) ?_
    rw [at_nat hi]
    refine Ev.bind (eq_Span x[i] trivial) ?_
    refine Ev.pos (by first | rfl | simp) ?_
    rw [wrap_succ hi (by omega)]
    exact hn
  · refine Ev.step (fun k => by simp only [laws_eqSpanS.l0]; rfl) ?_
    exact Ev.neg (by omega) (ev_val rfl)
theorem eq_IntS (x : (List Int)) (hb : (x.length ≤ 1048576)) : Ev (fun k => laws_eqIntS.f k x x) true := by
  unfold laws_eqIntS.f
  have hl := hb
  refine Ev.pos rfl ?_
  refine ev_fold (fun k i => laws_eqIntS.l0 k x x (i : Int)) x.length ?_ ?_
  · intro i hi hn
    refine Ev.step (fun k => by simp only [laws_eqIntS.l0]; rfl) ?_
    refine Ev.pos (by omega) (Ev.pos (by omega) ?_)
    try refine Ev.pos (by omega) ?_
    refine Ev.pos (by first | rfl | simp) ?_
    rw [wrap_succ hi (by omega)]
    exact hn
  · refine Ev.step (fun k => by simp only [laws_eqIntS.l0]; rfl) ?_
    exact Ev.neg (by omega) (ev_val rfl)
def mk_SpanS (a : Int) (i : Nat) : S117 := (⟨a + 2 * (i : Int), a + 2 * (i : Int) + 1⟩ : S117)
def mkd_SpanS (m : Nat) (a : Int) : List S117 := (List.range m).map (mk_SpanS a)
theorem mkl_SpanS (m : Nat) (a : Int) : (mkd_SpanS m a).length = m := by simp [mkd_SpanS]
theorem mks_SpanS (i : Nat) (a : Int) (x : (List S117)) (hi : i < x.length) : (mkd_SpanS i a ++ x.drop i).set i (mk_SpanS a i) = mkd_SpanS (i + 1) a ++ x.drop (i + 1) := by
  rw [List.set_append_right _ _ (by rw [mkl_SpanS]; omega), mkl_SpanS, Nat.sub_self, List.drop_eq_getElem_cons hi, List.set_cons_zero]
  simp [mkd_SpanS, List.range_succ]
theorem mark_SpanS (x : (List S117)) (hl : x.length ≤ 4194304) (a : Int) (h0 : 0 ≤ a) (h1 : a ≤ 1152921504606846976) : Ev (fun k => laws_markSpanS.f k x a) (a + 2 * (x.length : Int), mkd_SpanS x.length a) := by
  unfold laws_markSpanS.f
  have hlen : ∀ i, i < x.length → (mkd_SpanS i a ++ x.drop i).length = x.length := by
    intro i hi
    rw [List.length_append, mkl_SpanS, List.length_drop]; omega
  have key := ev_fold (fun k i => laws_markSpanS.l0 k (mkd_SpanS i a ++ x.drop i) (a + 2 * (i : Int)) (i : Int)) x.length (r := (a + 2 * (x.length : Int), mkd_SpanS x.length a)) ?_ ?_
  · have e : a + 2 * 0 = a := by omega
    simpa [mkd_SpanS] using key
  · intro i hi hn
    refine Ev.step (fun k => by simp only [laws_markSpanS.l0]; rfl) ?_
    refine Ev.pos (by rw [hlen i hi]; omega) (Ev.pos (by omega) ?_)
    try simp only [if_pos (show (i : Int) < ((mkd_SpanS i a ++ x.drop i).length : Int) by rw [hlen i hi]; omega)]
    rw [Int.toNat_natCast]
    rw [wrap_id (x := a + 2 * (i : Int) + 1) (by omega) (by omega)]
    rw [wrap_id (x := a + 2 * (i : Int) + 1 + 1) (by omega) (by omega)]
    have e := mks_SpanS i a x hi
    unfold mk_SpanS at e
    rw [e, wrap_succ hi (by omega), show a + 2 * (i : Int) + 1 + 1 = a + 2 * ((i + 1 : Nat) : Int) by omega]
    exact hn
  · refine Ev.step (fun k => by simp only [laws_markSpanS.l0]; rfl) ?_
    have e : mkd_SpanS x.length a ++ x.drop x.length = mkd_SpanS x.length a := by simp
    rw [e]
    exact Ev.neg (by rw [mkl_SpanS]; omega) (ev_val rfl)
def mk_IntS (a : Int) (i : Nat) : Int := (a + (i : Int))
def mkd_IntS (m : Nat) (a : Int) : List Int := (List.range m).map (mk_IntS a)
theorem mkl_IntS (m : Nat) (a : Int) : (mkd_IntS m a).length = m := by simp [mkd_IntS]
theorem mks_IntS (i : Nat) (a : Int) (x : (List Int)) (hi : i < x.length) : (mkd_IntS i a ++ x.drop i).set i (mk_IntS a i) = mkd_IntS (i + 1) a ++ x.drop (i + 1) := by
  rw [List.set_append_right _ _ (by rw [mkl_IntS]; omega), mkl_IntS, Nat.sub_self, List.drop_eq_getElem_cons hi, List.set_cons_zero]
  simp [mkd_IntS, List.range_succ]
theorem mark_IntS (x : (List Int)) (hl : x.length ≤ 4194304) (a : Int) (h0 : 0 ≤ a) (h1 : a ≤ 1152921504606846976) : Ev (fun k => laws_markIntS.f k x a) (a + (x.length : Int), mkd_IntS x.length a) := by
  unfold laws_markIntS.f
  have hlen : ∀ i, i < x.length → (mkd_IntS i a ++ x.drop i).length = x.length := by
    intro i hi
    rw [List.length_append, mkl_IntS, List.length_drop]; omega
  have key := ev_fold (fun k i => laws_markIntS.l0 k (mkd_IntS i a ++ x.drop i) (a + (i : Int)) (i : Int)) x.length (r := (a + (x.length : Int), mkd_IntS x.length a)) ?_ ?_
  · have e : a + 0 = a := by omega
    simpa [mkd_IntS] using key
  · intro i hi hn
    refine Ev.step (fun k => by simp only [laws_markIntS.l0]; rfl) ?_
    refine Ev.pos (by rw [hlen i hi]; omega) (Ev.pos (by omega) ?_)
    try simp only [if_pos (show (i : Int) < ((mkd_IntS i a ++ x.drop i).length : Int) by rw [hlen i hi]; omega)]
    rw [Int.toNat_natCast]
    rw [wrap_id (x := a + (i : Int) + 1) (by omega) (by omega)]
    have e := mks_IntS i a x hi
    unfold mk_IntS at e
    rw [e, wrap_succ hi (by omega), show a + (i : Int) + 1 = a + ((i + 1 : Nat) : Int) by omega]
    exact hn
  · refine Ev.step (fun k => by simp only [laws_markIntS.l0]; rfl) ?_
    have e : mkd_IntS x.length a ++ x.drop x.length = mkd_IntS x.length a := by simp
    rw [e]
    exact Ev.neg (by rw [mkl_IntS]; omega) (ev_val rfl)
theorem held_SpanS (m : Nat) (hl : m ≤ 4194304) (a : Int) (h0 : 0 ≤ a) (h1 : a ≤ 1152921504606846976) : Ev (fun k => laws_heldSpanS.f k (mkd_SpanS m a) a) (a + 2 * (m : Int)) := by
  unfold laws_heldSpanS.f
  have e : ∀ i (hi : i < m), (mkd_SpanS m a)[i]'(by rw [mkl_SpanS]; exact hi) = mk_SpanS a i := by
    intro i hi
    simp [mkd_SpanS]
  have key := ev_fold (fun k i => laws_heldSpanS.l0 k (mkd_SpanS m a) (a + 2 * (i : Int)) (i : Int)) m (r := a + 2 * (m : Int)) ?_ ?_
  · simpa using key
  · intro i hi hn
    refine Ev.step (fun k => by simp only [laws_heldSpanS.l0]; rfl) ?_
    refine Ev.pos (by rw [mkl_SpanS]; omega) (Ev.pos (by omega) ?_)
    rw [at_nat (show i < (mkd_SpanS m a).length by rw [mkl_SpanS]; exact hi), e i hi]
    unfold mk_SpanS
    refine Ev.pos rfl ?_
    rw [wrap_id (x := a + 2 * (i : Int) + 1) (by omega) (by omega)]
    refine Ev.pos (by first | rfl | (dsimp only; omega) | simp) ?_
    rw [wrap_id (x := a + 2 * (i : Int) + 1 + 1) (by omega) (by omega)]
    rw [wrap_succ hi (by omega), show a + 2 * (i : Int) + 1 + 1 = a + 2 * ((i + 1 : Nat) : Int) by omega]
    exact hn
  · refine Ev.step (fun k => by simp only [laws_heldSpanS.l0]; rfl) ?_
    exact Ev.neg (by rw [mkl_SpanS]; omega) (ev_val rfl)
theorem eq_impl_between (a b c : Int) : impl_between.f a b c = some (decide (b ≤ a ∧ a ≤ c)) := by
  unfold impl_between.f
  by_cases h : a ≥ b
  · rw [if_pos h]; simp [show b ≤ a from h]
  · rw [if_neg h]; simp [show ¬ b ≤ a from h]
theorem eq_spec_l01In (a b c : Int) : spec_l01In.f a b c = some (decide (b ≤ a ∧ a ≤ c)) := by
  unfold spec_l01In.f
  by_cases h : b ≤ a
  · rw [if_pos h]; simp [h]
  · rw [if_neg h]; simp [h]
def lastF (ts : List S117) : Nat → Int
  | 0 => -1
  | i + 1 => (at_ ts (i : Int)).f1
def SpanP (n : Int) (ts : List S117) (i : Nat) : Prop := lastF ts i < (at_ ts (i : Int)).f0 ∧ (at_ ts (i : Int)).f0 ≤ (at_ ts (i : Int)).f1 ∧ (at_ ts (i : Int)).f1 < n
def TrP (n : Int) (ts : List S117) : Prop := (1 ≤ n ∧ n ≤ 100) ∧ ts.length ≤ 12 ∧ ∀ i, i < ts.length → SpanP n ts i
theorem last_ge {n : Int} {ts : List S117} : ∀ i, (∀ j, j < i → SpanP n ts j) → -1 ≤ lastF ts i
  | 0, _ => Int.le_refl _
  | i + 1, h => by
    have h1 := h i (by omega)
    have h2 := last_ge i (fun j hj => h j (by omega))
    unfold SpanP at h1
    show -1 ≤ (at_ ts (i : Int)).f1
    omega
theorem span_bd {n : Int} {ts : List S117} (h : TrP n ts) {i : Int} (h0 : 0 ≤ i) (h1 : i < (ts.length : Int)) : 0 ≤ (at_ ts i).f0 ∧ (at_ ts i).f0 ≤ (at_ ts i).f1 ∧ (at_ ts i).f1 < n := by
  have h2 := h.2.2 i.toNat (by omega)
  have h3 := last_ge (ts := ts) i.toNat (fun j hj => h.2.2 j (by omega))
  unfold SpanP at h2
  rw [show ((i.toNat : Nat) : Int) = i by omega] at h2
  omega
theorem ev_spec_TrainsOk (n : Int) (ts : List S117) (ht : ts.length ≤ 1048576) (b : Bool) (hb : b = true ↔ TrP n ts) : Ev (fun k => spec_TrainsOk.f k n ts) b := by
  unfold spec_TrainsOk.f
  have bad : ¬ TrP n ts → b = false := bool_not hb
  refine Ev.opt (eq_spec_l01In _ _ _) (Ev.ite (fun g1 => ?_) (fun h => ev_val (bad fun g => h (decide_eq_true g.1)).symm))
  have g1 := of_decide_eq_true g1
  refine Ev.ite (fun h => ev_val (bad fun g => by have := g.2.1; omega).symm) (fun g2 => ?_)
  refine ev_scan ts.length (SpanP n ts) false (fun k i => spec_TrainsOk.l0 k n ts (lastF ts i) (i : Int)) (fun ⟨i, hi, h⟩ => bad fun g => h (g.2.2 i hi)) ?_ ?_
  · intro i hi hp hnx hx
    have hl := last_ge i hp
    refine Ev.step (fun k => by simp only [spec_TrainsOk.l0]; rfl) ?_
    rw [wrap_succ hi (by omega)]
    refine Ev.pos (by omega) (Ev.pos (by omega) (Ev.ite (fun h => ev_val (hx fun g => by unfold SpanP at g; omega).symm) (fun h1 => ?_)))
    refine Ev.opt (eq_spec_l01In _ _ _) (Ev.ite (fun h2 => ?_) (fun h2 => ev_val (hx fun g => h2 (decide_eq_true (by unfold SpanP at g; omega))).symm))
    have h2 := of_decide_eq_true h2
    exact Ev.ite (fun h => ev_val (hx fun g => by unfold SpanP at g; omega).symm) (fun h3 => hnx (by unfold SpanP; omega))
  · intro hp
    refine Ev.step (fun k => by simp only [spec_TrainsOk.l0]; rfl) ?_
    exact Ev.neg (by omega) (ev_val (hb.2 ⟨g1, by omega, hp⟩).symm)
theorem ev_impl_TrainsOk (n : Int) (ts : List S117) (ht : ts.length ≤ 1048576) (b : Bool) (hb : b = true ↔ TrP n ts) : Ev (fun k => impl_TrainsOk.f k n ts) b := by
  unfold impl_TrainsOk.f
  have bad : ¬ TrP n ts → b = false := bool_not hb
  refine Ev.opt (eq_impl_between _ _ _) (Ev.ite (fun g1 => ?_) (fun h => ev_val (bad fun g => h (decide_eq_true g.1)).symm))
  have g1 := of_decide_eq_true g1
  refine Ev.ite (fun h => ev_val (bad fun g => by have := g.2.1; omega).symm) (fun g2 => ?_)
  refine ev_scan ts.length (SpanP n ts) false (fun k i => impl_TrainsOk.l0 k n ts (lastF ts i) (i : Int)) (fun ⟨i, hi, h⟩ => bad fun g => h (g.2.2 i hi)) ?_ ?_
  · intro i hi hp hnx hx
    refine Ev.step (fun k => by simp only [impl_TrainsOk.l0]; rfl) ?_
    rw [wrap_succ hi (by omega)]
    refine Ev.pos (by omega) (Ev.pos (by omega) (Ev.ite (fun h => ev_val (hx fun g => by unfold SpanP at g; omega).symm) (fun h1 => ?_)))
    refine Ev.ite (fun h2 => ev_val (hx fun g => by unfold SpanP at g; omega).symm) (fun h2 => ?_)
    exact Ev.ite (fun h => ev_val (hx fun g => by unfold SpanP at g; omega).symm) (fun h3 => hnx (by unfold SpanP; omega))
  · intro hp
    refine Ev.step (fun k => by simp only [impl_TrainsOk.l0]; rfl) ?_
    exact Ev.neg (by omega) (ev_val (hb.2 ⟨g1, by omega, hp⟩).symm)
/-- The train at k is another one, or is gone. -/
def putV (ts : List S117) (k : Int) (t : S117) (gone : Bool) : List S117 := if k < 0 then ts else if gone = true then ts.eraseIdx k.toNat else ts.set k.toNat t
theorem put_snoc (xs : List S117) (y : S117) (k : Int) (t : S117) (gone : Bool) : putV (xs ++ [y]) k t gone = if (xs.length : Int) = k then (if gone = true then putV xs k t gone else putV xs k t gone ++ [t]) else putV xs k t gone ++ [y] := by
  unfold putV
  by_cases h0 : k < 0
  · rw [if_pos h0, if_pos h0, if_neg (by omega)]
  · rw [if_neg h0, if_neg h0]
    by_cases hg : gone = true
    · rw [if_pos hg, if_pos hg, if_pos hg]
      by_cases e : (xs.length : Int) = k
      · rw [if_pos e, List.eraseIdx_append_of_length_le (by omega), show k.toNat - xs.length = 0 by omega, List.eraseIdx_of_length_le (by omega : xs.length ≤ k.toNat)]
        simp
      · rw [if_neg e]
        by_cases hl : k.toNat < xs.length
        · rw [List.eraseIdx_append_of_lt_length hl]
        · rw [List.eraseIdx_of_length_le (by simp; omega), List.eraseIdx_of_length_le (by omega)]
    · rw [if_neg hg, if_neg hg, if_neg hg]
      by_cases e : (xs.length : Int) = k
      · rw [if_pos e, List.set_append_right _ _ (by omega), show k.toNat - xs.length = 0 by omega, List.set_eq_of_length_le (by omega : xs.length ≤ k.toNat)]
        rfl
      · rw [if_neg e]
        by_cases hl : k.toNat < xs.length
        · rw [List.set_append_left _ _ hl]
        · rw [List.set_eq_of_length_le (by simp; omega), List.set_eq_of_length_le (by omega)]
theorem put_len (xs : List S117) (k : Int) (t : S117) (gone : Bool) : (putV xs k t gone).length ≤ xs.length := by
  unfold putV
  split
  · exact Nat.le_refl _
  · split
    · rw [List.length_eraseIdx]; split <;> omega
    · rw [List.length_set]; exact Nat.le_refl _
theorem ev_spec_l05Put (ts : List S117) (k : Int) (t : S117) (gone : Bool) (ht : ts.length ≤ 1048576) : Ev (fun q => spec_l05Put.f q ts k t gone) (putV ts k t gone) := by
  unfold spec_l05Put.f
  have e0 : putV (ts.take 0) k t gone = [] := by
    have := put_len (ts.take 0) k t gone
    exact List.eq_nil_of_length_eq_zero (by simpa using this)
  have key := ev_fold (fun q i => spec_l05Put.l0 q ts k t gone (putV (ts.take i) k t gone) (i : Int)) ts.length (r := putV ts k t gone) ?_ ?_
  · rw [e0] at key; exact key
  · intro i hi hn
    have hl := put_len (ts.take i) k t gone
    rw [List.length_take] at hl
    have hli : (ts.take i).length = i := by rw [List.length_take]; omega
    refine Ev.step (fun q => by simp only [spec_l05Put.l0]; rfl) ?_
    rw [wrap_succ hi (by omega)]
    rw [take_succ' hi, put_snoc, hli] at hn
    refine Ev.pos (by omega) (Ev.ite (fun h => ?_) (fun h => ?_))
    · rw [if_pos h] at hn
      refine Ev.ite (fun g => ?_) (fun g => ?_)
      · rw [if_pos g] at hn; exact hn
      · rw [if_neg g] at hn
        exact Ev.pos (by simp only [List.length_cons, List.length_nil]; omega) hn
    · rw [if_neg h] at hn
      rw [at_nat hi]
      exact Ev.pos (by omega) (Ev.pos (by simp only [List.length_cons, List.length_nil]; omega) hn)
  · refine Ev.step (fun q => by simp only [spec_l05Put.l0]; rfl) ?_
    rw [List.take_length]
    exact Ev.neg (by omega) (ev_val rfl)
/-- A block is held by one of the first m trains. -/
def HeldP (ts : List S117) (m : Nat) (b : Int) : Prop := ∃ i, i < m ∧ (at_ ts (i : Int)).f0 ≤ b ∧ b ≤ (at_ ts (i : Int)).f1
theorem held_succ (ts : List S117) (m : Nat) (b : Int) : HeldP ts (m + 1) b ↔ HeldP ts m b ∨ ((at_ ts (m : Int)).f0 ≤ b ∧ b ≤ (at_ ts (m : Int)).f1) := by
  constructor
  · rintro ⟨i, hi, h⟩
    by_cases e : i = m
    · rw [e] at h; exact .inr h
    · exact .inl ⟨i, by omega, h⟩
  · rintro (⟨i, hi, h⟩ | h)
    · exact ⟨i, by omega, h⟩
    · exact ⟨m, by omega, h⟩
open Classical in
noncomputable def takenV (n : Nat) (ts : List S117) (m : Nat) : List Bool := (List.range n).map fun (b : Nat) => decide (HeldP ts m (b : Int))
theorem taken_len (n : Nat) (ts : List S117) (m : Nat) : (takenV n ts m).length = n := by simp [takenV]
theorem taken_at (n : Nat) (ts : List S117) (m : Nat) {b : Int} (h0 : 0 ≤ b) (h1 : b < n) : at_ (takenV n ts m) b = true ↔ HeldP ts m b := by
  rw [at_int h0 (by rw [taken_len]; exact h1)]
  simp only [takenV, List.getElem_map, List.getElem_range, decide_eq_true_eq]
  rw [show ((b.toNat : Nat) : Int) = b by omega]
theorem ev_spec_TakenBy (n : Int) (ts : List S117) (h : TrP n ts) : Ev (fun k => spec_TakenBy.f k n ts) (takenV n.toNat ts ts.length) := by
  classical
  have h12 := h.2.1
  have hn := h.1
  unfold spec_TakenBy.f
  refine Ev.bind (ev_spec_TrainsOk n ts (by omega) true (by simp [h])) (Ev.pos rfl ?_)
  have key := ev_fold (fun k b => spec_TakenBy.l0 k n ts ((takenV n.toNat ts ts.length).take b) (b : Int)) n.toNat (r := takenV n.toNat ts ts.length) ?_ ?_
  · exact key
  · intro b hb hn1
    have hb2 : b < (takenV n.toNat ts ts.length).length := by rw [taken_len]; exact hb
    rw [take_succ' hb2] at hn1
    refine Ev.step (fun k => by simp only [spec_TakenBy.l0]; rfl) ?_
    refine Ev.pos (by omega) ?_
    have k2 := ev_fold (fun k i => spec_TakenBy.l1 k n ts ((takenV n.toNat ts ts.length).take b) (b : Int) (decide (HeldP ts i (b : Int))) (i : Int)) ts.length (r := takenV n.toNat ts ts.length) ?_ ?_
    · have e : decide (HeldP ts 0 (b : Int)) = false := decide_eq_false fun ⟨i, hi, _⟩ => absurd hi (by omega)
      rw [e] at k2; exact k2
    · intro i hi hn2
      refine Ev.step (fun k => by simp only [spec_TakenBy.l1]; rfl) ?_
      rw [wrap_succ hi (by omega)]
      refine Ev.pos (by omega) (Ev.pos (by omega) (Ev.opt (eq_spec_l01In _ _ _) (Ev.ite (fun g => ?_) (fun g => ?_))))
      · rw [decide_eq_true ((held_succ ts i (b : Int)).2 (.inr (of_decide_eq_true g)))] at hn2
        exact hn2
      · have e : decide (HeldP ts (i + 1) (b : Int)) = decide (HeldP ts i (b : Int)) := decide_eq_decide.2 ((held_succ ts i (b : Int)).trans ⟨fun q => q.resolve_right fun w => g (decide_eq_true w), .inl⟩)
        rw [e] at hn2
        exact hn2
    · refine Ev.step (fun k => by simp only [spec_TakenBy.l1]; rfl) ?_
      rw [wrap_succ hb (by omega)]
      refine Ev.neg (by omega) (Ev.pos (by rw [List.length_take, taken_len]; simp only [List.length_cons, List.length_nil]; omega) ?_)
      have e : (takenV n.toNat ts ts.length)[b] = decide (HeldP ts ts.length (b : Int)) := by simp [takenV]
      rw [e] at hn1
      exact hn1
  · refine Ev.step (fun k => by simp only [spec_TakenBy.l0]; rfl) ?_
    refine Ev.neg (by omega) (ev_val ?_)
    have := List.take_length (l := takenV n.toNat ts ts.length)
    rw [taken_len] at this
    exact this
theorem taken_put (n : Nat) (ts : List S117) (m : Nat) (f : Nat → Bool) (b : Nat) (g : Nat → Bool) (h : ∀ j, j < n → g j = if j = b then true else f j) : ((List.range n).map f).set b true = (List.range n).map g := by
  rw [range_set]
  exact range_congr fun j hj => (h j hj).symm
theorem ev_impl_takenBy (n : Int) (ts : List S117) (h : TrP n ts) : Ev (fun k => impl_takenBy.f k n ts) (takenV n.toNat ts ts.length) := by
  classical
  have h12 := h.2.1
  have hn := h.1
  unfold impl_takenBy.f
  refine Ev.pos (by omega) (Ev.pos (by omega) ?_)
  have e0 : List.replicate n.toNat false = takenV n.toNat ts 0 := by
    unfold takenV
    rw [show (fun (b : Nat) => decide (HeldP ts 0 (b : Int))) = fun _ => false from funext fun b => decide_eq_false fun ⟨i, hi, _⟩ => absurd hi (by omega)]
    simp [List.map_const']
  rw [e0]
  refine ev_fold (fun k i => impl_takenBy.l0 k ts (takenV n.toNat ts i) (i : Int)) ts.length ?_ ?_
  · intro i hi hn1
    have hs := span_bd h (i := (i : Int)) (by omega) (by omega)
    refine Ev.step (fun k => by simp only [impl_takenBy.l0]; rfl) ?_
    refine Ev.pos (by omega) (Ev.pos (by omega) ?_)
    have k2 := ev_fold (fun k m => impl_takenBy.l1 k ts (i : Int) ((List.range n.toNat).map fun (b : Nat) => decide (HeldP ts i (b : Int) ∨ ((at_ ts (i : Int)).f0 ≤ (b : Int) ∧ (b : Int) < (at_ ts (i : Int)).f0 + (m : Int)))) ((at_ ts (i : Int)).f0 + (m : Int))) ((at_ ts (i : Int)).f1 - (at_ ts (i : Int)).f0 + 1).toNat (r := takenV n.toNat ts ts.length) ?_ ?_
    · have e : ((List.range n.toNat).map fun (b : Nat) => decide (HeldP ts i (b : Int) ∨ ((at_ ts (i : Int)).f0 ≤ (b : Int) ∧ (b : Int) < (at_ ts (i : Int)).f0 + ((0 : Nat) : Int)))) = takenV n.toNat ts i := by
        unfold takenV
        refine range_congr fun j hj => decide_eq_decide.2 ⟨fun q => q.resolve_right fun w => by omega, .inl⟩
      rw [e, show (at_ ts (i : Int)).f0 + ((0 : Nat) : Int) = (at_ ts (i : Int)).f0 by omega] at k2
      exact k2
    · intro m hm hn2
      refine Ev.step (fun k => by simp only [impl_takenBy.l1]; rfl) ?_
      rw [wrap_id (by omega) (by omega)]
      refine Ev.pos (by omega) (Ev.pos (by omega) (Ev.pos (by rw [List.length_map, List.length_range]; omega) ?_))
      rw [taken_put n.toNat ts i _ _ (fun (b : Nat) => decide (HeldP ts i (b : Int) ∨ ((at_ ts (i : Int)).f0 ≤ (b : Int) ∧ (b : Int) < (at_ ts (i : Int)).f0 + ((m + 1 : Nat) : Int)))) (fun j hj => ?_), show (at_ ts (i : Int)).f0 + (m : Int) + 1 = (at_ ts (i : Int)).f0 + ((m + 1 : Nat) : Int) by omega]
      · exact hn2
      · by_cases e : j = ((at_ ts (i : Int)).f0 + (m : Int)).toNat
        · rw [if_pos e]; exact decide_eq_true (.inr (by omega))
        · rw [if_neg e]
          exact decide_eq_decide.2 ⟨fun q => q.imp id (fun w => by omega), fun q => q.imp id (fun w => by omega)⟩
    · refine Ev.step (fun k => by simp only [impl_takenBy.l1]; rfl) ?_
      rw [wrap_succ hi (by omega)]
      refine Ev.neg (by omega) ?_
      have e : ((List.range n.toNat).map fun (b : Nat) => decide (HeldP ts i (b : Int) ∨ ((at_ ts (i : Int)).f0 ≤ (b : Int) ∧ (b : Int) < (at_ ts (i : Int)).f0 + ((((at_ ts (i : Int)).f1 - (at_ ts (i : Int)).f0 + 1).toNat : Nat) : Int)))) = takenV n.toNat ts (i + 1) := by
        unfold takenV
        refine range_congr fun j hj => decide_eq_decide.2 ?_
        rw [held_succ]
        exact ⟨fun q => q.imp id (fun w => by omega), fun q => q.imp id (fun w => by omega)⟩
      rw [e]
      exact hn1
  · refine Ev.step (fun k => by simp only [impl_takenBy.l0]; rfl) ?_
    exact Ev.neg (by omega) (ev_val rfl)
theorem ev_spec_FreeFrom (tk : List Bool) (j : Int) (hl : tk.length ≤ 100) (h0 : 0 ≤ j) (h1 : j < (tk.length : Int)) : Evx (fun k => spec_FreeFrom.f k tk j) (fun m => 0 ≤ m ∧ m ≤ (tk.length : Int) - j ∧ (m = 0 ↔ at_ tk j = true)) := by
  unfold spec_FreeFrom.f
  rw [wrap_id (x := (tk.length : Int) - 1) (by omega) (by omega)]
  refine Evx.neg (by omega) (Evx.opt (eq_spec_l01In _ _ _) (Evx.pos (decide_eq_true (by omega)) ?_))
  refine evx_loop (fun k i (_ : Unit) => spec_FreeFrom.l0 k tk j (i : Int)) ((tk.length : Int) - j).toNat (fun i _ => 0 < i → at_ tk j = false) _ ?_ ?_ () (fun h => absurd h (by omega))
  · intro i _ hi hI hn
    refine Evx.step (fun k => by simp only [spec_FreeFrom.l0]; rfl) ?_
    rw [wrap_id (x := j + (i : Int)) (by omega) (by omega), wrap_succ hi (by omega)]
    refine Evx.pos (by omega) (Evx.pos (by omega) (Evx.ite (fun g => ?_) (fun g => ?_)))
    · rcases Nat.eq_zero_or_pos i with e | e
      · subst e
        rw [show j + ((0 : Nat) : Int) = j by omega] at g
        exact Evx.val ⟨by omega, by omega, fun _ => g, fun _ => rfl⟩
      · have := hI e
        exact Evx.val ⟨by omega, by omega, fun q => by omega, fun q => by rw [this] at q; cases q⟩
    · refine hn () (fun _ => ?_)
      rcases Nat.eq_zero_or_pos i with e | e
      · subst e
        rw [show j + ((0 : Nat) : Int) = j by omega] at g
        simpa using g
      · exact hI e
  · intro _ hI
    have := hI (by omega)
    refine Evx.step (fun k => by simp only [spec_FreeFrom.l0]; rfl) ?_
    rw [wrap_id (x := j + _) (by omega) (by omega)]
    exact Evx.neg (by omega) (Evx.val ⟨by omega, by omega, fun q => by omega, fun q => by rw [this] at q; cases q⟩)
theorem ev_spec_Aspects (tk : List Bool) (bey : Int) (hl : tk.length ≤ 100) (hb : 0 ≤ bey ∧ bey ≤ 3) : Evx (fun k => spec_Aspects.f k tk bey) (fun r => r.length = tk.length ∧ ∀ j : Nat, j < tk.length → (at_ r (j : Int) = 0 ↔ at_ tk (j : Int) = true)) := by
  unfold spec_Aspects.f
  refine Evx.neg (by omega) (Evx.opt (eq_spec_l01In _ _ _) (Evx.pos (decide_eq_true hb) ?_))
  refine evx_loop (fun k i (acc : List Int) => spec_Aspects.l0 k tk bey acc (i : Int)) tk.length (fun i acc => acc.length = i ∧ ∀ j : Nat, j < i → (at_ acc (j : Int) = 0 ↔ at_ tk (j : Int) = true)) _ ?_ ?_ [] ⟨rfl, fun j h => absurd h (by omega)⟩
  · intro i acc hi ⟨a1, a2⟩ hn
    refine Evx.step (fun k => by simp only [spec_Aspects.l0]; rfl) ?_
    rw [wrap_succ hi (by omega)]
    refine Evx.pos (by omega) (Evx.bind (ev_spec_FreeFrom tk (i : Int) hl (by omega) (by omega)) (fun m ⟨m0, m1, m2⟩ => ?_))
    rw [wrap_id (x := (i : Int) + m) (by omega) (by omega), wrap_id (x := m + bey) (by omega) (by omega)]
    have nx : ∀ v : Int, (v = 0 ↔ m = 0) → Evx (fun k => spec_Aspects.l0 k tk bey (acc ++ [v]) ((i + 1 : Nat) : Int)) (fun r => r.length = tk.length ∧ ∀ j : Nat, j < tk.length → (at_ r (j : Int) = 0 ↔ at_ tk (j : Int) = true)) := by
      intro v hv
      refine hn _ ⟨by simp [a1], fun j hj => ?_⟩
      by_cases e : j = i
      · subst e
        rw [show ((j : Nat) : Int) = (acc.length : Int) by omega, at_app_last, ← show ((j : Nat) : Int) = (acc.length : Int) by omega]
        exact hv.trans m2
      · rw [at_app_left _ _ (by omega) (by omega)]
        exact a2 j (by omega)
    refine Evx.ite (fun e => Evx.ite (fun g => ?_) (fun g => ?_)) (fun e => Evx.ite (fun g => ?_) (fun g => ?_))
    · exact Evx.pos (by simp only [List.length_cons, List.length_nil]; omega) (nx 3 (by omega))
    · exact Evx.pos (by simp only [List.length_cons, List.length_nil]; omega) (nx _ (by omega))
    · exact Evx.pos (by simp only [List.length_cons, List.length_nil]; omega) (nx 3 (by omega))
    · exact Evx.pos (by simp only [List.length_cons, List.length_nil]; omega) (nx _ Iff.rfl)
  · intro acc hI
    refine Evx.step (fun k => by simp only [spec_Aspects.l0]; rfl) ?_
    exact Evx.neg (by omega) (Evx.val hI)
open Classical in
/-- The train at k moves on, or refuses. -/
noncomputable def fwdV (n : Int) (ts : List S117) (k bey : Int) : List S117 × Bool :=
  if k < (ts.length : Int) then
    (if (at_ ts k).f1 + 1 = n then (if bey = 0 then ([], false) else (ts.eraseIdx k.toNat, true))
    else if HeldP ts ts.length ((at_ ts k).f1 + 1) then ([], false) else (ts.set k.toNat ⟨(at_ ts k).f0, (at_ ts k).f1 + 1⟩, true))
  else ([], false)
def shrV (ts : List S117) (k : Int) : List S117 × Bool :=
  if k < (ts.length : Int) then (if (at_ ts k).f0 = (at_ ts k).f1 then ([], false) else (ts.set k.toNat ⟨(at_ ts k).f0 + 1, (at_ ts k).f1⟩, true)) else ([], false)
noncomputable def stepV (n : Int) (ts : List S117) (mv bey : Int) : List S117 × Bool :=
  if 0 ≤ mv then (if mv % 2 = 0 then fwdV n ts (mv / 2) bey else shrV ts (mv / 2)) else ([], false)
theorem tr_set {n : Int} {ts : List S117} (h : TrP n ts) (k : Nat) (hk : k < ts.length) (t : S117) (h1 : lastF ts k < t.f0) (h2 : t.f0 ≤ t.f1) (h3 : t.f1 < n) (h4 : k + 1 < ts.length → t.f1 < (at_ ts ((k + 1 : Nat) : Int)).f0) : TrP n (ts.set k t) := by
  refine ⟨h.1, by rw [List.length_set]; exact h.2.1, fun i hi => ?_⟩
  rw [List.length_set] at hi
  have hs := h.2.2 i hi
  have el : lastF (ts.set k t) i = if i = k + 1 then t.f1 else lastF ts i := by
    cases i with
    | zero => rw [if_neg (by omega)]; rfl
    | succ i =>
      show (at_ (ts.set k t) (i : Int)).f1 = _
      by_cases e : i = k
      · subst e; rw [if_pos rfl, at_set_eq hk]
      · rw [if_neg (by omega), at_set_ne (by omega) (by omega)]; rfl
  unfold SpanP at hs ⊢
  rw [el]
  by_cases e : i = k
  · subst e
    rw [if_neg (by omega), at_set_eq hk]
    exact ⟨h1, h2, h3⟩
  · rw [at_set_ne (by omega) (by omega)]
    by_cases e2 : i = k + 1
    · subst e2
      rw [if_pos rfl]
      exact ⟨h4 hi, hs.2⟩
    · rw [if_neg e2]; exact hs
theorem tr_last {n : Int} {ts : List S117} (h : TrP n ts) {k : Nat} (hk : k < ts.length) (e : (at_ ts (k : Int)).f1 + 1 = n) : k + 1 = ts.length := by
  rcases Nat.lt_or_ge (k + 1) ts.length with g | g
  · have := h.2.2 (k + 1) g
    unfold SpanP at this
    have e1 : lastF ts (k + 1) = (at_ ts (k : Int)).f1 := rfl
    omega
  · omega
theorem tr_take {n : Int} {ts : List S117} (h : TrP n ts) (k : Nat) (hk : k ≤ ts.length) : TrP n (ts.take k) := by
  refine ⟨h.1, by rw [List.length_take]; have := h.2.1; omega, fun i hi => ?_⟩
  rw [List.length_take] at hi
  have hs := h.2.2 i (by omega)
  have el : lastF (ts.take k) i = lastF ts i := by
    cases i with
    | zero => rfl
    | succ i => show (at_ (ts.take k) (i : Int)).f1 = (at_ ts (i : Int)).f1; rw [at_take ts (by omega) (by omega)]
  unfold SpanP at hs ⊢
  rw [el, at_take ts (by omega) (by omega)]
  exact hs
theorem step_tr {n : Int} {ts : List S117} (h : TrP n ts) (mv bey : Int) (hs : (stepV n ts mv bey).2 = true) : TrP n (stepV n ts mv bey).1 := by
  unfold stepV at hs ⊢
  by_cases h0 : 0 ≤ mv
  · rw [if_pos h0] at hs ⊢
    have hk : ((mv / 2).toNat : Int) = mv / 2 := by omega
    by_cases h2 : mv % 2 = 0
    · rw [if_pos h2] at hs ⊢
      unfold fwdV at hs ⊢
      by_cases h3 : mv / 2 < (ts.length : Int)
      · rw [if_pos h3] at hs ⊢
        have hb := span_bd h (i := mv / 2) (by omega) h3
        have hsp := h.2.2 (mv / 2).toNat (by omega)
        unfold SpanP at hsp
        rw [hk] at hsp
        by_cases h4 : (at_ ts (mv / 2)).f1 + 1 = n
        · rw [if_pos h4] at hs ⊢
          by_cases h5 : bey = 0
          · rw [if_pos h5] at hs; cases hs
          · rw [if_neg h5]
            have hl := tr_last h (k := (mv / 2).toNat) (by omega) (by rw [hk]; exact h4)
            show TrP n (ts.eraseIdx (mv / 2).toNat)
            rw [List.eraseIdx_eq_take_drop_succ, hl, List.drop_length, List.append_nil]
            exact tr_take h _ (by omega)
        · rw [if_neg h4] at hs ⊢
          by_cases h5 : HeldP ts ts.length ((at_ ts (mv / 2)).f1 + 1)
          · rw [if_pos h5] at hs; cases hs
          · rw [if_neg h5]
            refine tr_set h _ (by omega) _ hsp.1 (by dsimp only; omega) (by dsimp only; omega) (fun g => ?_)
            show (at_ ts (mv / 2)).f1 + 1 < _
            have hsn := h.2.2 _ g
            unfold SpanP at hsn
            have e1 : lastF ts ((mv / 2).toNat + 1) = (at_ ts (mv / 2)).f1 := by show (at_ ts (((mv / 2).toNat : Nat) : Int)).f1 = _; rw [hk]
            rcases Int.lt_or_le ((at_ ts (mv / 2)).f1 + 1) (at_ ts (((mv / 2).toNat + 1 : Nat) : Int)).f0 with w | w
            · exact w
            · exact absurd ⟨_, g, by omega, by omega⟩ h5
      · rw [if_neg h3] at hs; cases hs
    · rw [if_neg h2] at hs ⊢
      unfold shrV at hs ⊢
      by_cases h3 : mv / 2 < (ts.length : Int)
      · rw [if_pos h3] at hs ⊢
        have hb := span_bd h (i := mv / 2) (by omega) h3
        have hsp := h.2.2 (mv / 2).toNat (by omega)
        unfold SpanP at hsp
        rw [hk] at hsp
        by_cases h4 : (at_ ts (mv / 2)).f0 = (at_ ts (mv / 2)).f1
        · rw [if_pos h4] at hs; cases hs
        · rw [if_neg h4]
          refine tr_set h _ (by omega) _ (by dsimp only; omega) (by dsimp only; omega) hb.2.2 (fun g => ?_)
          have hsn := h.2.2 _ g
          unfold SpanP at hsn
          have e1 : lastF ts ((mv / 2).toNat + 1) = (at_ ts (mv / 2)).f1 := by show (at_ ts (((mv / 2).toNat : Nat) : Int)).f1 = _; rw [hk]
          show (at_ ts (mv / 2)).f1 < _
          omega
      · rw [if_neg h3] at hs; cases hs
  · rw [if_neg h0] at hs; cases hs
noncomputable def driveTo (n : Int) (ts : List S117) (mvs : List Int) (bey : Int) : Nat → List S117 × Nat
  | 0 => (ts, 0)
  | i + 1 => if (stepV n (driveTo n ts mvs bey i).1 (at_ mvs (i : Int)) bey).2 = true then ((stepV n (driveTo n ts mvs bey i).1 (at_ mvs (i : Int)) bey).1, (driveTo n ts mvs bey i).2) else ((driveTo n ts mvs bey i).1, (driveTo n ts mvs bey i).2 + 1)
theorem driveTo_succ (n : Int) (ts : List S117) (mvs : List Int) (bey : Int) (i : Nat) : driveTo n ts mvs bey (i + 1) = if (stepV n (driveTo n ts mvs bey i).1 (at_ mvs (i : Int)) bey).2 = true then ((stepV n (driveTo n ts mvs bey i).1 (at_ mvs (i : Int)) bey).1, (driveTo n ts mvs bey i).2) else ((driveTo n ts mvs bey i).1, (driveTo n ts mvs bey i).2 + 1) := rfl
theorem drive_tr {n : Int} {ts : List S117} (h : TrP n ts) (mvs : List Int) (bey : Int) : ∀ i, TrP n (driveTo n ts mvs bey i).1 ∧ (driveTo n ts mvs bey i).2 ≤ i
  | 0 => ⟨h, Nat.le_refl _⟩
  | i + 1 => by
    have ih := drive_tr h mvs bey i
    unfold driveTo
    by_cases g : (stepV n (driveTo n ts mvs bey i).1 (at_ mvs (i : Int)) bey).2 = true
    · rw [if_pos g]; exact ⟨step_tr ih.1 _ _ g, by have := ih.2; omega⟩
    · rw [if_neg g]; exact ⟨ih.1, by have := ih.2; show _ + 1 ≤ _; omega⟩
theorem ev_spec_Forward (n : Int) (ts : List S117) (k bey : Int) (h : TrP n ts) (h0 : 0 ≤ k) (hb : 0 ≤ bey ∧ bey ≤ 3) : Ev (fun q => spec_Forward.f q n ts k bey) (fwdV n ts k bey) := by
  have h12 := h.2.1
  have hn := h.1
  unfold spec_Forward.f fwdV
  rw [wrap_id (x := (ts.length : Int) - 1) (by omega) (by omega), wrap_id (x := n - 1) (by omega) (by omega)]
  refine Ev.bind (ev_spec_TrainsOk n ts (by omega) true (by simp [h])) (Ev.pos rfl (Ev.opt (eq_spec_l01In _ _ _) ?_))
  by_cases hk : k < (ts.length : Int)
  · rw [if_pos hk]
    have hsb := span_bd h h0 hk
    rw [wrap_id (x := (at_ ts k).f1 + 1) (by omega) (by omega)]
    refine Ev.pos (decide_eq_true (by omega)) (Ev.opt (eq_spec_l01In _ _ _) (Ev.pos (decide_eq_true hb) (Ev.pos (by omega) (Ev.pos (by omega) ?_))))
    refine Ev.ite (fun e => ?_) (fun e => ?_)
    · rw [if_pos (show (at_ ts k).f1 + 1 = n by omega)]
      refine Ev.ite (fun g => ev_val (by rw [if_pos g])) (fun g => ?_)
      rw [if_neg g]
      refine Ev.bind (ev_spec_l05Put ts k _ true (by omega)) (ev_val ?_)
      unfold putV
      rw [if_neg (by omega), if_pos rfl]
    · rw [if_neg (show ¬ (at_ ts k).f1 + 1 = n by omega)]
      refine Ev.bind (ev_spec_TakenBy n ts h) ?_
      obtain ⟨r, e1, e2, e3⟩ := ev_spec_Aspects (takenV n.toNat ts ts.length) bey (by rw [taken_len]; omega) hb
      rw [taken_len] at e2 e3
      refine Ev.bind e1 (Ev.pos (by omega) (Ev.pos (by omega) ?_))
      have e4 := e3 ((at_ ts k).f1 + 1).toNat (by omega)
      rw [show ((((at_ ts k).f1 + 1).toNat : Nat) : Int) = (at_ ts k).f1 + 1 by omega, taken_at n.toNat ts ts.length (by omega) (by omega)] at e4
      refine Ev.ite (fun g => ev_val (by rw [if_pos (e4.1 g)])) (fun g => ?_)
      rw [if_neg (fun w => g (e4.2 w))]
      refine Ev.bind (ev_spec_l05Put ts k _ false (by omega)) (ev_val ?_)
      unfold putV
      rw [if_neg (by omega), if_neg (by decide)]
  · rw [if_neg hk]
    exact Ev.neg (fun g => by have := of_decide_eq_true g; omega) (ev_val rfl)
theorem ev_spec_Shrink (n : Int) (ts : List S117) (k : Int) (h : TrP n ts) (h0 : 0 ≤ k) : Ev (fun q => spec_Shrink.f q n ts k) (shrV ts k) := by
  have h12 := h.2.1
  have hn := h.1
  unfold spec_Shrink.f shrV
  rw [wrap_id (x := (ts.length : Int) - 1) (by omega) (by omega)]
  refine Ev.bind (ev_spec_TrainsOk n ts (by omega) true (by simp [h])) (Ev.pos rfl (Ev.opt (eq_spec_l01In _ _ _) ?_))
  by_cases hk : k < (ts.length : Int)
  · rw [if_pos hk]
    have hsb := span_bd h h0 hk
    rw [wrap_id (x := (at_ ts k).f0 + 1) (by omega) (by omega)]
    refine Ev.pos (decide_eq_true (by omega)) (Ev.pos (by omega) (Ev.pos (by omega) (Ev.ite (fun g => ev_val (by rw [if_pos g])) (fun g => ?_))))
    rw [if_neg g]
    refine Ev.bind (ev_spec_l05Put ts k _ false (by omega)) (ev_val ?_)
    unfold putV
    rw [if_neg (by omega), if_neg (by decide)]
  · rw [if_neg hk]
    exact Ev.neg (fun g => by have := of_decide_eq_true g; omega) (ev_val rfl)
theorem ev_impl_goOn (n : Int) (ts : List S117) (k bey : Int) (h : TrP n ts) (h0 : 0 ≤ k) (hk : k < (ts.length : Int)) : Ev (fun q => impl_goOn.f q n ts k bey) (fwdV n ts k bey) := by
  have h12 := h.2.1
  have hn := h.1
  have hsb := span_bd h h0 hk
  unfold impl_goOn.f fwdV
  simp only [List.nil_append, List.length_nil]
  rw [wrap_id (x := (at_ ts k).f1 + 1) (by omega) (by omega), wrap_id (x := k + 1) (by omega) (by omega)]
  refine Ev.cast ?_ (if_pos hk).symm
  refine Ev.pos h0 (Ev.pos hk (Ev.ite (fun e => ?_) (fun e => ?_)))
  · rw [if_pos e]
    refine Ev.ite (fun g => ev_val (by rw [if_pos g])) (fun g => ?_)
    rw [if_neg g]
    have e1 : (ts.drop (0 : Int).toNat).take (k.toNat - (0 : Int).toNat) = ts.take k.toNat := rfl
    have e2 : (ts.drop (k + 1).toNat).take ((ts.length : Int).toNat - (k + 1).toNat) = ts.drop (k.toNat + 1) := by
      rw [show (k + 1).toNat = k.toNat + 1 by omega, Int.toNat_natCast, List.take_of_length_le (by rw [List.length_drop]; omega)]
    rw [e1, e2]
    refine Ev.pos (by omega) (Ev.pos (by rw [List.length_take]; omega) (Ev.pos (by omega) (Ev.pos (by omega) (Ev.pos (by rw [List.length_take, List.length_drop]; omega) (ev_val ?_)))))
    rw [List.eraseIdx_eq_take_drop_succ]
  · rw [if_neg e]
    refine Ev.bind (ev_impl_takenBy n ts h) (Ev.pos (by omega) (Ev.pos (by rw [taken_len]; omega) ?_))
    have e4 := taken_at n.toNat ts ts.length (b := (at_ ts k).f1 + 1) (by omega) (by omega)
    refine Ev.ite (fun g => ev_val (by rw [if_pos (e4.1 g)])) (fun g => ?_)
    rw [if_neg (fun w => g (e4.2 w))]
    exact Ev.pos (by omega) (Ev.pos hk (ev_val rfl))
theorem eq_impl_drawUp {n : Int} (ts : List S117) (k : Int) (h : TrP n ts) (h0 : 0 ≤ k) (hk : k < (ts.length : Int)) : impl_drawUp.f ts k = some (shrV ts k) := by
  have h12 := h.2.1
  have hn := h.1
  have hsb := span_bd h h0 hk
  unfold impl_drawUp.f shrV
  simp only [List.nil_append, List.length_nil]
  rw [wrap_id (x := (at_ ts k).f0 + 1) (by omega) (by omega)]
  simp only [if_pos h0, if_pos hk, if_pos (show (0 + ts.length) * 16 ≤ 70368744177664 by omega)]
  by_cases g : (at_ ts k).f0 = (at_ ts k).f1
  · rw [if_pos g, if_pos g]
  · rw [if_neg g, if_neg g]
theorem ev_spec_DriveL (n : Int) (ts : List S117) (mvs : List Int) (bey : Int) (h : TrP n ts) (hb : 0 ≤ bey ∧ bey ≤ 3) (hl : mvs.length ≤ 300) (hm : ∀ y, y ∈ mvs → (Lit.int .i64 y).wf = true) : Ev (fun k => spec_Drive.l0 k n mvs bey ts 0 0) ((driveTo n ts mvs bey mvs.length).1, ((driveTo n ts mvs bey mvs.length).2 : Int)) := by
  refine ev_fold (fun k i => spec_Drive.l0 k n mvs bey (driveTo n ts mvs bey i).1 ((driveTo n ts mvs bey i).2 : Int) (i : Int)) mvs.length ?_ ?_
  · intro i hi hnx
    obtain ⟨hT, hle⟩ := drive_tr h mvs bey i
    rw [driveTo_succ] at hnx
    generalize driveTo n ts mvs bey i = s at hT hle hnx ⊢
    have hw := hm _ (at_mem (xs := mvs) (i := (i : Int)) (by omega) (by omega))
    have w1 := wf_lo hw
    have w2 := wf_hi hw
    refine Ev.step (fun k => by simp only [spec_Drive.l0]; rfl) ?_
    rw [wrap_succ hi (by omega), wrap_id (x := (s.2 : Int) + 1) (by omega) (by omega)]
    refine Ev.pos (by omega) (Ev.pos (by omega) ?_)
    have no : (stepV n s.1 (at_ mvs (i : Int)) bey).2 = false → Ev (fun k => spec_Drive.l0 k n mvs bey s.1 ((s.2 : Int) + 1) ((i + 1 : Nat) : Int)) ((driveTo n ts mvs bey mvs.length).1, ((driveTo n ts mvs bey mvs.length).2 : Int)) := by
      intro g
      rw [if_neg (by rw [g]; decide)] at hnx
      exact hnx
    have yes : (stepV n s.1 (at_ mvs (i : Int)) bey).2 = true → Ev (fun k => spec_Drive.l0 k n mvs bey (stepV n s.1 (at_ mvs (i : Int)) bey).1 (s.2 : Int) ((i + 1 : Nat) : Int)) ((driveTo n ts mvs bey mvs.length).1, ((driveTo n ts mvs bey mvs.length).2 : Int)) := by
      intro g
      rw [if_pos g] at hnx
      exact hnx
    refine Ev.ite (fun p => ?_) (fun p => ?_)
    · rw [tmod_of 2 p, tdiv_of 2 p, wrap_id (x := at_ mvs (i : Int) / 2) (by omega) (by omega)]
      refine Ev.ite (fun q => ?_) (fun q => ?_)
      · have e : stepV n s.1 (at_ mvs (i : Int)) bey = fwdV n s.1 (at_ mvs (i : Int) / 2) bey := by unfold stepV; rw [if_pos p, if_pos q]
        rw [e] at yes no
        refine Ev.bind (ev_spec_Forward n s.1 _ bey hT (by omega) hb) (Ev.ite (fun g => yes g) (fun g => no (by simpa using g)))
      · have e : stepV n s.1 (at_ mvs (i : Int)) bey = shrV s.1 (at_ mvs (i : Int) / 2) := by unfold stepV; rw [if_pos p, if_neg q]
        rw [e] at yes no
        refine Ev.step (fun k => by simp only [spec_Drive.j1]; rfl) ?_
        rw [wrap_succ hi (by omega), wrap_id (x := (s.2 : Int) + 1) (by omega) (by omega), tdiv_of 2 p, wrap_id (x := at_ mvs (i : Int) / 2) (by omega) (by omega)]
        refine Ev.pos (by omega) (Ev.pos (by omega) (Ev.pos p (Ev.bind (ev_spec_Shrink n s.1 _ hT (by omega)) (Ev.ite (fun g => yes g) (fun g => no (by simpa using g))))))
    · have e : stepV n s.1 (at_ mvs (i : Int)) bey = ([], false) := by unfold stepV; rw [if_neg (by omega)]
      refine Ev.step (fun k => by simp only [spec_Drive.j1]; rfl) ?_
      rw [wrap_succ hi (by omega), wrap_id (x := (s.2 : Int) + 1) (by omega) (by omega)]
      exact Ev.pos (by omega) (Ev.pos (by omega) (Ev.neg p (no (by rw [e]))))
  · refine Ev.step (fun k => by simp only [spec_Drive.l0]; rfl) ?_
    exact Ev.neg (by omega) (ev_val rfl)
theorem ev_impl_DriveL (n : Int) (ts : List S117) (mvs : List Int) (bey : Int) (h : TrP n ts) (hb : 0 ≤ bey ∧ bey ≤ 3) (hl : mvs.length ≤ 300) (hm : ∀ y, y ∈ mvs → (Lit.int .i64 y).wf = true) : Ev (fun k => impl_Drive.l0 k n mvs bey ts 0 0) ((driveTo n ts mvs bey mvs.length).1, ((driveTo n ts mvs bey mvs.length).2 : Int)) := by
  refine ev_fold (fun k i => impl_Drive.l0 k n mvs bey (driveTo n ts mvs bey i).1 ((driveTo n ts mvs bey i).2 : Int) (i : Int)) mvs.length ?_ ?_
  · intro i hi hnx
    obtain ⟨hT, hle⟩ := drive_tr h mvs bey i
    rw [driveTo_succ] at hnx
    generalize driveTo n ts mvs bey i = s at hT hle hnx ⊢
    have hw := hm _ (at_mem (xs := mvs) (i := (i : Int)) (by omega) (by omega))
    have w1 := wf_lo hw
    have w2 := wf_hi hw
    refine Ev.step (fun k => by simp only [impl_Drive.l0]; rfl) ?_
    refine Ev.pos (by omega) (Ev.pos (by omega) ?_)
    have j : ∀ t : List S117 × Bool, t = stepV n s.1 (at_ mvs (i : Int)) bey → Ev (fun k => impl_Drive.j1 k n mvs bey s.1 (s.2 : Int) (i : Int) t.1 t.2) ((driveTo n ts mvs bey mvs.length).1, ((driveTo n ts mvs bey mvs.length).2 : Int)) := by
      intro t e
      refine Ev.step (fun k => by simp only [impl_Drive.j1]; rfl) ?_
      rw [wrap_succ hi (by omega), wrap_id (x := (s.2 : Int) + 1) (by omega) (by omega)]
      rw [← e] at hnx
      refine Ev.ite (fun g => ?_) (fun g => ?_)
      · rw [if_pos g] at hnx; exact hnx
      · rw [if_neg g] at hnx; exact hnx
    refine Ev.ite (fun p => ?_) (fun p => ?_)
    · rw [tmod_of 2 p, tdiv_of 2 p, wrap_id (x := at_ mvs (i : Int) / 2) (by omega) (by omega)]
      refine Ev.ite (fun q => ?_) (fun q => ?_)
      · refine Ev.ite (fun w => ?_) (fun w => ?_)
        · exact Ev.bind (ev_impl_goOn n s.1 _ bey hT (by omega) q) (j _ (by unfold stepV; rw [if_pos p, if_pos w]))
        · exact Ev.opt (eq_impl_drawUp s.1 _ hT (by omega) q) (j _ (by unfold stepV; rw [if_pos p, if_neg w]))
      · refine j ([], false) ?_
        unfold stepV fwdV shrV
        rw [if_pos p, if_neg q, if_neg q]
        split <;> rfl
    · exact j ([], false) (by unfold stepV; rw [if_neg (by omega)])
  · refine Ev.step (fun k => by simp only [impl_Drive.l0]; rfl) ?_
    exact Ev.neg (by omega) (ev_val rfl)
theorem main_FnExactDrive (x0 : Int) (x1 : (List S117)) (x2 : (List Int)) (x3 : Int) (h0 : (Lit.int .i64 x0).wf = true) (h1 : (x1.length ≤ maxLen ∧ ∀ y ∈ x1, ok117 y)) (h2 : (x2.length ≤ maxLen ∧ ∀ y ∈ x2, (Lit.int .i64 y).wf = true)) (h3 : (Lit.int .i64 x3).wf = true) (b1 : (x1.length ≤ 1048576)) (b2 : (x2.length ≤ 1048576)) : ∃ w, Ev (fun k => spec_Drive.f k x0 x1 x2 x3) w ∧ Ev (fun k => impl_Drive.f k x0 x1 x2 x3) w ∧ (w.1.length ≤ 1048576) := by
  classical
  by_cases hP : TrP x0 x1 ∧ (0 ≤ x3 ∧ x3 ≤ 3) ∧ x2.length ≤ 300
  · obtain ⟨hT, hb, hl⟩ := hP
    have h12 := hT.2.1
    have hd := (drive_tr hT x2 x3 x2.length).1.2.1
    refine ⟨((driveTo x0 x1 x2 x3 x2.length).1, ((driveTo x0 x1 x2 x3 x2.length).2 : Int)), ?_, ?_, show (driveTo x0 x1 x2 x3 x2.length).1.length ≤ 1048576 by omega⟩
    · unfold spec_Drive.f
      refine Ev.bind (ev_spec_TrainsOk x0 x1 b1 true (by simp [hT])) (Ev.pos rfl (Ev.opt (eq_spec_l01In _ _ _) (Ev.pos (decide_eq_true hb) (Ev.neg (by omega) (Ev.bind (ev_spec_l05Put x1 (-1) _ false b1) ?_)))))
      have e : putV x1 (-1) ⟨0, 0⟩ false = x1 := by unfold putV; rw [if_pos (by omega)]
      rw [e]
      exact ev_spec_DriveL x0 x1 x2 x3 hT hb hl h2.2
    · unfold impl_Drive.f
      refine Ev.bind (ev_impl_TrainsOk x0 x1 b1 true (by simp [hT])) (Ev.pos rfl (Ev.opt (eq_impl_between _ _ _) (Ev.pos (decide_eq_true hb) (Ev.neg (by omega) ?_))))
      simp only [List.nil_append, List.length_nil]
      exact Ev.pos (by omega) (ev_impl_DriveL x0 x1 x2 x3 hT hb hl h2.2)
  · refine ⟨([], -1), ?_, ?_, Nat.zero_le _⟩
    · unfold spec_Drive.f
      refine Ev.bind (ev_spec_TrainsOk x0 x1 b1 (decide (TrP x0 x1)) decide_eq_true_iff) (Ev.ite (fun g1 => ?_) (fun _ => ev_val rfl))
      refine Ev.opt (eq_spec_l01In _ _ _) (Ev.ite (fun g2 => ?_) (fun _ => ev_val rfl))
      exact Ev.ite (fun _ => ev_val rfl) (fun g3 => absurd ⟨of_decide_eq_true g1, of_decide_eq_true g2, by omega⟩ hP)
    · unfold impl_Drive.f
      refine Ev.bind (ev_impl_TrainsOk x0 x1 b1 (decide (TrP x0 x1)) decide_eq_true_iff) (Ev.ite (fun g1 => ?_) (fun _ => ev_val rfl))
      refine Ev.opt (eq_impl_between _ _ _) (Ev.ite (fun g2 => ?_) (fun _ => ev_val rfl))
      exact Ev.ite (fun _ => ev_val rfl) (fun g3 => absurd ⟨of_decide_eq_true g1, of_decide_eq_true g2, by omega⟩ hP)
theorem pure_FnExactDrive : Pure := by
  intro x0 x1 x2 x3 h0 h1 h2 h3
  refine Ev.rounds ?_
  unfold laws_FnExactDrive.f
  refine Ev.ite (fun _ => ev_val rfl) (fun g2 => ?_)
  have b2 : (x2.length ≤ 1048576) := by omega
  obtain ⟨r1, e1, hr1⟩ := sz_SpanS x1 1048576 (by omega) (by omega) h1
  refine Ev.bind e1 ?_
  refine Ev.ite (fun _ => ev_val rfl) (fun g1 => ?_)
  obtain ⟨p1, q1, b1⟩ := hr1.resolve_left g1
  obtain ⟨w, es, ei, hb⟩ := main_FnExactDrive x0 x1 x2 x3 h0 h1 h2 h3 b1 b2
  refine Ev.bind (to_SpanS x1 b1) ?_
  refine Ev.bind (to_IntS x2 b2) ?_
  refine Ev.bind es ?_
  refine Ev.bind (to_SpanS x1 b1) ?_
  refine Ev.bind (to_IntS x2 b2) ?_
  refine Ev.bind ei ?_
  refine Ev.bind (eq_SpanS _ (by first | exact hb | exact hb.1 | exact hb.2 | trivial)) ?_
  refine Ev.pos (by first | rfl | simp [sEq] | omega) ?_
  refine Ev.pos (by first | rfl | simp [sEq] | omega) ?_
  refine Ev.bind (to_SpanS x1 b1) ?_
  refine Ev.bind (eq_SpanS _ b1) ?_
  refine Ev.pos (by first | rfl | simp [sEq] | omega) ?_
  refine Ev.bind (to_IntS x2 b2) ?_
  refine Ev.bind (eq_IntS _ b2) ?_
  refine Ev.pos (by first | rfl | simp [sEq] | omega) ?_
  refine Ev.bind (mark_SpanS _ (by first | omega | (have := hb; omega) | (have := hb.1; omega) | (have := hb.2; omega) | (rw [List.length_map]; omega)) _ (by first | omega | (dsimp only; omega)) (by first | omega | (dsimp only; omega))) ?_
  refine Ev.bind (mark_IntS _ (by first | omega | (have := hb; omega) | (have := hb.1; omega) | (have := hb.2; omega) | (rw [List.length_map]; omega)) _ (by first | omega | (dsimp only; omega)) (by first | omega | (dsimp only; omega))) ?_
  refine Ev.neg (by first | omega | simp [sEq]) ?_
  refine Ev.bind (eq_SpanS _ (by first | exact hb | exact hb.1 | exact hb.2 | trivial)) ?_
  refine Ev.pos (by first | rfl | simp [sEq] | omega) ?_
  refine Ev.bind (mark_SpanS _ (by first | omega | (have := hb; omega) | (have := hb.1; omega) | (have := hb.2; omega) | (rw [List.length_map]; omega)) _ (by first | omega | (dsimp only; omega)) (by first | omega | (dsimp only; omega))) ?_
  refine Ev.bind (held_SpanS _ (by first | omega | (have := hb; omega) | (have := hb.1; omega) | (have := hb.2; omega)) _ (by first | omega | (dsimp only; omega)) (by first | omega | (dsimp only; omega))) ?_
  refine Ev.neg (by first | omega | simp [sEq]) ?_
  refine Ev.pos (by first | rfl | simp [sEq] | omega) ?_
  refine Ev.bind (to_SpanS x1 b1) ?_
  refine Ev.bind (to_IntS x2 b2) ?_
  refine Ev.bind ei ?_
  refine Ev.bind (eq_SpanS _ (by first | exact hb | exact hb.1 | exact hb.2 | trivial)) ?_
  refine Ev.pos (by first | rfl | simp [sEq] | omega) ?_
  refine Ev.pos (by first | rfl | simp [sEq] | omega) ?_
  refine Ev.bind (held_SpanS _ (by first | omega | (have := hb; omega) | (have := hb.1; omega) | (have := hb.2; omega)) _ (by first | omega | (dsimp only; omega)) (by first | omega | (dsimp only; omega))) ?_
  refine Ev.neg (by first | omega | simp [sEq]) ?_
  refine Ev.pos (by first | rfl | simp [sEq] | omega) ?_
  exact ev_val rfl
end Go.Proofs.Ytjfjifnmfnlfoaa.Fns
