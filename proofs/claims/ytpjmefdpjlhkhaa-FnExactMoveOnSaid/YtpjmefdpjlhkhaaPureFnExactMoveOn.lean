/- The pure statement of the law FnExactMoveOn: its function, told by the engine, gives true for every input. -/
import Derived.Test.YtpjmefdpjlhkhaaSFnExactMoveOn
namespace Go.Proofs.Ytpjmefdpjlhkhaa.Fns
open Go.RowKit Go.WideShapes Go.Proofs.Ytpjmefdpjlhkhaa.Eng
set_option linter.unusedVariables false
set_option linter.unusedSimpArgs false
/-- From some number of rounds on there is one answer, and C holds of it. -/
def Evx {α : Type} (g : Nat → Option α) (C : α → Prop) : Prop := ∃ r, Ev g r ∧ C r
section
variable {α β : Type}
theorem Evx.val {a : α} {C : α → Prop} (h : C a) : Evx (fun _ => some a) C := ⟨a, Ev.now a, h⟩
theorem Evx.of {g : Nat → Option α} {r : α} {C : α → Prop} (h : Ev g r) (hc : C r) : Evx g C := ⟨r, h, hc⟩
theorem Evx.bind {g : Nat → Option α} {f : Nat → α → Option β} {P : α → Prop} {C : β → Prop} (h : Evx g P) (k : ∀ a, P a → Evx (fun n => f n a) C) : Evx (fun n => (g n).bind (f n)) C := by
  obtain ⟨a, h1, h2⟩ := h
  obtain ⟨r, h3, h4⟩ := k a h2
  exact ⟨r, Ev.bind h1 h3, h4⟩
theorem Evx.bindv {g : Nat → Option α} {f : Nat → α → Option β} {a : α} {C : β → Prop} (h : Ev g a) (k : Evx (fun n => f n a) C) : Evx (fun n => (g n).bind (f n)) C := by
  obtain ⟨r, h3, h4⟩ := k
  exact ⟨r, Ev.bind h h3, h4⟩
theorem Evx.opt {g : Option α} {f : Nat → α → Option β} {a : α} {C : β → Prop} (h : g = some a) (k : Evx (fun n => f n a) C) : Evx (fun n => g.bind (f n)) C := by subst h; exact k
theorem Evx.step {g f : Nat → Option α} {C : α → Prop} (h : ∀ k, g (k + 1) = f k) (k : Evx f C) : Evx g C := by
  obtain ⟨r, h3, h4⟩ := k
  exact ⟨r, Ev.step h h3, h4⟩
theorem Evx.congr {g f : Nat → Option α} {C : α → Prop} (h : ∀ k, g k = f k) (k : Evx f C) : Evx g C := by
  obtain ⟨r, h3, h4⟩ := k
  exact ⟨r, Ev.congr h h3, h4⟩
theorem Evx.ite {c : Prop} [Decidable c] {g f : Nat → Option α} {C : α → Prop} (h : c → Evx g C) (h' : ¬ c → Evx f C) : Evx (fun k => if c then g k else f k) C := by
  by_cases hc : c
  · simp only [if_pos hc]; exact h hc
  · simp only [if_neg hc]; exact h' hc
theorem Evx.pos {c : Prop} [Decidable c] {g f : Nat → Option α} {C : α → Prop} (hc : c) (h : Evx g C) : Evx (fun k => if c then g k else f k) C := by simp only [if_pos hc]; exact h
theorem Evx.neg {c : Prop} [Decidable c] {g f : Nat → Option α} {C : α → Prop} (hc : ¬ c) (h : Evx f C) : Evx (fun k => if c then g k else f k) C := by simp only [if_neg hc]; exact h
theorem Evx.mono {g : Nat → Option α} {C D : α → Prop} (h : Evx g C) (hd : ∀ r, C r → D r) : Evx g D := by
  obtain ⟨r, h1, h2⟩ := h
  exact ⟨r, h1, hd r h2⟩
theorem Evx.ev {g : Nat → Option α} {r : α} (h : Evx g (fun x => x = r)) : Ev g r := by
  obtain ⟨a, h1, rfl⟩ := h
  exact h1
theorem Ev.uniq {g : Nat → Option α} {a b : α} (h : Ev g a) (h' : Ev g b) : a = b := by
  obtain ⟨K, hK⟩ := h
  obtain ⟨K', hK'⟩ := h'
  have e1 := hK (max K K') (by omega)
  have e2 := hK' (max K K') (by omega)
  rw [e1] at e2
  exact Option.some.inj e2
end
/-- A loop that counts up, with what holds of its state at each place. -/
theorem evx_loop {R σ : Type} (G : Nat → Nat → σ → Option R) (n : Nat) (Inv : Nat → σ → Prop) (C : R → Prop)
    (hstep : ∀ i s, i < n → Inv i s → (∀ s', Inv (i + 1) s' → Evx (fun k => G k (i + 1) s') C) → Evx (fun k => G k i s) C)
    (hend : ∀ s, Inv n s → Evx (fun k => G k n s) C) : ∀ s, Inv 0 s → Evx (fun k => G k 0 s) C := by
  have key : ∀ d i, i + d = n → ∀ s, Inv i s → Evx (fun k => G k i s) C := by
    intro d
    induction d with
    | zero => intro i hi s hs; obtain rfl : i = n := by omega
              exact hend s hs
    | succ d ih => intro i hi s hs; exact hstep i s (by omega) hs (fun s' hs' => ih (i + 1) (by omega) s' hs')
  exact fun s hs => key n 0 (by omega) s hs
-- counting, taking, placing
theorem at_getD {α : Type} [Inhabited α] (xs : List α) (i : Int) : at_ xs i = xs.getD i.toNat default := rfl
theorem at_int {α : Type} [Inhabited α] {xs : List α} {i : Int} (h0 : 0 ≤ i) (h1 : i < (xs.length : Int)) : at_ xs i = xs[i.toNat]'(by omega) := by
  have h : i.toNat < xs.length := by omega
  rw [at_getD, List.getD_eq_getElem?_getD, List.getElem?_eq_getElem h]
  rfl
theorem at_mem {α : Type} [Inhabited α] {xs : List α} {i : Int} (h0 : 0 ≤ i) (h1 : i < (xs.length : Int)) : at_ xs i ∈ xs := by
  rw [at_int h0 h1]; exact List.getElem_mem _
theorem all_at {α : Type} [Inhabited α] {xs : List α} {p : α → Prop} (h : ∀ y, y ∈ xs → p y) {i : Int} (h0 : 0 ≤ i) (h1 : i < (xs.length : Int)) : p (at_ xs i) := h _ (at_mem h0 h1)
theorem all_idx {α : Type} [Inhabited α] {xs : List α} {p : α → Prop} (h : ∀ i, i < xs.length → p (at_ xs (i : Int))) {i : Int} (h0 : 0 ≤ i) (h1 : i < (xs.length : Int)) : p (at_ xs i) := by
  have := h i.toNat (by omega)
  rwa [show ((i.toNat : Nat) : Int) = i by omega] at this
theorem all_iff {α : Type} [Inhabited α] {xs : List α} {p : α → Prop} : (∀ i, i < xs.length → p (at_ xs (i : Int))) ↔ ∀ y, y ∈ xs → p y := by
  refine ⟨fun h y hy => ?_, fun h i hi => h _ (at_mem (by omega) (by omega))⟩
  obtain ⟨i, hi, rfl⟩ := List.getElem_of_mem hy
  have := h i hi
  rwa [at_nat hi] at this
theorem take_succ' {α : Type} {xs : List α} {i : Nat} (h : i < xs.length) : xs.take (i + 1) = xs.take i ++ [xs[i]] := List.take_succ_eq_append_getElem h
theorem count_take {α : Type} (p : α → Bool) {xs : List α} {i : Nat} (h : i < xs.length) : (xs.take (i + 1)).countP p = (xs.take i).countP p + (if p xs[i] then 1 else 0) := by
  rw [take_succ' h, List.countP_append, List.countP_singleton]
theorem count_le {α : Type} (p : α → Bool) (xs : List α) : xs.countP p ≤ xs.length := List.countP_le_length
theorem set_take {α : Type} {xs : List α} {i j : Nat} (v : α) (h : j < xs.length) : (xs.set i v)[j]'(by rw [List.length_set]; exact h) = if i = j then v else xs[j] := by rw [List.getElem_set]
theorem at_set_ne {α : Type} [Inhabited α] {xs : List α} {i : Nat} {j : Int} {v : α} (h0 : 0 ≤ j) (h : (i : Int) ≠ j) : at_ (xs.set i v) j = at_ xs j := by
  rw [at_getD, at_getD, List.getD_eq_getElem?_getD, List.getD_eq_getElem?_getD, List.getElem?_set_ne (by omega)]
theorem at_set_eq {α : Type} [Inhabited α] {xs : List α} {i : Nat} {v : α} (h : i < xs.length) : at_ (xs.set i v) (i : Int) = v := by
  rw [at_getD, List.getD_eq_getElem?_getD, Int.toNat_natCast, List.getElem?_set_self h]; rfl
theorem at_app_left {α : Type} [Inhabited α] (a b : List α) {i : Int} (h0 : 0 ≤ i) (h : i < (a.length : Int)) : at_ (a ++ b) i = at_ a i := by
  rw [at_getD, at_getD, List.getD_eq_getElem?_getD, List.getD_eq_getElem?_getD, List.getElem?_append_left (by omega)]
theorem at_app_right {α : Type} [Inhabited α] (a b : List α) {i : Int} (h : (a.length : Int) ≤ i) : at_ (a ++ b) i = at_ b (i - a.length) := by
  rw [at_getD, at_getD, List.getD_eq_getElem?_getD, List.getD_eq_getElem?_getD, List.getElem?_append_right (by omega)]
  congr 2; omega
theorem at_app_last {α : Type} [Inhabited α] (a : List α) (v : α) : at_ (a ++ [v]) (a.length : Int) = v := by
  rw [at_app_right a [v] (by omega), Int.sub_self]; rfl
theorem at_take {α : Type} [Inhabited α] (xs : List α) {n : Nat} {i : Int} (h0 : 0 ≤ i) (h : i < n) : at_ (xs.take n) i = at_ xs i := by
  rw [at_getD, at_getD, List.getD_eq_getElem?_getD, List.getD_eq_getElem?_getD, List.getElem?_take_of_lt (by omega)]
theorem at_rep {α : Type} [Inhabited α] (n : Nat) (v : α) {i : Int} (h0 : 0 ≤ i) (h : i < n) : at_ (List.replicate n v) i = v := by
  rw [at_int h0 (by simpa using h)]; simp
theorem tmod_of {a : Int} (b : Int) (h : 0 ≤ a) : a.tmod b = a % b := Int.tmod_eq_emod_of_nonneg h
theorem tdiv_of {a : Int} (b : Int) (h : 0 ≤ a) : a.tdiv b = a / b := Int.tdiv_eq_ediv_of_nonneg h
theorem range_at {n : Nat} {f : Nat → Int} {i : Int} (h0 : 0 ≤ i) (h : i < n) : at_ ((List.range n).map f) i = f i.toNat := by
  rw [at_int h0 (by simpa using h)]; simp
theorem range_set {α : Type} (n : Nat) (f : Nat → α) (i : Nat) (v : α) : ((List.range n).map f).set i v = (List.range n).map (fun j => if j = i then v else f j) := by
  refine List.ext_getElem (by simp) fun j h1 h2 => ?_
  simp only [List.getElem_set, List.getElem_map, List.getElem_range]
  by_cases e : i = j
  · rw [if_pos e, if_pos e.symm]
  · rw [if_neg e, if_neg (fun g => e g.symm)]
theorem range_congr {α : Type} {n : Nat} {f g : Nat → α} (h : ∀ j, j < n → f j = g j) : (List.range n).map f = (List.range n).map g :=
  List.map_congr_left fun j hj => h j (List.mem_range.1 hj)
theorem sz_SingleS (x : (List S44)) (left : Int) (h0 : 0 ≤ left) (h1 : left ≤ 1048576) (ho : (x.length ≤ maxLen ∧ ∀ y ∈ x, ok44 y)) : Evx (fun k => laws_szSingleS.f x left) (fun r => r < 0 ∨ (0 ≤ r ∧ r ≤ left ∧ (x.length ≤ 1048576))) := by
  have hm : maxLen = 9223372036854775807 := rfl
  unfold laws_szSingleS.f
  obtain ⟨hl, hy⟩ := ho
  rw [wrap_id (by omega) (by omega)]
  refine Evx.ite (fun h => Evx.val (.inl (by decide))) (fun h => ?_)
  exact Evx.val (.inr ⟨by omega, by omega, by omega⟩)
theorem to_IntS (x : (List Int)) (hb : (x.length ≤ 1048576)) : Ev (fun k => laws_toIntS.f k x) x := by
  unfold laws_toIntS.f
  have hl := hb
  refine Ev.pos (by omega) (Ev.pos (by omega) ?_)
  rw [Int.toNat_natCast]
  refine ev_fill x id _ (fun k s i => laws_toIntS.l0 k x s (i : Int)) ?_ ?_
  · intro i hi s hs hn
    refine Ev.step (fun k => by simp only [laws_toIntS.l0]; rfl) ?_
    refine Ev.pos (by omega) (Ev.pos (by omega) ?_)
    rw [at_nat hi]
    refine Ev.pos (by omega) ?_
    rw [Int.toNat_natCast, wrap_succ hi (by omega)]
    exact hn
  · refine Ev.step (fun k => by simp only [laws_toIntS.l0]; rfl) ?_
    refine Ev.neg (by omega) (ev_val (List.map_id x))
theorem to_Single (x : S44) (hb : True) : Ev (fun k => laws_toSingle.f x) x := by
  unfold laws_toSingle.f
  exact ev_val rfl
theorem to_SingleS (x : (List S44)) (hb : (x.length ≤ 1048576)) : Ev (fun k => laws_toSingleS.f k x) x := by
  unfold laws_toSingleS.f
  have hl := hb
  refine Ev.pos (by omega) (Ev.pos (by omega) ?_)
  rw [Int.toNat_natCast]
  refine ev_fill x id _ (fun k s i => laws_toSingleS.l0 k x s (i : Int)) ?_ ?_
  · intro i hi s hs hn
    refine Ev.step (fun k => by simp only [laws_toSingleS.l0]; rfl) ?_
    refine Ev.pos (by omega) (Ev.pos (by omega) ?_)
    rw [at_nat hi]
    refine Ev.bind (to_Single x[i] trivial) ?_
    refine Ev.pos (by omega) ?_
    rw [Int.toNat_natCast, wrap_succ hi (by omega)]
    exact hn
  · refine Ev.step (fun k => by simp only [laws_toSingleS.l0]; rfl) ?_
    refine Ev.neg (by omega) (ev_val (List.map_id x))
theorem eq_Single (x : S44) (hb : True) : Ev (fun k => laws_eqSingle.f x x) true := by
  unfold laws_eqSingle.f
  refine Ev.pos rfl ?_
  refine Ev.pos rfl ?_
  exact ev_val rfl
theorem eq_SingleS (x : (List S44)) (hb : (x.length ≤ 1048576)) : Ev (fun k => laws_eqSingleS.f k x x) true := by
  unfold laws_eqSingleS.f
  have hl := hb
  refine Ev.pos rfl ?_
  refine ev_fold (fun k i => laws_eqSingleS.l0 k x x (i : Int)) x.length ?_ ?_
  · intro i hi hn
    refine Ev.step (fun k => by simp only [laws_eqSingleS.l0]; rfl) ?_
    refine Ev.pos (by omega) (Ev.pos (by omega) ?_)
    try refine Ev.pos (by omega) ?_
    rw [at_nat hi]
    refine Ev.bind (eq_Single x[i] trivial) ?_
    refine Ev.pos (by first | rfl | simp) ?_
    rw [wrap_succ hi (by omega)]
    exact hn
  · refine Ev.step (fun k => by simp only [laws_eqSingleS.l0]; rfl) ?_
    exact Ev.neg (by omega) (ev_val rfl)
theorem eq_IntS (x : (List Int)) (hb : (x.length ≤ 1048576)) : Ev (fun k => laws_eqIntS.f k x x) true := by
  unfold laws_eqIntS.f
  have hl := hb
  refine Ev.pos rfl ?_
  refine ev_fold (fun k i => laws_eqIntS.l0 k x x (i : Int)) x.length ?_ ?_
  · intro i hi hn
    refine Ev.step (fun k => by simp only [laws_eqIntS.l0]; rfl) ?_
    refine Ev.pos (by omega) (Ev.pos (by omega) ?_)
    try refine Ev.pos (by omega) ?_
    refine Ev.pos (by first | rfl | simp) ?_
    rw [wrap_succ hi (by omega)]
    exact hn
  · refine Ev.step (fun k => by simp only [laws_eqIntS.l0]; rfl) ?_
    exact Ev.neg (by omega) (ev_val rfl)
def mk_IntS (a : Int) (i : Nat) : Int := (a + (i : Int))
def mkd_IntS (m : Nat) (a : Int) : List Int := (List.range m).map (mk_IntS a)
theorem mkl_IntS (m : Nat) (a : Int) : (mkd_IntS m a).length = m := by simp [mkd_IntS]
theorem mks_IntS (i : Nat) (a : Int) (x : (List Int)) (hi : i < x.length) : (mkd_IntS i a ++ x.drop i).set i (mk_IntS a i) = mkd_IntS (i + 1) a ++ x.drop (i + 1) := by
  rw [List.set_append_right _ _ (by rw [mkl_IntS]; omega), mkl_IntS, Nat.sub_self, List.drop_eq_getElem_cons hi, List.set_cons_zero]
  simp [mkd_IntS, List.range_succ]
theorem mark_IntS (x : (List Int)) (hl : x.length ≤ 4194304) (a : Int) (h0 : 0 ≤ a) (h1 : a ≤ 1152921504606846976) : Ev (fun k => laws_markIntS.f k x a) (a + (x.length : Int), mkd_IntS x.length a) := by
  unfold laws_markIntS.f
  have hlen : ∀ i, i < x.length → (mkd_IntS i a ++ x.drop i).length = x.length := by
    intro i hi
    rw [List.length_append, mkl_IntS, List.length_drop]; omega
  have key := ev_fold (fun k i => laws_markIntS.l0 k (mkd_IntS i a ++ x.drop i) (a + (i : Int)) (i : Int)) x.length (r := (a + (x.length : Int), mkd_IntS x.length a)) ?_ ?_
  · have e : a + 0 = a := by omega
    simpa [mkd_IntS] using key
  · intro i hi hn
    refine Ev.step (fun k => by simp only [laws_markIntS.l0]; rfl) ?_
    refine Ev.pos (by rw [hlen i hi]; omega) (Ev.pos (by omega) ?_)
    try simp only [if_pos (show (i : Int) < ((mkd_IntS i a ++ x.drop i).length : Int) by rw [hlen i hi]; omega)]
    rw [Int.toNat_natCast]
    rw [wrap_id (x := a + (i : Int) + 1) (by omega) (by omega)]
    have e := mks_IntS i a x hi
    unfold mk_IntS at e
    rw [e, wrap_succ hi (by omega), show a + (i : Int) + 1 = a + ((i + 1 : Nat) : Int) by omega]
    exact hn
  · refine Ev.step (fun k => by simp only [laws_markIntS.l0]; rfl) ?_
    have e : mkd_IntS x.length a ++ x.drop x.length = mkd_IntS x.length a := by simp
    rw [e]
    exact Ev.neg (by rw [mkl_IntS]; omega) (ev_val rfl)
def mk_SingleS (a : Int) (i : Nat) : S44 := (⟨a + 2 * (i : Int), a + 2 * (i : Int) + 1⟩ : S44)
def mkd_SingleS (m : Nat) (a : Int) : List S44 := (List.range m).map (mk_SingleS a)
theorem mkl_SingleS (m : Nat) (a : Int) : (mkd_SingleS m a).length = m := by simp [mkd_SingleS]
theorem mks_SingleS (i : Nat) (a : Int) (x : (List S44)) (hi : i < x.length) : (mkd_SingleS i a ++ x.drop i).set i (mk_SingleS a i) = mkd_SingleS (i + 1) a ++ x.drop (i + 1) := by
  rw [List.set_append_right _ _ (by rw [mkl_SingleS]; omega), mkl_SingleS, Nat.sub_self, List.drop_eq_getElem_cons hi, List.set_cons_zero]
  simp [mkd_SingleS, List.range_succ]
theorem mark_SingleS (x : (List S44)) (hl : x.length ≤ 4194304) (a : Int) (h0 : 0 ≤ a) (h1 : a ≤ 1152921504606846976) : Ev (fun k => laws_markSingleS.f k x a) (a + 2 * (x.length : Int), mkd_SingleS x.length a) := by
  unfold laws_markSingleS.f
  have hlen : ∀ i, i < x.length → (mkd_SingleS i a ++ x.drop i).length = x.length := by
    intro i hi
    rw [List.length_append, mkl_SingleS, List.length_drop]; omega
  have key := ev_fold (fun k i => laws_markSingleS.l0 k (mkd_SingleS i a ++ x.drop i) (a + 2 * (i : Int)) (i : Int)) x.length (r := (a + 2 * (x.length : Int), mkd_SingleS x.length a)) ?_ ?_
  · have e : a + 2 * 0 = a := by omega
    simpa [mkd_SingleS] using key
  · intro i hi hn
    refine Ev.step (fun k => by simp only [laws_markSingleS.l0]; rfl) ?_
    refine Ev.pos (by rw [hlen i hi]; omega) (Ev.pos (by omega) ?_)
    try simp only [if_pos (show (i : Int) < ((mkd_SingleS i a ++ x.drop i).length : Int) by rw [hlen i hi]; omega)]
    rw [Int.toNat_natCast]
    rw [wrap_id (x := a + 2 * (i : Int) + 1) (by omega) (by omega)]
    rw [wrap_id (x := a + 2 * (i : Int) + 1 + 1) (by omega) (by omega)]
    have e := mks_SingleS i a x hi
    unfold mk_SingleS at e
    rw [e, wrap_succ hi (by omega), show a + 2 * (i : Int) + 1 + 1 = a + 2 * ((i + 1 : Nat) : Int) by omega]
    exact hn
  · refine Ev.step (fun k => by simp only [laws_markSingleS.l0]; rfl) ?_
    have e : mkd_SingleS x.length a ++ x.drop x.length = mkd_SingleS x.length a := by simp
    rw [e]
    exact Ev.neg (by rw [mkl_SingleS]; omega) (ev_val rfl)
theorem held_SingleS (m : Nat) (hl : m ≤ 4194304) (a : Int) (h0 : 0 ≤ a) (h1 : a ≤ 1152921504606846976) : Ev (fun k => laws_heldSingleS.f k (mkd_SingleS m a) a) (a + 2 * (m : Int)) := by
  unfold laws_heldSingleS.f
  have e : ∀ i (hi : i < m), (mkd_SingleS m a)[i]'(by rw [mkl_SingleS]; exact hi) = mk_SingleS a i := by
    intro i hi
    simp [mkd_SingleS]
  have key := ev_fold (fun k i => laws_heldSingleS.l0 k (mkd_SingleS m a) (a + 2 * (i : Int)) (i : Int)) m (r := a + 2 * (m : Int)) ?_ ?_
  · simpa using key
  · intro i hi hn
    refine Ev.step (fun k => by simp only [laws_heldSingleS.l0]; rfl) ?_
    refine Ev.pos (by rw [mkl_SingleS]; omega) (Ev.pos (by omega) ?_)
    rw [at_nat (show i < (mkd_SingleS m a).length by rw [mkl_SingleS]; exact hi), e i hi]
    unfold mk_SingleS
    refine Ev.pos rfl ?_
    rw [wrap_id (x := a + 2 * (i : Int) + 1) (by omega) (by omega)]
    refine Ev.pos (by first | rfl | (dsimp only; omega) | simp) ?_
    rw [wrap_id (x := a + 2 * (i : Int) + 1 + 1) (by omega) (by omega)]
    rw [wrap_succ hi (by omega), show a + 2 * (i : Int) + 1 + 1 = a + 2 * ((i + 1 : Nat) : Int) by omega]
    exact hn
  · refine Ev.step (fun k => by simp only [laws_heldSingleS.l0]; rfl) ?_
    exact Ev.neg (by rw [mkl_SingleS]; omega) (ev_val rfl)
theorem eq_impl_between (a b c : Int) : impl_between.f a b c = some (decide (b ≤ a ∧ a ≤ c)) := by
  unfold impl_between.f
  by_cases h : a ≥ b
  · rw [if_pos h]; simp [show b ≤ a from h]
  · rw [if_neg h]; simp [show ¬ b ≤ a from h]
theorem eq_spec_l01In (a b c : Int) : spec_l01In.f a b c = some (decide (b ≤ a ∧ a ≤ c)) := by
  unfold spec_l01In.f
  by_cases h : b ≤ a
  · rw [if_pos h]; simp [h]
  · rw [if_neg h]; simp [h]
/-- How many trains fit at a spot. -/
def fitsV (line : List Int) (spot : Int) : Int := if spot % 2 = 1 then 1 else at_ line (spot / 2)
def cntTo (ts : List S44) (i : Nat) (spot : Int) : Nat := (ts.take i).countP (fun t => t.f0 == spot)
theorem cntTo_succ {ts : List S44} {i : Nat} (h : i < ts.length) (spot : Int) : cntTo ts (i + 1) spot = cntTo ts i spot + (if ts[i].f0 = spot then 1 else 0) := by
  unfold cntTo
  rw [count_take _ h]
  simp [beq_iff_eq]
theorem cntTo_le (ts : List S44) (i : Nat) (spot : Int) : cntTo ts i spot ≤ ts.length := by
  unfold cntTo
  have := List.countP_le_length (p := fun t : S44 => t.f0 == spot) (l := ts.take i)
  rw [List.length_take] at this
  omega
def cntAt (ts : List S44) (spot : Int) : Nat := cntTo ts ts.length spot
def LineP (line : List Int) : Prop := (2 ≤ line.length ∧ line.length ≤ 5) ∧ ∀ i, i < line.length → 1 ≤ at_ line (i : Int) ∧ at_ line (i : Int) ≤ 4
def InP (line : List Int) (t : S44) : Prop := (0 ≤ t.f0 ∧ t.f0 ≤ 2 * (line.length : Int) - 2) ∧ (0 ≤ t.f1 ∧ t.f1 ≤ 2 * (line.length : Int) - 2) ∧ t.f1 % 2 = 0
def SinP (line : List Int) (ts : List S44) : Prop := LineP line ∧ ts.length ≤ 4 ∧ ∀ i, i < ts.length → InP line (at_ ts (i : Int)) ∧ (cntAt ts (at_ ts (i : Int)).f0 : Int) ≤ fitsV line (at_ ts (i : Int)).f0
theorem ev_spec_l07Line (line : List Int) (hl : line.length ≤ 1048576) (b : Bool) (hb : b = true ↔ LineP line) : Ev (fun k => spec_l07Line.f k line) b := by
  unfold spec_l07Line.f
  refine ev_allI line.length (fun i => 1 ≤ at_ line (i : Int) ∧ at_ line (i : Int) ≤ 4) (fun k i => spec_l07Line.l0 k line (i : Int)) (2 ≤ line.length ∧ line.length ≤ 5) (hb.trans ⟨fun h => ⟨h.2, h.1⟩, fun h => ⟨h.2, h.1⟩⟩) ?_ ?_ ?_
  · intro i hi hp hn
    refine Ev.step (fun k => by simp only [spec_l07Line.l0]; rfl) ?_
    refine Ev.pos (by omega) (Ev.pos (by omega) (Ev.opt (eq_spec_l01In _ _ _) (Ev.pos (decide_eq_true hp) ?_)))
    rw [wrap_succ hi (by omega)]
    exact hn
  · intro i hi hp
    refine Ev.step (fun k => by simp only [spec_l07Line.l0]; rfl) ?_
    exact Ev.pos (by omega) (Ev.pos (by omega) (Ev.opt (eq_spec_l01In _ _ _) (Ev.neg (by simpa using hp) (ev_val rfl))))
  · intro _ hq
    refine Ev.step (fun k => by simp only [spec_l07Line.l0]; rfl) ?_
    refine Ev.neg (by omega) (Ev.opt (eq_spec_l01In _ _ _) (ev_val ?_))
    rw [Bool.eq_iff_iff, decide_eq_true_iff, hq]
    omega
theorem ev_spec_l07At (ts : List S44) (spot : Int) (hl : ts.length ≤ 1048576) : Ev (fun k => spec_l07At.f k ts spot) (cntAt ts spot : Int) := by
  unfold spec_l07At.f
  refine ev_fold (fun k i => spec_l07At.l0 k ts spot (cntTo ts i spot : Int) (i : Int)) ts.length ?_ ?_
  · intro i hi hn
    refine Ev.step (fun k => by simp only [spec_l07At.l0]; rfl) ?_
    refine Ev.pos (by omega) (Ev.pos (by omega) ?_)
    have hc := cntTo_le ts i spot
    rw [at_nat hi, wrap_succ hi (by omega)]
    rw [cntTo_succ hi] at hn
    refine Ev.ite (fun h => ?_) (fun h => ?_)
    · rw [if_pos h] at hn
      rw [wrap_id (by omega) (by omega)]
      exact hn
    · rw [if_neg h] at hn
      exact hn
  · refine Ev.step (fun k => by simp only [spec_l07At.l0]; rfl) ?_
    exact Ev.neg (by omega) (ev_val rfl)
theorem half_ok {line : List Int} {s : Int} (h0 : 0 ≤ s) (h1 : s ≤ 2 * (line.length : Int) - 2) (hl : line.length ≤ 1048576) : wrap64 (s.tdiv 2) = s / 2 ∧ 0 ≤ s / 2 ∧ s / 2 < (line.length : Int) := by
  rw [tdiv_of 2 h0, wrap_id (by omega) (by omega)]
  omega
theorem eq_spec_l07Fits {line : List Int} {s : Int} (h0 : 0 ≤ s) (h1 : s ≤ 2 * (line.length : Int) - 2) (hl : line.length ≤ 1048576) : spec_l07Fits.f line s = some (fitsV line s) := by
  obtain ⟨e1, e2, e3⟩ := half_ok h0 h1 hl
  unfold spec_l07Fits.f fitsV
  rw [tmod_of 2 h0, e1]
  by_cases h : s % 2 = 1
  · rw [if_pos h, if_pos h]
  · rw [if_neg h, if_neg h, if_pos e2, if_pos e3]
theorem eq_impl_fits {line : List Int} {s : Int} (h0 : 0 ≤ s) (h1 : s ≤ 2 * (line.length : Int) - 2) (hl : line.length ≤ 1048576) : impl_fits.f line s = some (fitsV line s) := by
  obtain ⟨e1, e2, e3⟩ := half_ok h0 h1 hl
  unfold impl_fits.f fitsV
  rw [tmod_of 2 h0, e1]
  by_cases h : s % 2 = 0
  · rw [if_pos h, if_pos e2, if_pos e3, if_neg (by omega)]
  · rw [if_neg h, if_pos (by omega)]
theorem tmod2 (a : Int) : a.tmod 2 = 0 ↔ a % 2 = 0 := by
  rw [← Int.dvd_iff_tmod_eq_zero, Int.dvd_iff_emod_eq_zero]
theorem ev_spec_SinglesOk (line : List Int) (ts : List S44) (hl : line.length ≤ 1048576) (ht : ts.length ≤ 1048576) (b : Bool) (hb : b = true ↔ SinP line ts) : Ev (fun k => spec_SinglesOk.f k line ts) b := by
  classical
  unfold spec_SinglesOk.f
  have bad : ¬ (LineP line ∧ ts.length ≤ 4) → Ev (fun _ => some false) b := fun h => ev_val (bool_not hb fun e => h ⟨e.1, e.2.1⟩).symm
  refine Ev.bind (ev_spec_l07Line line hl (decide (LineP line)) decide_eq_true_iff) ?_
  refine Ev.ite (fun h => ?_) (fun h => bad fun g => h (decide_eq_true g.1))
  have hL := of_decide_eq_true h
  have hL5 := hL.1
  refine Ev.ite (fun h => bad fun g => by omega) (fun h4 => ?_)
  refine ev_allI ts.length (fun i => InP line (at_ ts (i : Int)) ∧ (cntAt ts (at_ ts (i : Int)).f0 : Int) ≤ fitsV line (at_ ts (i : Int)).f0) (fun k i => spec_SinglesOk.l0 k line ts (i : Int)) True (hb.trans ⟨fun e => ⟨e.2.2, trivial⟩, fun e => ⟨hL, by omega, e.1⟩⟩) ?_ ?_ ?_
  · intro i hi hp hn
    obtain ⟨⟨p1, p2, p3⟩, p4⟩ := hp
    refine Ev.step (fun k => by simp only [spec_SinglesOk.l0]; rfl) ?_
    rw [wrap_id (x := 2 * (line.length : Int)) (by omega) (by omega), wrap_id (x := 2 * (line.length : Int) - 2) (by omega) (by omega), wrap_succ hi (by omega)]
    refine Ev.pos (by omega) (Ev.pos (by omega) (Ev.opt (eq_spec_l01In _ _ _) (Ev.pos (decide_eq_true p1) (Ev.opt (eq_spec_l01In _ _ _) (Ev.pos (decide_eq_true p2) (Ev.pos ((tmod2 _).2 p3) ?_))))))
    exact Ev.bind (ev_spec_l07At ts _ ht) (Ev.opt (eq_spec_l07Fits p1.1 p1.2 hl) (Ev.neg (by omega) hn))
  · intro i hi hp
    refine Ev.step (fun k => by simp only [spec_SinglesOk.l0]; rfl) ?_
    rw [wrap_id (x := 2 * (line.length : Int)) (by omega) (by omega), wrap_id (x := 2 * (line.length : Int) - 2) (by omega) (by omega), wrap_succ hi (by omega)]
    refine Ev.pos (by omega) (Ev.pos (by omega) (Ev.opt (eq_spec_l01In _ _ _) (Ev.ite (fun q1 => ?_) (fun _ => ev_val rfl))))
    have p1 := of_decide_eq_true q1
    refine Ev.opt (eq_spec_l01In _ _ _) (Ev.ite (fun q2 => Ev.ite (fun q3 => ?_) (fun _ => ev_val rfl)) (fun _ => ev_val rfl))
    have p2 := of_decide_eq_true q2
    exact Ev.bind (ev_spec_l07At ts _ ht) (Ev.opt (eq_spec_l07Fits p1.1 p1.2 hl) (Ev.pos (Int.not_le.1 fun g => hp ⟨⟨p1, p2, (tmod2 _).1 q3⟩, g⟩) (ev_val rfl)))
  · intro _ hq
    refine Ev.step (fun k => by simp only [spec_SinglesOk.l0]; rfl) ?_
    exact Ev.neg (by omega) (ev_val (hq.2 trivial).symm)
/-- Places so far, spot by spot. -/
def thereTo (ts : List S44) (i : Nat) : List Int := (List.range 9).map fun (s : Nat) => (cntTo ts i (s : Int) : Int)
theorem there_len (ts : List S44) (i : Nat) : (thereTo ts i).length = 9 := by simp [thereTo]
theorem there_at (ts : List S44) (i : Nat) {s : Int} (h0 : 0 ≤ s) (h1 : s < 9) : at_ (thereTo ts i) s = cntTo ts i s := by
  unfold thereTo
  rw [range_at h0 (by omega), show ((s.toNat : Nat) : Int) = s by omega]
theorem there_set {ts : List S44} {i : Nat} (hi : i < ts.length) (h0 : 0 ≤ ts[i].f0) : (thereTo ts i).set ts[i].f0.toNat ((cntTo ts i ts[i].f0 : Int) + 1) = thereTo ts (i + 1) := by
  unfold thereTo
  rw [range_set]
  refine range_congr fun j hj => ?_
  rw [cntTo_succ hi]
  by_cases e : j = ts[i].f0.toNat
  · have e2 : ts[i].f0 = (j : Int) := by omega
    rw [if_pos e, if_pos e2, e2]; omega
  · rw [if_neg e, if_neg (by omega)]; omega
theorem last_cnt (ts : List S44) (F : Int → Int) : ∀ m, m ≤ ts.length → ((∀ i, i < m → (cntTo ts (i + 1) (at_ ts (i : Int)).f0 : Int) ≤ F (at_ ts (i : Int)).f0) ↔ ∀ i, i < m → (cntTo ts m (at_ ts (i : Int)).f0 : Int) ≤ F (at_ ts (i : Int)).f0)
  | 0, _ => ⟨fun _ i h => absurd h (by omega), fun _ i h => absurd h (by omega)⟩
  | m + 1, hm => by
    have ih := last_cnt ts F m (by omega)
    have hms : m < ts.length := by omega
    constructor
    · intro h i hi
      by_cases e : (at_ ts (i : Int)).f0 = (at_ ts (m : Int)).f0
      · have := h m (by omega); rw [e]; exact this
      · have hne : i ≠ m := fun g => e (by rw [g])
        have := ih.1 (fun j hj => h j (by omega)) i (by omega)
        rw [cntTo_succ hms, if_neg (fun g => e (by rw [at_nat hms]; exact g.symm))]
        omega
    · intro h i hi
      have mono : ∀ n j, j ≤ n → n ≤ ts.length → ∀ s, cntTo ts j s ≤ cntTo ts n s := by
        intro n
        induction n with
        | zero => intro j hj _ s; obtain rfl : j = 0 := by omega
                  exact Nat.le_refl _
        | succ n ihn =>
          intro j hj hn s
          by_cases e : j = n + 1
          · rw [e]; exact Nat.le_refl _
          · have := ihn j (by omega) (by omega) s
            rw [cntTo_succ (by omega : n < ts.length)]; omega
      have := mono (m + 1) (i + 1) (by omega) hm (at_ ts (i : Int)).f0
      have := h i hi
      omega
theorem ev_impl_SinglesOk (line : List Int) (ts : List S44) (hl : line.length ≤ 1048576) (ht : ts.length ≤ 1048576) (b : Bool) (hb : b = true ↔ SinP line ts) : Ev (fun k => impl_SinglesOk.f k line ts) b := by
  classical
  unfold impl_SinglesOk.f
  have bad : ¬ (LineP line ∧ ts.length ≤ 4) → Ev (fun _ => some false) b := fun h => ev_val (bool_not hb fun e => h ⟨e.1, e.2.1⟩).symm
  refine Ev.opt (eq_impl_between _ _ _) (Ev.ite (fun h => ?_) (fun h => bad fun g => h (decide_eq_true (by have := g.1.1; omega))))
  have hL5 := of_decide_eq_true h
  refine Ev.ite (fun h => bad fun g => by omega) (fun h4 => ?_)
  have hb' : b = true ↔ (∀ i, i < line.length → 1 ≤ at_ line (i : Int) ∧ at_ line (i : Int) ≤ 4) ∧ ∀ i, i < ts.length → InP line (at_ ts (i : Int)) ∧ (cntTo ts (i + 1) (at_ ts (i : Int)).f0 : Int) ≤ fitsV line (at_ ts (i : Int)).f0 := by
    have := last_cnt ts (fitsV line) ts.length (Nat.le_refl _)
    refine hb.trans ⟨fun e => ⟨e.1.2, fun i hi => ⟨(e.2.2 i hi).1, this.2 (fun j hj => (e.2.2 j hj).2) i hi⟩⟩, fun e => ⟨⟨by omega, e.1⟩, by omega, fun i hi => ⟨(e.2 i hi).1, this.1 (fun j hj => (e.2 j hj).2) i hi⟩⟩⟩
  refine ev_allI line.length (fun i => 1 ≤ at_ line (i : Int) ∧ at_ line (i : Int) ≤ 4) (fun k i => impl_SinglesOk.l0 k line ts (i : Int)) _ hb' ?_ ?_ ?_
  · intro i hi hp hn
    refine Ev.step (fun k => by simp only [impl_SinglesOk.l0]; rfl) ?_
    refine Ev.pos (by omega) (Ev.pos (by omega) (Ev.opt (eq_impl_between _ _ _) (Ev.pos (decide_eq_true hp) ?_)))
    rw [wrap_succ hi (by omega)]
    exact hn
  · intro i hi hp
    refine Ev.step (fun k => by simp only [impl_SinglesOk.l0]; rfl) ?_
    exact Ev.pos (by omega) (Ev.pos (by omega) (Ev.opt (eq_impl_between _ _ _) (Ev.neg (by simpa using hp) (ev_val rfl))))
  · intro _ hq
    refine Ev.step (fun k => by simp only [impl_SinglesOk.l0]; rfl) ?_
    refine Ev.neg (by omega) ?_
    have e0 : List.replicate 9 (0 : Int) = thereTo ts 0 := by simp [thereTo, cntTo]; rfl
    rw [e0]
    refine ev_allI ts.length (fun i => InP line (at_ ts (i : Int)) ∧ (cntTo ts (i + 1) (at_ ts (i : Int)).f0 : Int) ≤ fitsV line (at_ ts (i : Int)).f0) (fun k i => impl_SinglesOk.l1 k line ts (thereTo ts i) (i : Int)) True (hq.trans ⟨fun e => ⟨e, trivial⟩, fun e => e.1⟩) ?_ ?_ ?_
    · intro i hi hp hn
      obtain ⟨⟨p1, p2, p3⟩, p4⟩ := hp
      have hc := cntTo_le ts i (at_ ts (i : Int)).f0
      refine Ev.step (fun k => by simp only [impl_SinglesOk.l1]; rfl) ?_
      rw [wrap_id (x := 2 * (line.length : Int)) (by omega) (by omega), wrap_id (x := 2 * (line.length : Int) - 2) (by omega) (by omega), wrap_succ hi (by omega)]
      refine Ev.pos (by omega) (Ev.pos (by omega) (Ev.opt (eq_impl_between _ _ _) (Ev.pos (decide_eq_true p1) (Ev.opt (eq_impl_between _ _ _) (Ev.pos (decide_eq_true p2) (Ev.pos ((tmod2 _).2 p3) ?_))))))
      refine Ev.pos p1.1 (Ev.pos (by omega) (Ev.pos (by rw [there_len]; omega) (Ev.opt (eq_impl_fits p1.1 p1.2 hl) ?_)))
      rw [there_at ts i p1.1 (by omega), wrap_id (by omega) (by omega)]
      rw [at_nat hi] at p1 p4 ⊢
      rw [there_set hi p1.1]
      rw [cntTo_succ hi, if_pos rfl] at p4
      exact Ev.neg (by omega) hn
    · intro i hi hp
      have hc := cntTo_le ts i (at_ ts (i : Int)).f0
      refine Ev.step (fun k => by simp only [impl_SinglesOk.l1]; rfl) ?_
      rw [wrap_id (x := 2 * (line.length : Int)) (by omega) (by omega), wrap_id (x := 2 * (line.length : Int) - 2) (by omega) (by omega), wrap_succ hi (by omega)]
      refine Ev.pos (by omega) (Ev.pos (by omega) (Ev.opt (eq_impl_between _ _ _) (Ev.ite (fun q1 => ?_) (fun _ => ev_val rfl))))
      have p1 := of_decide_eq_true q1
      refine Ev.opt (eq_impl_between _ _ _) (Ev.ite (fun q2 => Ev.ite (fun q3 => ?_) (fun _ => ev_val rfl)) (fun _ => ev_val rfl))
      have p2 := of_decide_eq_true q2
      refine Ev.pos p1.1 (Ev.pos (by omega) (Ev.pos (by rw [there_len]; omega) (Ev.opt (eq_impl_fits p1.1 p1.2 hl) ?_)))
      rw [there_at ts i p1.1 (by omega), wrap_id (by omega) (by omega)]
      refine Ev.pos (Int.not_le.1 fun g => hp ⟨⟨p1, p2, (tmod2 _).1 q3⟩, ?_⟩) (ev_val rfl)
      rw [at_nat hi] at g ⊢
      rw [cntTo_succ hi, if_pos rfl]
      omega
    · intro _ hq2
      refine Ev.step (fun k => by simp only [impl_SinglesOk.l1]; rfl) ?_
      exact Ev.neg (by omega) (ev_val (hq2.2 trivial).symm)
def nextV (t : S44) : Int := if t.f0 < t.f1 then t.f0 + 1 else t.f0 - 1
def MayP (line : List Int) (ts : List S44) (i : Int) : Prop := SinP line ts ∧ (0 ≤ i ∧ i ≤ (ts.length : Int) - 1) ∧ (at_ ts i).f0 ≠ (at_ ts i).f1 ∧ (cntAt ts (nextV (at_ ts i)) : Int) < fitsV line (nextV (at_ ts i))
theorem sin_in {line : List Int} {ts : List S44} (h : SinP line ts) {i : Int} (h0 : 0 ≤ i) (h1 : i < (ts.length : Int)) : InP line (at_ ts i) := all_idx (p := fun t => InP line t) (fun j hj => (h.2.2 j hj).1) h0 h1
theorem next_in {line : List Int} {t : S44} (h : InP line t) (hn : t.f0 ≠ t.f1) : 0 ≤ nextV t ∧ nextV t ≤ 2 * (line.length : Int) - 2 := by
  obtain ⟨h1, h2, _⟩ := h
  unfold nextV
  split <;> omega
theorem eq_spec_l07Next {line : List Int} {t : S44} (h : InP line t) (hl : line.length ≤ 1048576) : spec_l07Next.f t = some (nextV t) := by
  obtain ⟨h1, h2, _⟩ := h
  unfold spec_l07Next.f nextV
  split
  · rw [wrap_id (by omega) (by omega)]
  · rw [wrap_id (by omega) (by omega)]
theorem eq_impl_nextSpot {line : List Int} {t : S44} (h : InP line t) (hl : line.length ≤ 1048576) : impl_nextSpot.f t = some (nextV t) := by
  obtain ⟨h1, h2, _⟩ := h
  unfold impl_nextSpot.f nextV
  split
  · rw [wrap_id (by omega) (by omega)]
  · rw [wrap_id (by omega) (by omega)]
theorem ev_spec_MayMove (line : List Int) (ts : List S44) (i : Int) (hl : line.length ≤ 1048576) (ht : ts.length ≤ 1048576) (b : Bool) (hb : b = true ↔ MayP line ts i) : Ev (fun k => spec_MayMove.f k line ts i) b := by
  classical
  unfold spec_MayMove.f
  have bad : ¬ MayP line ts i → Ev (fun _ => some false) b := fun h => ev_val (bool_not hb h).symm
  refine Ev.bind (ev_spec_SinglesOk line ts hl ht (decide (SinP line ts)) decide_eq_true_iff) ?_
  refine Ev.ite (fun h => ?_) (fun h => bad fun g => h (decide_eq_true g.1))
  have hS := of_decide_eq_true h
  rw [wrap_id (by omega) (by omega)]
  refine Ev.opt (eq_spec_l01In _ _ _) (Ev.ite (fun h => ?_) (fun h => bad fun g => h (decide_eq_true g.2.1)))
  have hi := of_decide_eq_true h
  refine Ev.pos hi.1 (Ev.pos (by omega) (Ev.ite (fun h => bad fun g => g.2.2.1 h) (fun hne => ?_)))
  have hin := sin_in hS hi.1 (by omega)
  have hnx := next_in hin hne
  refine Ev.opt (eq_spec_l07Next hin hl) (Ev.bind (ev_spec_l07At ts _ ht) (Ev.opt (eq_spec_l07Fits hnx.1 hnx.2 hl) (ev_val ?_)))
  rw [Bool.eq_iff_iff, decide_eq_true_iff, hb]
  exact ⟨fun g => ⟨hS, hi, hne, g⟩, fun g => g.2.2.2⟩
theorem ev_impl_mayMove (line : List Int) (ts : List S44) (i : Int) (hl : line.length ≤ 1048576) (ht : ts.length ≤ 1048576) (hS : SinP line ts) (hi : 0 ≤ i ∧ i ≤ (ts.length : Int) - 1) (b : Bool) (hb : b = true ↔ MayP line ts i) : Ev (fun k => impl_mayMove.f k line ts i) b := by
  unfold impl_mayMove.f
  have bad : ¬ MayP line ts i → Ev (fun _ => some false) b := fun h => ev_val (bool_not hb h).symm
  refine Ev.pos hi.1 (Ev.pos (by omega) (Ev.ite (fun h => bad fun g => g.2.2.1 h) (fun hne => ?_)))
  have hin := sin_in hS hi.1 (by omega)
  have hnx := next_in hin hne
  refine Ev.opt (eq_impl_nextSpot hin hl) ?_
  refine ev_fold (fun k j => impl_mayMove.l0 k line ts (nextV (at_ ts i)) (cntTo ts j (nextV (at_ ts i)) : Int) (j : Int)) ts.length ?_ ?_
  · intro j hj hn
    refine Ev.step (fun k => by simp only [impl_mayMove.l0]; rfl) ?_
    refine Ev.pos (by omega) (Ev.pos (by omega) ?_)
    have hc := cntTo_le ts j (nextV (at_ ts i))
    rw [cntTo_succ hj] at hn
    rw [at_nat hj, wrap_succ hj (by omega)]
    refine Ev.ite (fun h => ?_) (fun h => ?_)
    · rw [if_pos h] at hn
      rw [wrap_id (by omega) (by omega)]
      exact hn
    · rw [if_neg h] at hn
      exact hn
  · refine Ev.step (fun k => by simp only [impl_mayMove.l0]; rfl) ?_
    refine Ev.neg (by omega) (Ev.opt (eq_impl_fits hnx.1 hnx.2 hl) (ev_val ?_))
    rw [Bool.eq_iff_iff, decide_eq_true_iff, hb]
    exact ⟨fun g => ⟨hS, hi, hne, g⟩, fun g => g.2.2.2⟩
theorem ev_impl_MayMove (line : List Int) (ts : List S44) (i : Int) (hl : line.length ≤ 1048576) (ht : ts.length ≤ 1048576) (b : Bool) (hb : b = true ↔ MayP line ts i) : Ev (fun k => impl_MayMove.f k line ts i) b := by
  classical
  unfold impl_MayMove.f
  have bad : ¬ MayP line ts i → Ev (fun _ => some false) b := fun h => ev_val (bool_not hb h).symm
  refine Ev.bind (ev_impl_SinglesOk line ts hl ht (decide (SinP line ts)) decide_eq_true_iff) ?_
  refine Ev.ite (fun h => ?_) (fun h => bad fun g => h (decide_eq_true g.1))
  have hS := of_decide_eq_true h
  rw [wrap_id (by omega) (by omega)]
  refine Ev.opt (eq_impl_between _ _ _) (Ev.ite (fun h => ?_) (fun h => bad fun g => h (decide_eq_true g.2.1)))
  have hi := of_decide_eq_true h
  exact Ev.bind (ev_impl_mayMove line ts i hl ht hS hi b hb) (ev_val rfl)
def movedV (ts : List S44) (i : Int) : List S44 := ts.set i.toNat ⟨nextV (at_ ts i), (at_ ts i).f1⟩
theorem moved_len (ts : List S44) (i : Int) : (movedV ts i).length = ts.length := List.length_set ..
theorem moved_get (ts : List S44) (i : Int) (j : Nat) (hj : j < ts.length) (hj2 : j < (movedV ts i).length) : (movedV ts i)[j] = if i.toNat = j then ⟨nextV (at_ ts i), (at_ ts i).f1⟩ else ts[j] := by
  have h : (movedV ts i)[j]? = (ts.set i.toNat ⟨nextV (at_ ts i), (at_ ts i).f1⟩)[j]? := rfl
  rw [List.getElem?_eq_getElem hj2, List.getElem?_eq_getElem (by rw [List.length_set]; exact hj), List.getElem_set] at h
  exact Option.some.inj h
theorem ev_spec_MoveOn (line : List Int) (ts : List S44) (i : Int) (hl : line.length ≤ 1048576) (ht : ts.length ≤ 1048576) (r : List S44 × Bool) (h1 : MayP line ts i → r = (movedV ts i, true)) (h2 : ¬ MayP line ts i → r = ([], false)) : Ev (fun k => spec_MoveOn.f k line ts i) r := by
  classical
  unfold spec_MoveOn.f
  refine Ev.bind (ev_spec_MayMove line ts i hl ht (decide (MayP line ts i)) decide_eq_true_iff) ?_
  refine Ev.ite (fun h => ?_) (fun h => ev_val (h2 fun g => h (decide_eq_true g)).symm)
  have hM := of_decide_eq_true h
  obtain ⟨hS, hi, hne, hc⟩ := hM
  rw [h1 (of_decide_eq_true h)]
  refine ev_fold (fun k j => spec_MoveOn.l0 k ts i ((movedV ts i).take j) (j : Int)) ts.length ?_ ?_
  · intro j hj hn
    have hj2 : j < (movedV ts i).length := by rw [moved_len]; exact hj
    have hlt : ((movedV ts i).take j).length = j := by rw [List.length_take]; omega
    refine Ev.step (fun k => by simp only [spec_MoveOn.l0]; rfl) ?_
    rw [wrap_succ hj (by omega)]
    rw [take_succ' hj2] at hn
    refine Ev.pos (by omega) (Ev.pos (by omega) (Ev.ite (fun h => ?_) (fun h => ?_)))
    · refine Ev.opt (eq_spec_l07Next (sin_in hS (by omega) (by omega)) hl) (Ev.pos (by simp only [List.length_cons, List.length_nil]; omega) ?_)
      have e : (movedV ts i)[j] = ⟨nextV (at_ ts (j : Int)), (at_ ts (j : Int)).f1⟩ := by
        rw [moved_get ts i j hj hj2, if_pos (by omega), h]
      rw [e] at hn
      exact hn
    · refine Ev.pos (by simp only [List.length_cons, List.length_nil]; omega) ?_
      have e : (movedV ts i)[j] = at_ ts (j : Int) := by
        rw [moved_get ts i j hj hj2, if_neg (by omega), at_nat hj]
      rw [e] at hn
      exact hn
  · refine Ev.step (fun k => by simp only [spec_MoveOn.l0]; rfl) ?_
    refine Ev.neg (by omega) (ev_val ?_)
    rw [← moved_len ts i, List.take_length]
theorem eq_impl_moved {line : List Int} (ts : List S44) (i : Int) (hl : line.length ≤ 1048576) (ht : ts.length ≤ 1048576) (hi : 0 ≤ i ∧ i ≤ (ts.length : Int) - 1) (hin : InP line (at_ ts i)) : impl_moved.f ts i = some (movedV ts i) := by
  unfold impl_moved.f
  simp only [List.nil_append, List.length_nil]
  rw [if_pos (by omega), if_pos hi.1, if_pos (by omega), eq_impl_nextSpot hin hl]
  rfl
theorem ev_impl_MoveOn (line : List Int) (ts : List S44) (i : Int) (hl : line.length ≤ 1048576) (ht : ts.length ≤ 1048576) (r : List S44 × Bool) (h1 : MayP line ts i → r = (movedV ts i, true)) (h2 : ¬ MayP line ts i → r = ([], false)) : Ev (fun k => impl_MoveOn.f k line ts i) r := by
  classical
  unfold impl_MoveOn.f
  refine Ev.bind (ev_impl_MayMove line ts i hl ht (decide (MayP line ts i)) decide_eq_true_iff) ?_
  refine Ev.ite (fun h => ?_) (fun h => ev_val (h2 fun g => h (decide_eq_true g)).symm)
  have hM := of_decide_eq_true h
  exact Ev.opt (eq_impl_moved ts i hl ht hM.2.1 (sin_in hM.1 hM.2.1.1 (by have := hM.2.1; omega))) (ev_val (h1 hM).symm)
theorem moveR (line : List Int) (ts : List S44) (i : Int) : ∃ r : List S44 × Bool, (MayP line ts i → r = (movedV ts i, true)) ∧ (¬ MayP line ts i → r = ([], false)) := by
  classical
  by_cases h : MayP line ts i
  · exact ⟨_, fun _ => rfl, fun g => absurd h g⟩
  · exact ⟨_, fun g => absurd g h, fun _ => rfl⟩
theorem main_FnExactMoveOn (x0 : (List Int)) (x1 : (List S44)) (x2 : Int) (h0 : (x0.length ≤ maxLen ∧ ∀ y ∈ x0, (Lit.int .i64 y).wf = true)) (h1 : (x1.length ≤ maxLen ∧ ∀ y ∈ x1, ok44 y)) (h2 : (Lit.int .i64 x2).wf = true) (b0 : (x0.length ≤ 1048576)) (b1 : (x1.length ≤ 1048576)) : ∃ w, Ev (fun k => spec_MoveOn.f k x0 x1 x2) w ∧ Ev (fun k => impl_MoveOn.f k x0 x1 x2) w ∧ (w.1.length ≤ 1048576) := by
  obtain ⟨r, r1, r2⟩ := moveR x0 x1 x2
  refine ⟨r, ev_spec_MoveOn x0 x1 x2 b0 b1 r r1 r2, ev_impl_MoveOn x0 x1 x2 b0 b1 r r1 r2, ?_⟩
  by_cases h : MayP x0 x1 x2
  · rw [r1 h]; show (movedV x1 x2).length ≤ _; rw [moved_len]; exact b1
  · rw [r2 h]; exact Nat.zero_le _
theorem pure_FnExactMoveOn : Pure := by
  intro x0 x1 x2 h0 h1 h2
  refine Ev.rounds ?_
  unfold laws_FnExactMoveOn.f
  refine Ev.ite (fun _ => ev_val rfl) (fun g0 => ?_)
  have b0 : (x0.length ≤ 1048576) := by omega
  obtain ⟨r1, e1, hr1⟩ := sz_SingleS x1 1048576 (by omega) (by omega) h1
  refine Ev.bind e1 ?_
  refine Ev.ite (fun _ => ev_val rfl) (fun g1 => ?_)
  obtain ⟨p1, q1, b1⟩ := hr1.resolve_left g1
  obtain ⟨w, es, ei, hb⟩ := main_FnExactMoveOn x0 x1 x2 h0 h1 h2 b0 b1
  refine Ev.bind (to_IntS x0 b0) ?_
  refine Ev.bind (to_SingleS x1 b1) ?_
  refine Ev.bind es ?_
  refine Ev.bind (to_IntS x0 b0) ?_
  refine Ev.bind (to_SingleS x1 b1) ?_
  refine Ev.bind ei ?_
  refine Ev.bind (eq_SingleS _ (by first | exact hb | exact hb.1 | exact hb.2 | trivial)) ?_
  refine Ev.pos (by first | rfl | simp [sEq] | omega) ?_
  refine Ev.pos (by first | rfl | simp [sEq] | omega) ?_
  refine Ev.bind (to_IntS x0 b0) ?_
  refine Ev.bind (eq_IntS _ b0) ?_
  refine Ev.pos (by first | rfl | simp [sEq] | omega) ?_
  refine Ev.bind (to_SingleS x1 b1) ?_
  refine Ev.bind (eq_SingleS _ b1) ?_
  refine Ev.pos (by first | rfl | simp [sEq] | omega) ?_
  refine Ev.bind (mark_IntS _ (by first | omega | (have := hb; omega) | (have := hb.1; omega) | (have := hb.2; omega) | (rw [List.length_map]; omega)) _ (by first | omega | (dsimp only; omega)) (by first | omega | (dsimp only; omega))) ?_
  refine Ev.bind (mark_SingleS _ (by first | omega | (have := hb; omega) | (have := hb.1; omega) | (have := hb.2; omega) | (rw [List.length_map]; omega)) _ (by first | omega | (dsimp only; omega)) (by first | omega | (dsimp only; omega))) ?_
  refine Ev.neg (by first | omega | simp [sEq]) ?_
  refine Ev.bind (eq_SingleS _ (by first | exact hb | exact hb.1 | exact hb.2 | trivial)) ?_
  refine Ev.pos (by first | rfl | simp [sEq] | omega) ?_
  refine Ev.bind (mark_SingleS _ (by first | omega | (have := hb; omega) | (have := hb.1; omega) | (have := hb.2; omega) | (rw [List.length_map]; omega)) _ (by first | omega | (dsimp only; omega)) (by first | omega | (dsimp only; omega))) ?_
  refine Ev.bind (held_SingleS _ (by first | omega | (have := hb; omega) | (have := hb.1; omega) | (have := hb.2; omega)) _ (by first | omega | (dsimp only; omega)) (by first | omega | (dsimp only; omega))) ?_
  refine Ev.neg (by first | omega | simp [sEq]) ?_
  refine Ev.pos (by first | rfl | simp [sEq] | omega) ?_
  refine Ev.bind (to_IntS x0 b0) ?_
  refine Ev.bind (to_SingleS x1 b1) ?_
  refine Ev.bind ei ?_
  refine Ev.bind (eq_SingleS _ (by first | exact hb | exact hb.1 | exact hb.2 | trivial)) ?_
  refine Ev.pos (by first | rfl | simp [sEq] | omega) ?_
  refine Ev.pos (by first | rfl | simp [sEq] | omega) ?_
  refine Ev.bind (held_SingleS _ (by first | omega | (have := hb; omega) | (have := hb.1; omega) | (have := hb.2; omega)) _ (by first | omega | (dsimp only; omega)) (by first | omega | (dsimp only; omega))) ?_
  refine Ev.neg (by first | omega | simp [sEq]) ?_
  refine Ev.pos (by first | rfl | simp [sEq] | omega) ?_
  exact ev_val rfl
end Go.Proofs.Ytpjmefdpjlhkhaa.Fns
