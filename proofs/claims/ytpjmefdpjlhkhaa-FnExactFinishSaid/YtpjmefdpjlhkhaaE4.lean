/- The engine: a checked abstract machine for the functions of the program (4 of 5). -/
import Derived.Test.YtpjmefdpjlhkhaaE3
/- The engine, part 16: whatever order is drawn, a region's operations come to what they come to in the text's order. -/
namespace Go.Proofs.Ytpjmefdpjlhkhaa.Eng
open Go.RowKit
set_option linter.unusedVariables false
set_option linter.unusedSimpArgs false
def maskOf (B : List Nat) (o : Oper) : Nat := o.after.toList.foldl (fun s e => bif Region.binds .any e then (s ||| 2 ^ e.on) ||| B.getD e.on 0 else s) 0
/-- What must stand ahead of each operation, as bits. -/
def masks : List Oper → List Nat → List Nat
  | [], B => B
  | o :: r, B => masks r (B ++ [maskOf B o])
def edgesOk : List Oper → Nat → Bool
  | [], _ => true
  | o :: r, i => (o.after.toList.all fun e => !Region.binds .any e || Nat.blt e.on i) && edgesOk r (i + 1)
def disj (a b : List Nat) : Bool := a.all fun x => !b.any fun y => Nat.beq x y
/-- Two operations that may come in either order. -/
def apartB (ops : Array Oper) (o : Oper) (I : Inf) (o' : Oper) (I' : Inf) : Bool :=
  disj o.dst.toList (o'.looksAt ops ++ o'.dst.toList) && disj o'.dst.toList (o.looksAt ops) && disj (I.post.map (·.1)) I'.touch && disj (I'.post.map (·.1)) I.touch
def drawOk (ops : Array Oper) (Is : List Inf) : Bool :=
  let os := ops.toList
  let M := masks os []
  edgesOk os 0 && (Is.all fun I => (I.post.map (·.1)).all fun k => I.touch.any fun j => Nat.beq k j) &&
  (List.range os.length).all fun j => (List.range j).all fun i => (M.getD j 0).testBit i || match os[i]?, Is[i]?, os[j]?, Is[j]? with
    | some o, some I, some o', some I' => apartB ops o I o' I'
    | _, _, _, _ => false
theorem disj_spec {a b : List Nat} (h : disj a b = true) : ∀ x, x ∈ a → x ∉ b := by
  intro x hx hb
  have h1 := List.all_eq_true.1 h x hx
  simp only [Bool.not_eq_true', List.any_eq_false] at h1
  exact h1 x hb (by simp)
theorem masks_length : ∀ (os : List Oper) (B : List Nat), (masks os B).length = B.length + os.length
  | [], B => by simp [masks]
  | o :: r, B => by rw [masks, masks_length r]; simp; omega
theorem masks_pre : ∀ (os : List Oper) (B : List Nat) (i : Nat), i < B.length → (masks os B).getD i 0 = B.getD i 0
  | [], B, i, _ => rfl
  | o :: r, B, i, h => by
    rw [masks, masks_pre r _ i (by simp; omega)]
    simp only [List.getD_eq_getElem?_getD]
    rw [List.getElem?_append_left h]
theorem masks_at : ∀ (os : List Oper) (B : List Nat) (j : Nat) (h : j < os.length), ∃ B', (masks os B).getD (B.length + j) 0 = maskOf B' os[j] ∧ ∀ i, i < B.length + j → B'.getD i 0 = (masks os B).getD i 0
  | o :: r, B, 0, h => by
    refine ⟨B, ?_, fun i hi => ?_⟩
    · rw [masks, masks_pre r _ _ (by simp)]
      simp [List.getD_eq_getElem?_getD]
    · rw [masks, masks_pre r _ _ (by simp; omega)]
      simp only [List.getD_eq_getElem?_getD]
      rw [List.getElem?_append_left (by omega)]
  | o :: r, B, j + 1, h => by
    obtain ⟨B', h1, h2⟩ := masks_at r (B ++ [maskOf B o]) j (Nat.lt_of_succ_lt_succ h)
    refine ⟨B', ?_, fun i hi => ?_⟩
    · rw [masks]
      have : B.length + (j + 1) = (B ++ [maskOf B o]).length + j := by simp; omega
      rw [this]; exact h1
    · rw [masks]; exact h2 i (by simp; omega)
theorem maskOf_bit {B : List Nat} {i : Nat} : ∀ (es : List Edge) (s : Nat), (es.foldl (fun s e => bif Region.binds .any e then (s ||| 2 ^ e.on) ||| B.getD e.on 0 else s) s).testBit i = true → s.testBit i = true ∨ ∃ e, e ∈ es ∧ Region.binds .any e = true ∧ (e.on = i ∨ (B.getD e.on 0).testBit i = true)
  | [], s, h => .inl h
  | e :: r, s, h => by
    rw [List.foldl_cons] at h
    rcases maskOf_bit r _ h with h | ⟨e', h1, h2, h3⟩
    · cases hb : Region.binds .any e with
      | false => rw [hb] at h; exact .inl h
      | true =>
        rw [hb] at h
        simp only [cond_true, Nat.testBit_or, Bool.or_eq_true, Nat.testBit_two_pow, decide_eq_true_eq] at h
        rcases h with (h | h) | h
        · exact .inl h
        · exact .inr ⟨e, List.mem_cons_self, hb, .inl h⟩
        · exact .inr ⟨e, List.mem_cons_self, hb, .inr h⟩
    · exact .inr ⟨e', List.mem_cons_of_mem _ h1, h2, h3⟩
theorem edgesOk_spec : ∀ {os : List Oper} {i : Nat}, edgesOk os i = true → ∀ j (h : j < os.length) e, e ∈ os[j].after → Region.binds .any e = true → e.on < i + j
  | o :: r, i, h, 0, hj, e, he, hb => by
    simp only [edgesOk, Bool.and_eq_true, List.all_eq_true] at h
    have := h.1 e (by simpa using he)
    rw [hb] at this
    simp only [Bool.not_true, Bool.false_or] at this
    exact Nat.le_of_ble_eq_true this
  | o :: r, i, h, j + 1, hj, e, he, hb => by
    simp only [edgesOk, Bool.and_eq_true] at h
    have := edgesOk_spec h.2 j (Nat.lt_of_succ_lt_succ hj) e he hb
    omega
/-- Whatever is listed has all listed that must stand ahead of it. -/
theorem mask_closed {os : List Oper} {p : Nat → Bool} (he : edgesOk os 0 = true) (hp : ∀ j (h : j < os.length), p j = true → ∀ e, e ∈ os[j].after → Region.binds .any e = true → p e.on = true) :
    ∀ j i, j < os.length → p j = true → ((masks os []).getD j 0).testBit i = true → p i = true := by
  intro j
  induction j using Nat.strongRecOn with
  | _ j ih =>
    intro i hj hpj hb
    obtain ⟨B', h1, h2⟩ := masks_at os [] j hj
    simp only [List.length_nil, Nat.zero_add] at h1 h2
    rw [h1] at hb
    unfold maskOf at hb
    rcases maskOf_bit _ _ hb with h | ⟨e, h3, h4, h5⟩
    · simp at h
    · have h6 : e ∈ os[j].after := by simpa using h3
      have h7 := edgesOk_spec he j hj e h6 h4
      rw [Nat.zero_add] at h7
      have h8 := hp j hj hpj e h6 h4
      rcases h5 with rfl | h5
      · exact h8
      · rw [h2 _ h7] at h5
        exact ih _ h7 i (by omega) h8 h5
/-- .. and what is ready has, too. -/
theorem mask_ready {os : List Oper} {p : Nat → Bool} (he : edgesOk os 0 = true) (hp : ∀ j (h : j < os.length), p j = true → ∀ e, e ∈ os[j].after → Region.binds .any e = true → p e.on = true) {j : Nat} (hj : j < os.length) (hr : ∀ e, e ∈ os[j].after → Region.binds .any e = true → p e.on = true) :
    ∀ i, ((masks os []).getD j 0).testBit i = true → p i = true := by
  intro i hb
  obtain ⟨B', h1, h2⟩ := masks_at os [] j hj
  simp only [List.length_nil, Nat.zero_add] at h1 h2
  rw [h1] at hb
  unfold maskOf at hb
  rcases maskOf_bit _ _ hb with h | ⟨e, h3, h4, h5⟩
  · simp at h
  · have h6 : e ∈ os[j].after := by simpa using h3
    have h7 := edgesOk_spec he j hj e h6 h4
    rw [Nat.zero_add] at h7
    have h8 := hr e h6 h4
    rcases h5 with rfl | h5
    · exact h8
    · rw [h2 _ h7] at h5
      exact mask_closed he hp _ i (by omega) h8 h5
end Go.Proofs.Ytpjmefdpjlhkhaa.Eng

/- The engine, part 17: the region's law, drawn or not. -/
namespace Go.Proofs.Ytpjmefdpjlhkhaa.Eng
open Go.RowKit
set_option linter.unusedVariables false
set_option linter.unusedSimpArgs false
/-- What holds when the operations that p names are done. -/
structure Inv (Ow : Nat → Nat → Prop) (c0 : Cx) (h0 : Nat → Option (List V)) (w0 : World) (nt : Nat) (d0 : List Deferred) (e : Nat → V) (h : Nat → Option (List V)) (c : Cx) (a : Act) (w : World) : Prop where
  sim : Sim c h w Ow
  env : ∀ t, R c (ln h) w (e t) (a.tmps.getD t undef)
  ext : Ext c0 (ln h0) w0 c (ln h) w
  keep : Keep Ow w0 w
  okk : ∀ t b, c.ok t b → c0.ok t b ∨ (w0.heap.size ≤ b ∧ c.ok false b)
  sz : a.tmps.size = nt
  df : a.defers = d0
section
variable {P : Program} {ops : Array Oper} {kb : Nat} {hs : List Hint} {e e' : Nat → V} {H H' : Hp} {Is : List Inf} {Ow : Nat → Nat → Prop} {c0 : Cx} {w0 : World} {nt : Nat} {d0 : List Deferred} {Q : Exit → Act → World → Prop}
abbrev eA (ops : Array Oper) (Is : List Inf) (e : Nat → V) (p : Nat → Bool) : Nat → V := att ((ops.toList.zip Is).map fun q => eU q.1 q.2) 0 p e
abbrev hA (Is : List Inf) (H : Hp) (p : Nat → Bool) : Nat → Option (List V) := att (Is.map hU) 0 p (hget H)
theorem eU_some {o : Oper} {I : Inf} {t : Nat} (h : eU o I t ≠ none) : o.dst = some t := by
  unfold eU at h
  split at h
  · rename_i d hd
    by_cases e : d = t
    · rw [hd, e]
    · rw [nbeq e] at h; exact absurd rfl h
  · exact absurd rfl h
theorem hU_some {I : Inf} {k : Nat} (h : hU I k ≠ none) : (hget I.post k).isSome = true := by
  unfold hU at h
  split at h
  · rename_i cs hc; rw [hc]; rfl
  · exact absurd rfl h
theorem step_op {p : Nat → Bool} {i : Nat} {c : Cx} {a : Act} {w : World} {K : Act → World → Prop} (hreg : reg P ops kb ops.toList 0 hs e H = some (e', H', Is)) (hob : ∀ I, I ∈ Is → AllP I.ob) (hcal : ∀ I, I ∈ Is → ∀ C, I.cal = some C → Spec P C.f C.args C.hp C.res C.hp') (hgl : GL P w0 Ow)
    (hdst : ∀ o, o ∈ ops.toList → ∀ d, o.dst = some d → d < nt) (hi : i < ops.toList.length) (hi' : i < Is.length) (hpi : p i = false) (hinv : Inv Ow c0 (hget H) w0 nt d0 (eA ops Is e p) (hA Is H p) c a w)
    (C1 : ∀ t, t ∈ (ops.toList[i]).looksAt ops → eA ops Is e p t = eA ops Is e (fun j => decide (j < i)) t) (C2 : ∀ k, k ∈ (Is[i]).touch → hA Is H p k = hA Is H (fun j => decide (j < i)) k)
    (C3 : ∀ t, (ops.toList[i]).dst = some t → ∀ j (h : j < ops.toList.length), i < j → (ops.toList[j]).dst = some t → p j = false)
    (C4 : ∀ k, (hget (Is[i]).post k).isSome = true → ∀ j (h : j < Is.length), i < j → (hget (Is[j]).post k).isSome = true → p j = false)
    (hK : ∀ c' a' w', Inv Ow c0 (hget H) w0 nt d0 (eA ops Is e fun j => p j || j == i) (hA Is H fun j => p j || j == i) c' a' w' → K a' w') : wpOp P ops Q i K a w := by
  obtain ⟨b1, b2, b3, b4⟩ := reg_at _ _ _ _ _ _ _ _ hreg
  obtain ⟨hint, h1⟩ := b4 i hi hi'
  have l1 : ((ops.toList.zip Is).map fun q => eU q.1 q.2).length = ops.toList.length := by simp [b1]
  have l2 : (Is.map hU).length = Is.length := by simp
  rw [← att_lt _ 0 i, ← att_lt _ 0 i] at h1
  simp only [Nat.zero_add, Nat.add_zero] at h1
  obtain ⟨I', h2, h3, h4, h5, h6⟩ := sop_local h1 C1 C2
  have hzip : ∀ j (h : j < ops.toList.length) (h' : j < Is.length) (h'' : j < ((ops.toList.zip Is).map fun q => eU q.1 q.2).length), ((ops.toList.zip Is).map fun q => eU q.1 q.2)[j] = eU ops.toList[j] Is[j] := by
    intro j h h' h''
    simp
  have eadd : ∀ t, eA ops Is e (fun j => p j || j == i) t = put (eA ops Is e p) (eU ops.toList[i] Is[i]) t := by
    intro t
    have := att_add ((ops.toList.zip Is).map fun q => eU q.1 q.2) 0 p e t i (by rw [l1]; exact hi) (fun hn j hj hlt hjn => by
      rw [Nat.zero_add]
      have hj' : j < ops.toList.length := by rw [l1] at hj; exact hj
      rw [hzip j hj' (by omega) hj] at hjn
      rw [hzip i hi hi' (by omega)] at hn
      exact C3 t (eU_some hn) j hj' hlt (eU_some hjn))
    simp only [Nat.zero_add] at this
    rw [hzip i hi hi' (by omega)] at this
    exact this
  have hadd : hA Is H (fun j => p j || j == i) = updH (hA Is H p) I'.post := by
    funext k
    have := att_add (Is.map hU) 0 p (hget H) k i (by rw [l2]; exact hi') (fun hn j hj hlt hjn => by
      rw [Nat.zero_add]
      have hj' : j < Is.length := by rw [l2] at hj; exact hj
      simp only [List.getElem_map] at hn hjn
      exact C4 k (hU_some hn) j hj' hlt (hU_some hjn))
    simp only [Nat.zero_add, List.getElem_map] at this
    rw [h4, ← put_hU]
    exact this
  have ho : ops[i]? = some ops.toList[i] := by
    have : i < ops.size := by simpa using hi
    simp [this]
  refine sop_sound hinv.sim hinv.env ho h2 (h6 (hob _ (List.getElem_mem hi'))) (fun C hC => hcal _ (List.getElem_mem hi') C (by rw [← h5]; exact hC)) (hgl.keep hinv.keep) ?_
  intro c' w' x hR hS hE hKp hok
  refine hK c' (a.put (ops.toList[i]).dst x) w' ⟨by rw [hadd]; exact hS, fun t => ?_, by rw [hadd]; exact hinv.ext.trans hE, hinv.keep.trans hKp, fun t b hb => ?_, ?_, ?_⟩
  · rw [eadd t, hadd]
    unfold put eU Act.put
    cases hd : (ops.toList[i]).dst with
    | none => simp only; exact (hinv.env t).ext hE
    | some d =>
      simp only
      have hlt : d < a.tmps.size := by rw [hinv.sz]; exact hdst _ (List.getElem_mem hi) d hd
      by_cases e1 : d = t
      · subst e1
        simp only [Nat.beq_refl, cond_true]
        rw [← h3]
        simpa [Array.getD_eq_getD_getElem?, hlt] using hR
      · rw [nbeq e1]
        simp only [cond_false]
        have : (a.tmps.setIfInBounds d x).getD t undef = a.tmps.getD t undef := by simp [Array.getD_eq_getD_getElem?, Array.getElem?_setIfInBounds_ne e1]
        rw [this]
        exact (hinv.env t).ext hE
  · rcases hok t b hb with h | ⟨h, h'⟩
    · rcases hinv.okk t b h with h | ⟨h, h'⟩
      · exact .inl h
      · exact .inr ⟨h, (hE.ok false b h').1⟩
    · have := hinv.keep.size; exact .inr ⟨by omega, h'⟩
  · unfold Act.put
    cases (ops.toList[i]).dst with
    | none => exact hinv.sz
    | some d => simp only [Array.size_setIfInBounds]; exact hinv.sz
  · unfold Act.put
    cases (ops.toList[i]).dst with
    | none => exact hinv.df
    | some d => exact hinv.df
/-- Not drawn: in the text's order. -/
theorem reg_seq (hreg : reg P ops kb ops.toList 0 hs e H = some (e', H', Is)) (hob : ∀ I, I ∈ Is → AllP I.ob) (hcal : ∀ I, I ∈ Is → ∀ C, I.cal = some C → Spec P C.f C.args C.hp C.res C.hp') (hgl : GL P w0 Ow)
    (hdst : ∀ o, o ∈ ops.toList → ∀ d, o.dst = some d → d < nt) (hQ : ∀ c' a' w', Inv Ow c0 (hget H) w0 nt d0 e' (hget H') c' a' w' → Q .normal a' w') :
    ∀ (m i : Nat) (c : Cx) (a : Act) (w : World), i + m = ops.toList.length → Inv Ow c0 (hget H) w0 nt d0 (eA ops Is e fun j => decide (j < i)) (hA Is H fun j => decide (j < i)) c a w → wpOps P ops Q (List.range' i m) a w := by
  obtain ⟨b1, b2, b3, b4⟩ := reg_at _ _ _ _ _ _ _ _ hreg
  intro m
  induction m with
  | zero =>
    intro i c a w hi hinv
    simp only [List.range'_zero, wpOps]
    refine hQ c a w ?_
    have l1 : ((ops.toList.zip Is).map fun q => eU q.1 q.2).length = ops.toList.length := by simp [b1]
    have e1 : eA ops Is e (fun j => decide (j < i)) = e' := by
      rw [b2]; exact att_all _ _ _ _ (fun j hj => by rw [l1] at hj; simp; omega)
    have e2 : hA Is H (fun j => decide (j < i)) = hget H' := by
      rw [b3]; exact att_all _ _ _ _ (fun j hj => by simp only [List.length_map] at hj; simp; omega)
    rw [e1, e2] at hinv
    exact hinv
  | succ m ih =>
    intro i c a w hi hinv
    rw [List.range'_succ, wpOps_cons]
    refine step_op hreg hob hcal hgl hdst (by omega) (by omega) (by simp) hinv (fun _ _ => rfl) (fun _ _ => rfl) (fun _ _ j _ hlt _ => by simp; omega) (fun _ _ j _ hlt _ => by simp; omega) (fun c' a' w' hinv' => ih (i + 1) c' a' w' (by omega) ?_)
    have : (fun j => decide (j < i) || j == i) = fun j => decide (j < i + 1) := by
      funext j
      rw [Bool.eq_iff_iff]
      simp
      omega
    rw [this] at hinv'
    exact hinv'
/-- Drawn: in whatever order. -/
theorem reg_any (hreg : reg P ops kb ops.toList 0 hs e H = some (e', H', Is)) (hob : ∀ I, I ∈ Is → AllP I.ob) (hcal : ∀ I, I ∈ Is → ∀ C, I.cal = some C → Spec P C.f C.args C.hp C.res C.hp') (hgl : GL P w0 Ow)
    (hdst : ∀ o, o ∈ ops.toList → ∀ d, o.dst = some d → d < nt) (hd : drawOk ops Is = true) (hQ : ∀ c' a' w', Inv Ow c0 (hget H) w0 nt d0 e' (hget H') c' a' w' → Q .normal a' w') :
    ∀ (m : Nat) (l : Array Bool) (c : Cx) (a : Act) (w : World), l.size = ops.toList.length → (l.toList.countP (· == false)) = m → (∀ j (h : j < ops.toList.length), l.getD j false = true → ∀ ed, ed ∈ (ops.toList[j]).after → Region.binds .any ed = true → l.getD ed.on false = true) →
      Inv Ow c0 (hget H) w0 nt d0 (eA ops Is e fun j => l.getD j false) (hA Is H fun j => l.getD j false) c a w → wpAny P .any ops Q m l a w := by
  obtain ⟨b1, b2, b3, b4⟩ := reg_at _ _ _ _ _ _ _ _ hreg
  unfold drawOk at hd
  simp only [Bool.and_eq_true] at hd
  obtain ⟨⟨hd1, hd2⟩, hd3⟩ := hd
  have l1 : ((ops.toList.zip Is).map fun q => eU q.1 q.2).length = ops.toList.length := by simp [b1]
  have htch : ∀ j (h : j < Is.length) k, (hget (Is[j]).post k).isSome = true → k ∈ (Is[j]).touch := by
    intro j h k hk
    have h1 := List.all_eq_true.1 hd2 _ (List.getElem_mem h)
    have hmem : ∀ (p : Hp) (k : Nat), (hget p k).isSome = true → k ∈ p.map (·.1) := by
      intro p
      induction p with
      | nil => intro k h; simp [hget] at h
      | cons q r ih =>
        intro k h
        obtain ⟨k', cs⟩ := q
        by_cases e : k' = k
        · subst e; simp
        · simp only [hget, nbeq e, cond_false] at h
          exact List.mem_cons_of_mem _ (ih k h)
    have h2 := List.all_eq_true.1 h1 k (hmem _ _ hk)
    obtain ⟨y, hy, he⟩ := List.any_eq_true.1 h2
    rw [Nat.eq_of_beq_eq_true he]; exact hy
  have hpost : ∀ j (h : j < Is.length) k, (hget (Is[j]).post k).isSome = true → k ∈ (Is[j]).post.map (·.1) := by
    intro j h k hk
    have hmem : ∀ (p : Hp) (k : Nat), (hget p k).isSome = true → k ∈ p.map (·.1) := by
      intro p
      induction p with
      | nil => intro k h; simp [hget] at h
      | cons q r ih =>
        intro k h
        obtain ⟨k', cs⟩ := q
        by_cases e : k' = k
        · subst e; simp
        · simp only [hget, nbeq e, cond_false] at h
          exact List.mem_cons_of_mem _ (ih k h)
    exact hmem _ _ hk
  have pair : ∀ i j (hi : i < ops.toList.length) (hj : j < ops.toList.length), i < j → ((masks ops.toList []).getD j 0).testBit i = true ∨ apartB ops ops.toList[i] (Is[i]'(by omega)) ops.toList[j] (Is[j]'(by omega)) = true := by
    intro i j hi hj hlt
    have h1 := List.all_eq_true.1 hd3 j (List.mem_range.2 hj)
    have h2 := List.all_eq_true.1 h1 i (List.mem_range.2 hlt)
    rw [Bool.or_eq_true] at h2
    rcases h2 with h2 | h2
    · exact .inl h2
    · rw [List.getElem?_eq_getElem hi, List.getElem?_eq_getElem (by omega : i < Is.length), List.getElem?_eq_getElem hj, List.getElem?_eq_getElem (by omega : j < Is.length)] at h2
      exact .inr h2
  have fin : ∀ (l : Array Bool) (c : Cx) (a : Act) (w : World), (∀ j, j < ops.toList.length → l.getD j false = true) → Inv Ow c0 (hget H) w0 nt d0 (eA ops Is e fun j => l.getD j false) (hA Is H fun j => l.getD j false) c a w → Q .normal a w := by
    intro l c a w hl hinv
    refine hQ c a w ?_
    have e1 : eA ops Is e (fun j => l.getD j false) = e' := by
      rw [b2]; exact att_all _ _ _ _ (fun j hj => by rw [l1] at hj; simpa using hl j hj)
    have e2 : hA Is H (fun j => l.getD j false) = hget H' := by
      rw [b3]; exact att_all _ _ _ _ (fun j hj => by simp only [List.length_map] at hj; simpa using hl j (by omega))
    rw [e1, e2] at hinv
    exact hinv
  -- nothing is ready only where all is done
  have noready : ∀ (l : Array Bool), l.size = ops.toList.length → Region.ready .any ops l = [] → ∀ j, j < ops.toList.length → l.getD j false = true := by
    intro l hl hr j
    induction j using Nat.strongRecOn with
    | _ j ih =>
      intro hj
      cases hp : l.getD j false with
      | true => rfl
      | false =>
        exfalso
        have hj' : j < ops.size := by simpa using hj
        have hmem : j ∈ Region.ready .any ops l := by
          unfold Region.ready
          rw [List.mem_filter]
          refine ⟨List.mem_range.2 hj', ?_⟩
          have hlt : j < l.size := by omega
          have h1 : l.getD j true = false := by
            rw [Array.getD_eq_getD_getElem?, Array.getElem?_eq_getElem hlt] at hp ⊢
            exact hp
          simp only [h1, Bool.not_false, Bool.true_and, Array.getElem?_eq_getElem hj', Option.map_some, Option.getD_some]
          rw [← Array.all_toList, List.all_eq_true]
          intro ed hed
          cases hb : Region.binds .any ed with
          | false => rfl
          | true =>
            simp only [Bool.not_true, Bool.false_or]
            have h2 := edgesOk_spec hd1 j hj ed (by simpa using hed) hb
            rw [Nat.zero_add] at h2
            exact ih _ h2 (by omega)
        rw [hr] at hmem
        simp at hmem
  intro m
  induction m with
  | zero =>
    intro l c a w hl hm hcl hinv
    have hall : ∀ j, j < ops.toList.length → l.getD j false = true := by
      intro j hj
      have hlt : j < l.size := by omega
      have := List.countP_eq_zero.1 hm l[j] (by simp)
      rw [Array.getD_eq_getD_getElem?, Array.getElem?_eq_getElem hlt]
      simpa using this
    refine ⟨?_, fin l c a w hall hinv⟩
    unfold Region.ready
    rw [List.filter_eq_nil_iff]
    intro i hi
    have hi' : i < l.size := by have := List.mem_range.1 hi; simp only [Array.length_toList] at hl; omega
    have := hall i (by simp only [Array.length_toList] at hl ⊢; omega)
    rw [Array.getD_eq_getD_getElem?, Array.getElem?_eq_getElem hi'] at this
    have h2 : l.getD i true = true := by rw [Array.getD_eq_getD_getElem?, Array.getElem?_eq_getElem hi']; exact this
    simp [h2]
  | succ m ih =>
    intro l c a w hl hm hcl hinv
    refine ⟨fun hr => fin l c a w (noready l hl hr) hinv, fun i hi => ?_⟩
    unfold Region.ready at hi
    rw [List.mem_filter] at hi
    obtain ⟨hi1, hi2⟩ := hi
    have hi0 : i < ops.size := List.mem_range.1 hi1
    have hi' : i < ops.toList.length := by simpa using hi0
    have hil : i < l.size := by omega
    simp only [Bool.and_eq_true, Bool.not_eq_true', Array.getElem?_eq_getElem hi0, Option.map_some, Option.getD_some] at hi2
    obtain ⟨hi3, hi4⟩ := hi2
    have hpi : l.getD i false = false := by
      rw [Array.getD_eq_getD_getElem?, Array.getElem?_eq_getElem hil] at hi3 ⊢
      exact hi3
    have hrd : ∀ ed, ed ∈ (ops.toList[i]).after → Region.binds .any ed = true → l.getD ed.on false = true := by
      intro ed h1 h2
      rw [← Array.all_toList, List.all_eq_true] at hi4
      have := hi4 ed (by simpa using h1)
      rw [h2] at this
      simpa using this
    have hbef := mask_ready (p := fun j => l.getD j false) hd1 hcl hi' hrd
    have haft : ∀ j (hj : j < ops.toList.length), l.getD j false = true → ((masks ops.toList []).getD j 0).testBit i = true → False := by
      intro j hj hpj hb
      have := mask_closed (p := fun j => l.getD j false) hd1 hcl j i hj hpj hb
      simp only [hpi] at this
      cases this
    have hsetg : ∀ j, (l.setIfInBounds i true).getD j false = (l.getD j false || j == i) := by
      intro j
      by_cases e1 : i = j
      · subst e1; simp [Array.getD_eq_getD_getElem?, hil]
      · have : (j == i) = false := by simp; omega
        simp [Array.getD_eq_getD_getElem?, Array.getElem?_setIfInBounds_ne e1, this]
    -- two that touch one thing stand in an order
    have ord : ∀ j (hj : j < ops.toList.length), j ≠ i → (apartB ops ops.toList[i] (Is[i]'(by omega)) ops.toList[j] (Is[j]'(by omega)) = true → False) → (apartB ops ops.toList[j] (Is[j]'(by omega)) ops.toList[i] (Is[i]'(by omega)) = true → False) → l.getD j false = decide (j < i) := by
      intro j hj hne h1 h2
      rcases Nat.lt_or_ge j i with hlt | hge
      · rcases pair j i hj hi' hlt with hb | hb
        · rw [hbef j hb]; simp [hlt]
        · exact (h2 hb).elim
      · have hlt : i < j := by omega
        rcases pair i j hi' hj hlt with hb | hb
        · have : l.getD j false = false := by
            cases hq : l.getD j false with
            | false => rfl
            | true => exact (haft j hj hq hb).elim
          rw [this]; simp; omega
        · exact (h1 hb).elim
    have hap : ∀ {o o' : Oper} {I I' : Inf}, apartB ops o I o' I' = true → (∀ d, o.dst = some d → d ∉ o'.looksAt ops ∧ o'.dst ≠ some d) ∧ (∀ d, o'.dst = some d → d ∉ o.looksAt ops) ∧ (∀ k, k ∈ I.post.map (·.1) → k ∉ I'.touch) ∧ (∀ k, k ∈ I'.post.map (·.1) → k ∉ I.touch) := by
      intro o o' I I' h
      unfold apartB at h
      simp only [Bool.and_eq_true] at h
      obtain ⟨⟨⟨q1, q2⟩, q3⟩, q4⟩ := h
      refine ⟨fun d hd => ?_, fun d hd => disj_spec q2 d (by simp [hd]), disj_spec q3, disj_spec q4⟩
      have := disj_spec q1 d (by simp [hd])
      rw [List.mem_append, not_or] at this
      exact ⟨this.1, fun h => this.2 (by simp [h])⟩
    refine step_op hreg hob hcal hgl hdst hi' (by omega) hpi hinv ?_ ?_ ?_ ?_ (fun c' a' w' hinv' => ih _ c' a' w' (by simpa using hl) ?_ ?_ ?_)
    · intro t ht
      refine att_congr _ 0 _ _ _ _ t rfl (fun j hj hn => ?_)
      rw [l1] at hj
      have hz : ((ops.toList.zip Is).map fun q => eU q.1 q.2)[j]'(by rw [l1]; exact hj) = eU ops.toList[j] (Is[j]'(by omega)) := by simp
      rw [hz] at hn
      have hdj := eU_some hn
      rw [Nat.zero_add]
      by_cases e1 : j = i
      · subst e1; rw [hpi]; simp
      · exact ord j hj e1 (fun hb => (hap hb).2.1 t hdj ht) (fun hb => ((hap hb).1 t hdj).1 ht)
    · intro k hk
      refine att_congr _ 0 _ _ _ _ k rfl (fun j hj hn => ?_)
      simp only [List.length_map] at hj
      simp only [List.getElem_map] at hn
      have hkj := hpost j hj k (hU_some hn)
      rw [Nat.zero_add]
      by_cases e1 : j = i
      · subst e1; rw [hpi]; simp
      · exact ord j (by omega) e1 (fun hb => (hap hb).2.2.2 k hkj hk) (fun hb => (hap hb).2.2.1 k hkj hk)
    · intro t ht j hj hlt hdj
      rcases pair i j hi' hj hlt with hb | hb
      · cases hq : l.getD j false with
        | false => rfl
        | true => exact (haft j hj hq hb).elim
      · exact (((hap hb).1 t ht).2 hdj).elim
    · intro k hk j hj hlt hkj
      rcases pair i j hi' (by omega) hlt with hb | hb
      · cases hq : l.getD j false with
        | false => rfl
        | true => exact (haft j (by omega) hq hb).elim
      · exact ((hap hb).2.2.1 k (hpost i (by omega) k hk) (htch j hj k hkj)).elim
    · have h1 : l.toList[i]'(by simpa using hil) = false := by
        rw [Array.getD_eq_getD_getElem?, Array.getElem?_eq_getElem hil] at hpi
        simpa using hpi
      have h2 := List.countP_set (p := (· == false)) (l := l.toList) (i := i) (a := true) (by simpa using hil)
      rw [Array.toList_setIfInBounds, h2, h1, hm]
      simp
    · intro j hj hpj ed h1 h2
      rw [hsetg] at hpj ⊢
      rw [Bool.or_eq_true] at hpj ⊢
      rcases hpj with hpj | hpj
      · exact .inl (hcl j hj hpj ed h1 h2)
      · have : j = i := by simpa using hpj
        subst this
        exact .inl (hrd ed h1 h2)
    · have e1 : (fun j => (l.setIfInBounds i true).getD j false) = fun j => l.getD j false || j == i := funext hsetg
      rw [e1]
      exact hinv'
end
end Go.Proofs.Ytpjmefdpjlhkhaa.Eng

/- The engine, part 18: what a function's run is told by (J): its regions, tests, loops, ends. -/
namespace Go.Proofs.Ytpjmefdpjlhkhaa.Eng
open Go.RowKit
set_option linter.unusedVariables false
set_option linter.unusedSimpArgs false
def codeIn : Code → List Nat → Code
  | c, [] => c
  | .seq a b, i :: p => bif Nat.beq i 0 then codeIn a p else codeIn b p
  | .cond _ a b, i :: p => bif Nat.beq i 0 then codeIn a p else codeIn b p
  | .block _ a, _ :: p => codeIn a p
  | .loop a, _ :: p => codeIn a p
  | _, _ :: _ => .refuse ""
def codeAt (P : Program) (f : FuncId) (p : List Nat) : Code := match P.funcs[f]? with
  | some fn => match fn.body with
    | some c => codeIn c p
    | none => .refuse ""
  | none => .refuse ""
theorem codeIn_append : ∀ (p q : List Nat) (c : Code), codeIn (codeIn c p) q = codeIn c (p ++ q)
  | [], q, c => by cases c <;> rfl
  | i :: p, q, c => by
    have ref : ∀ q, codeIn (.refuse "") q = .refuse "" := fun q => by cases q <;> rfl
    cases c with
    | seq a b => simp only [codeIn, List.cons_append]; cases Nat.beq i 0 <;> exact codeIn_append p q _
    | cond x a b => simp only [codeIn, List.cons_append]; cases Nat.beq i 0 <;> exact codeIn_append p q _
    | block id a => exact codeIn_append p q a
    | loop a => exact codeIn_append p q a
    | _ => exact ref q
theorem codeAt_append {P : Program} {f : FuncId} (p q : List Nat) : codeAt P f (p ++ q) = codeIn (codeAt P f p) q := by
  have ref : ∀ q, codeIn (.refuse "") q = .refuse "" := fun q => by cases q <;> rfl
  unfold codeAt
  cases P.funcs[f]? with
  | none => exact (ref q).symm
  | some fn => cases hb : fn.body with
    | none => simp only [hb]; exact (ref q).symm
    | some c => simp only [hb]; exact (codeIn_append p q c).symm
/-- What is still to be done. -/
inductive It where
  | c (p : List Nat)
  | b (id : Nat)
  | l (p : List Nat)
def popTo (id : Nat) : List It → Option (List It)
  | .b id' :: K => bif Nat.beq id' id then some K else popTo id K
  | _ :: K => popTo id K
  | [] => none
/-- The plain steps, as far as a region, a test, a loop's head, or the end. -/
def nx (P : Program) (f : FuncId) : Nat → List It → List It
  | 0, K => K
  | n + 1, [] => []
  | n + 1, .b id :: K => nx P f n K
  | n + 1, .l p :: K => .l p :: K
  | n + 1, .c p :: K => match codeAt P f p with
    | .seq _ _ => nx P f n (.c (p ++ [0]) :: .c (p ++ [1]) :: K)
    | .skip => nx P f n K
    | .block id _ => nx P f n (.c (p ++ [0]) :: .b id :: K)
    | .loop _ => .l p :: K
    | .exit id => match popTo id K with
      | some K' => nx P f n K'
      | none => .c p :: K
    | _ => .c p :: K
inductive Cit (P : Program) (f : FuncId) : It → Item → Prop
  | c {p : List Nat} : Cit P f (.c p) (.code (codeAt P f p))
  | b {id : Nat} : Cit P f (.b id) (.inBlock id)
  | l {p : List Nat} {a : Code} (h : codeAt P f p = .loop a) : Cit P f (.l p) (.inLoop a)
  | l' {p : List Nat} {a : Code} (h : codeAt P f p = .loop a) : Cit P f (.l p) (.code (.loop a))
inductive Conc (P : Program) (f : FuncId) : List It → List Item → Prop
  | nil : Conc P f [] []
  | cons {i : It} {x : Item} {K : List It} {k : List Item} (h : Cit P f i x) (hk : Conc P f K k) : Conc P f (i :: K) (x :: k)
theorem popTo_conc {P : Program} {f : FuncId} {id : Nat} : ∀ {K K' : List It} {k : List Item}, Conc P f K k → popTo id K = some K' → ∃ k', exitTo id k = some k' ∧ Conc P f K' k'
  | _, K', _, .cons (i := i) (x := x) (K := K) (k := k) h hk, hp => by
    cases h with
    | @b id' =>
      by_cases e : id' = id
      · subst e
        simp [popTo] at hp
        subst hp
        exact ⟨k, by simp [exitTo], hk⟩
      · simp only [popTo, nbeq e, cond_false] at hp
        obtain ⟨k', h1, h2⟩ := popTo_conc hk hp
        exact ⟨k', by simp [exitTo, e, h1], h2⟩
    | c => obtain ⟨k', h1, h2⟩ := popTo_conc hk hp; exact ⟨k', by simp [exitTo, h1], h2⟩
    | l h => obtain ⟨k', h1, h2⟩ := popTo_conc hk hp; exact ⟨k', by simp [exitTo, h1], h2⟩
    | l' h => obtain ⟨k', h1, h2⟩ := popTo_conc hk hp; exact ⟨k', by simp [exitTo, h1], h2⟩
theorem nx_steps {P : Program} {f : FuncId} {b : Frame} {a : Act} {cs : List Frame} {w : World} : ∀ (n : Nat) (K : List It) (k : List Item), Conc P f K k → ∃ k', Conc P f (nx P f n K) k' ∧ Steps P (lone (b.at a k) cs w) (lone (b.at a k') cs w)
  | 0, K, k, h => ⟨k, h, .refl _ _⟩
  | n + 1, _, _, .nil => ⟨[], .nil, .refl _ _⟩
  | n + 1, _, _, .cons (i := i) (x := x) (K := K) (k := k) h hk => by
    cases h with
    | b =>
      obtain ⟨k', h1, h2⟩ := nx_steps n K k hk
      exact ⟨k', h1, .head step_inBlock h2⟩
    | l h => exact ⟨_, .cons (.l h) hk, .refl _ _⟩
    | l' h => exact ⟨_, .cons (.l' h) hk, .refl _ _⟩
    | @c p =>
      cases hc : codeAt P f p with
      | seq x y =>
        have e0 : codeAt P f (p ++ [0]) = x := by rw [codeAt_append, hc]; cases x <;> rfl
        have e1 : codeAt P f (p ++ [1]) = y := by rw [codeAt_append, hc]; cases y <;> rfl
        have hs := nx_steps (b := b) (a := a) (cs := cs) (w := w) n (.c (p ++ [0]) :: .c (p ++ [1]) :: K) _ (.cons .c (.cons .c hk))
        rw [e0, e1] at hs
        obtain ⟨k', h1, h2⟩ := hs
        exact ⟨k', by simp only [nx, hc]; exact h1, .head step_seq h2⟩
      | skip =>
        obtain ⟨k', h1, h2⟩ := nx_steps n K k hk
        exact ⟨k', by simp only [nx, hc]; exact h1, .head step_skip h2⟩
      | block id x =>
        have e0 : codeAt P f (p ++ [0]) = x := by rw [codeAt_append, hc]; cases x <;> rfl
        have hs := nx_steps (b := b) (a := a) (cs := cs) (w := w) n (.c (p ++ [0]) :: .b id :: K) _ (.cons .c (.cons .b hk))
        rw [e0] at hs
        obtain ⟨k', h1, h2⟩ := hs
        exact ⟨k', by simp only [nx, hc]; exact h1, .head step_block h2⟩
      | loop x => exact ⟨.code (.loop x) :: k, by simp only [nx, hc]; exact .cons (.l' hc) hk, .refl _ _⟩
      | exit id =>
        cases hp : popTo id K with
        | none => exact ⟨.code (.exit id) :: k, by simp only [nx, hc, hp]; rw [← hc]; exact .cons .c hk, .refl _ _⟩
        | some K' =>
          obtain ⟨k1, h3, h4⟩ := popTo_conc hk hp
          obtain ⟨k', h1, h2⟩ := nx_steps n K' k1 h4
          exact ⟨k', by simp only [nx, hc, hp]; exact h1, .head (step_exit h3) h2⟩
      | _ => exact ⟨_, by simp only [nx, hc]; exact .cons .c hk, by rw [hc]; exact .refl _ _⟩
abbrev Env := List (Nat × V)
def eget : Env → Nat → V
  | [], _ => .un
  | (t', v) :: r, t => bif Nat.beq t' t then v else eget r t
/-- A region's print: the slots that are read later, the rows, what must hold, what is called. -/
structure Out where
  env : Env
  H : Hp
  ob : List Prop
  cals : List Cal
def ntOf (P : Program) (f : FuncId) : Nat := match P.funcs[f]? with
  | some fn => fn.ntmps
  | none => 0
def dstOk (nt : Nat) (o : Oper) : Bool := match o.dst with
  | some d => Nat.blt d nt
  | none => true
def areg (P : Program) (f : FuncId) (p : List Nat) (ks : List Nat) (hints : List Hint) (env : Env) (H : Hp) : Option Out := match codeAt P f p with
  | .region id ops draw => match reg P ops ((id + 1) * 256) ops.toList 0 hints (eget env) H with
    | some (e', H', Is) => bif (!draw || drawOk ops Is) && ops.toList.all (dstOk (ntOf P f)) then some ⟨ks.map fun t => (t, e' t), H', Is.flatMap (·.ob), Is.filterMap (·.cal)⟩ else none
    | none => none
  | _ => none
def condAt (P : Program) (f : FuncId) (p : List Nat) : Option Operand := match codeAt P f p with
  | .cond x _ _ => some x
  | _ => none
def loopAt (P : Program) (f : FuncId) (p : List Nat) : Bool := match codeAt P f p with
  | .loop _ => true
  | _ => false
def endAt (P : Program) (f : FuncId) : List It → Bool
  | [] => true
  | .c p :: _ => match codeAt P f p with
    | .ret => true
    | _ => false
  | _ => false
/-- The results, as the function's end reads them. -/
def resL (P : Program) (e : Nat → V) (h : Nat → Option (List V)) : List ResultVar → Option (List V × List Prop)
  | [] => some ([], [])
  | .tmp t :: r => match resL P e h r with
    | some (vs, ob) => some (e t :: vs, ob)
    | none => none
  | .cell a t :: r => match resL P e h r, e a with
    | some (vs, ob), .pt k off tot => bif mpk k then none else match h k with
      | some cs => bif (P.underlying t).isSome && (isAg P t || Nat.beq (P.cellsOf t) 1) then some (rdC P t (cs.drop off) :: vs, (tot = cs.length ∧ off + P.cellsOf t ≤ cs.length) :: ob) else none
      | none => none
    | _, _ => none
def resOf (P : Program) (f : FuncId) (e : Nat → V) (h : Nat → Option (List V)) : Option (V × List Prop) := match P.funcs[f]? with
  | some fn => match resL P e h fn.results.toList with
    | some ([v], ob) => some (v, ob)
    | some (vs, ob) => some (.tp vs, ob)
    | none => none
  | none => none
/-- Fewer rows, by other names (km), some of them told as values that nobody writes (fz). -/
structure Shr (H H2 : Hp) (pk fz : List Nat) (km : List (Nat × Nat)) : Prop where
  rows : ∀ k' cs2, hget H2 k' = some cs2 → ∃ k cs, (k, k') ∈ km ∧ hget H k = some cs ∧ cs2.length = cs.length ∧ (owk k' = true → owk k = true ∨ ∀ n sz ds, V.on n sz ds ∉ cs) ∧ ∀ i (h : i < cs.length) (h' : i < cs2.length), Cnv (hget H) false fz km cs[i] cs2[i] ∨ (cs[i] = .s (.slice none 0 0) ∧ ∃ z, cs2[i] = .on 0 z [])
  dom : ∀ k k', (k, k') ∈ km → (hget H2 k').isSome = true
  own : ∀ k k', (k, k') ∈ km → k = k' ∨ (k ∉ pk ∧ (opk k = true → opk k' = true) ∧ mpk k = mpk k')
  fz : ∀ k, k ∈ fz → (k ∉ pk ∧ opk k = false) ∧ ∀ k', (k, k') ∉ km
  pk : ∀ k, k ∈ pk → (hget H k).isSome = true → (k, k) ∈ km
  inj1 : ∀ k a b, (k, a) ∈ km → (k, b) ∈ km → a = b
  inj2 : ∀ k a b, (a, k) ∈ km → (b, k) ∈ km → a = b
theorem Shr.mp {H H2 : Hp} {pk fz : List Nat} {km : List (Nat × Nat)} (h : Shr H H2 pk fz km) {k k' : Nat} (hk : (k, k') ∈ km) : mpk k = mpk k' := by
  rcases h.own k k' hk with e | ⟨_, _, e⟩
  · rw [e]
  · exact e
/-- A value that leads to none of these rows. -/
inductive NQ (ks : List Nat) : V → Prop
  | s {v : Value} : NQ ks (.s v)
  | sl {t : Bool} {n sz : Nat} {cs : List V} : NQ ks (.sl t n sz cs)
  | ip {t : Bool} {cs : List V} : NQ ks (.ip t cs)
  | un : NQ ks .un
  | on {n sz : Nat} {cs : List V} : NQ ks (.on n sz cs)
  | pt {k off tot : Nat} (h : k ∉ ks) : NQ ks (.pt k off tot)
  | rf {k off n sz tot : Nat} (h : k ∉ ks) : NQ ks (.rf k off n sz tot)
  | ag {cs : List V} (h : ∀ v, v ∈ cs → NQ ks v) : NQ ks (.ag cs)
  | tp {cs : List V} (h : ∀ v, v ∈ cs → NQ ks v) : NQ ks (.tp cs)
  | fn {f : Fn} {a b : List V} (h : ∀ v, v ∈ a → NQ ks v) (h2 : ∀ v, v ∈ b → NQ ks v) : NQ ks (.fn f a b)
/-- Rows are dropped. -/
def drp (ks : List Nat) : Hp → Hp
  | [] => []
  | p :: r => bif ks.any (Nat.beq p.1) then drp ks r else p :: drp ks r
abbrev kid (H2 : Hp) : List (Nat × Nat) := H2.map fun p => (p.1, p.1)
def params : Nat → List V → Env
  | _, [] => []
  | i, v :: r => (i, v) :: params (i + 1) r
/-- The function has a text, and takes so many. -/
def fits (P : Program) (f : FuncId) (n : Nat) : Bool := match P.funcs[f]? with
  | some fn => fn.body.isSome && Nat.ble n fn.ntmps
  | none => false
inductive Jd where
  | call (f : FuncId) (args : List V) (hp : Hp) (res : V) (hp' : Hp)
  | run (f : FuncId) (pk : List Nat) (todo : List It) (env : Env) (H : Hp) (res : V) (hp' : Hp)
inductive J (P : Program) : Jd → Prop
  | call {f : FuncId} {args : List V} {hp hp' : Hp} {res : V} (hn : fits P f args.length = true)
      (h : J P (.run f (hp.map (·.1)) (nx P f 99 [.c []]) (params 0 args) hp res hp')) : J P (.call f args hp res hp')
  | lib {f : FuncId} {args : List V} {hp hp' : Hp} {res : V} (h : Spec P f args hp res hp') : J P (.call f args hp res hp')
  | cw {f : FuncId} {args : List V} {hp hp' hp2 : Hp} {res res2 : V} (fz : List Nat) (km : List (Nat × Nat)) (hs : Shr hp' hp2 (hp.map (·.1)) fz km) (hv : Cnv (hget hp') false fz km res res2) (h : J P (.call f args hp res hp')) : J P (.call f args hp res2 hp2)
  | reg {f : FuncId} {pk : List Nat} {p : List Nat} {K : List It} {env : Env} {H : Hp} {res : V} {hp' : Hp} (ks : List Nat) (hints : List Hint) (o : Out) (h : areg P f p ks hints env H = some o) (ho : AllP o.ob) (hc : ∀ C, C ∈ o.cals → J P (.call C.f C.args C.hp C.res C.hp'))
      (hr : J P (.run f pk (nx P f 99 K) o.env o.H res hp')) : J P (.run f pk (.c p :: K) env H res hp')
  | cond {f : FuncId} {pk : List Nat} {p : List Nat} {K : List It} {env : Env} {H : Hp} {res : V} {hp' : Hp} {x : Operand} (b : Bool) (hx : condAt P f p = some x) (hb : ev (eget env) x = .s (.bool b))
      (h : J P (.run f pk (nx P f 99 (.c (p ++ [bif b then 0 else 1]) :: K)) env H res hp')) : J P (.run f pk (.c p :: K) env H res hp')
  | loop {f : FuncId} {pk : List Nat} {p : List Nat} {K : List It} {env : Env} {H : Hp} {res : V} {hp' : Hp} (hl : loopAt P f p = true)
      (h : J P (.run f pk (nx P f 99 (.c (p ++ [0]) :: .l p :: K)) env H res hp')) : J P (.run f pk (.l p :: K) env H res hp')
  | nl {f : FuncId} {pk : List Nat} {K : List It} {env : Env} {H : Hp} {res : V} {hp' : Hp} (k : Nat) (hk : hget H k = none) (hpk : k ∉ pk) (h : J P (.run f pk K env ((k, []) :: H) res hp')) : J P (.run f pk K env H res hp')
  | wk {f : FuncId} {pk : List Nat} {K : List It} {env env2 : Env} {H H2 : Hp} {res : V} {hp' : Hp} (fz : List Nat) (km : List (Nat × Nat)) (hs : Shr H H2 pk fz km) (he : ∀ t v, (t, v) ∈ env2 → Cnv (hget H) false fz km (eget env t) v)
      (h : J P (.run f pk K env2 H2 res hp')) : J P (.run f pk K env H res hp')
  | op {f : FuncId} {pk : List Nat} {K : List It} {env : Env} {H : Hp} {res : V} {hp' : Hp} (q k i n z : Nat) (cs ds : List V) (hk : hget H k = some cs) (hi : cs[i]? = some (.on n z ds)) (hko : owk k = true) (hqo : opk q = true ∧ owk q = false) (hqm : mpk q = false) (hq : hget H q = none) (hqp : q ∉ pk)
      (h : J P (.run f pk K env ((k, cs.set i (.rf q 0 n z (n * z))) :: (q, ds) :: drp [k] H) res hp')) : J P (.run f pk K env H res hp')
  | cl {f : FuncId} {pk : List Nat} {K : List It} {env : Env} {H : Hp} {res : V} {hp' : Hp} (ks : List Nat) (q k i n z : Nat) (cs ds : List V) (hk : hget H k = some cs) (hq : hget H q = some ds) (hi : cs[i]? = some (.rf q 0 n z (n * z))) (hl : ds.length = n * z) (hds : ∀ v, v ∈ ds → ∃ y, v = .s y)
      (hqk : q ∈ ks) (hkk : k ∉ ks) (hks : ∀ x, x ∈ ks → x ∉ pk) (hko : owk k = true) (hqo : owk q = false) (hqm : mpk q = false) (he : ∀ t v, (t, v) ∈ env → NQ ks v) (hr : ∀ j cs', hget ((k, cs.set i (.on n z ds)) :: drp (k :: ks) H) j = some cs' → ∀ v, v ∈ cs' → NQ ks v)
      (h : J P (.run f pk K env ((k, cs.set i (.on n z ds)) :: drp (k :: ks) H) res hp')) : J P (.run f pk K env H res hp')
  | fin {f : FuncId} {pk : List Nat} {K : List It} {env : Env} {H : Hp} {res : V} {hp' : Hp} (fz : List Nat) (km : List (Nat × Nat)) (v : V) (ob : List Prop) (he : endAt P f K = true) (hr : resOf P f (eget env) (hget H) = some (v, ob)) (ho : AllP ob) (hs : Shr H hp' pk fz km)
      (hv : Cnv (hget H) false fz km v res) : J P (.run f pk K env H res hp')
end Go.Proofs.Ytpjmefdpjlhkhaa.Eng

/- The engine, part 19: what J tells, the machine does. -/
namespace Go.Proofs.Ytpjmefdpjlhkhaa.Eng
open Go.RowKit
set_option linter.unusedVariables false
set_option linter.unusedSimpArgs false
/-- What stays known of the rows pk. -/
structure ExtP (pk : List Nat) (c : Cx) (L : Nat → Option Nat) (w : World) (c' : Cx) (L' : Nat → Option Nat) (w' : World) : Prop where
  ok : ∀ t b, c.ok t b → c'.ok t b ∧ w'.heap[b]? = w.heap[b]?
  len : ∀ k l, k ∈ pk → L k = some l → ∃ l', L' k = some l' ∧ l ≤ l' ∧ (l' = l → c'.φ k = c.φ k ∧ c'.ph k = c.ph k)
theorem Ext.toP {c : Cx} {L : Nat → Option Nat} {w : World} {c' : Cx} {L' : Nat → Option Nat} {w' : World} (h : Ext c L w c' L' w') (pk : List Nat) : ExtP pk c L w c' L' w' := ⟨h.ok, fun k l _ hl => h.len k l hl⟩
theorem ExtP.trans {pk : List Nat} {c c' c'' : Cx} {L L' L'' : Nat → Option Nat} {w w' w'' : World} (h : ExtP pk c L w c' L' w') (h' : ExtP pk c' L' w' c'' L'' w'') : ExtP pk c L w c'' L'' w'' := by
  refine ⟨fun t b hb => ?_, fun k l hk hl => ?_⟩
  · obtain ⟨h1, h2⟩ := h.ok t b hb
    obtain ⟨h3, h4⟩ := h'.ok t b h1
    exact ⟨h3, h4.trans h2⟩
  · obtain ⟨l1, h1, h2, h3⟩ := h.len k l hk hl
    obtain ⟨l2, h4, h5, h6⟩ := h'.len k l1 hk h1
    refine ⟨l2, h4, by omega, fun e => ?_⟩
    have e1 : l1 = l := by omega
    obtain ⟨a, b⟩ := h6 (by omega)
    obtain ⟨a', b'⟩ := h3 e1
    exact ⟨a.trans a', b.trans b'⟩
/-- A run's end. -/
def SRun (P : Program) (f : FuncId) (pk : List Nat) (todo : List It) (env : Env) (H : Hp) (res : V) (hp' : Hp) : Prop :=
  ∀ (Ow : Nat → Nat → Prop) (N : Nat) (c : Cx) (w : World) (a : Act) (b : Frame) (items : List Item) (cs : List Frame), b.fn = f → b.kind = .normal → Conc P f todo items → Sim c (hget H) w Ow → (∀ t, R c (ln (hget H)) w (eget env t) (a.tmps.getD t undef)) →
    a.tmps.size = ntOf P f → a.defers = [] → (∀ k q, Ow k q → k ∉ pk → (opk k = false → N ≤ q) ∧ (opk k = true → ∀ j, opk j = true → Ow j q)) → (∀ k q, N ≤ q → Ow k q) → (N ≤ w.heap.size ∧ GL P w Ow) →
    ∃ x w' fr c', Steps P (lone (b.at a items) cs w) (lone fr cs w') ∧ fr.fn = f ∧ fr.leaving P w' (.returned x) ∧ R c' (ln (hget hp')) w' res x ∧ Sim c' (hget hp') w' Ow ∧ ExtP pk c (ln (hget H)) w c' (ln (hget hp')) w' ∧ Keep Ow w w' ∧ ∀ t q, c'.ok t q → c.ok t q ∨ (N ≤ q ∧ c'.ok false q)
theorem allP_mem : ∀ {l : List Prop}, AllP l → ∀ p, p ∈ l → p
  | q :: r, h, p, hp => by
    obtain ⟨h1, h2⟩ := allP_cons h
    rcases List.mem_cons.1 hp with e | hp
    · rw [e]; exact h1
    · exact allP_mem h2 p hp
theorem allP_of : ∀ {l : List Prop}, (∀ p, p ∈ l → p) → AllP l
  | [], _ => trivial
  | [p], h => h p (by simp)
  | p :: q :: r, h => ⟨h p (by simp), allP_of fun x hx => h x (List.mem_cons_of_mem _ hx)⟩
section
variable {P : Program}
theorem srun_nx {f : FuncId} {pk : List Nat} {todo : List It} {env : Env} {H : Hp} {res : V} {hp' : Hp} (n : Nat) (h : SRun P f pk (nx P f n todo) env H res hp') : SRun P f pk todo env H res hp' := by
  intro Ow N c w a b items cs h1 h2 hc hs he hsz hd hO hF hN
  obtain ⟨k', h3, h4⟩ := nx_steps (b := b) (a := a) (cs := cs) (w := w) n todo items hc
  obtain ⟨x, w', fr, c', g1, g2⟩ := h Ow N c w a b k' cs h1 h2 h3 hs he hsz hd hO hF hN
  exact ⟨x, w', fr, c', h4.trans g1, g2⟩
theorem countP_rep (n : Nat) : ((Array.replicate n false).toList.countP (· == false)) = n := by
  rw [Array.toList_replicate]
  induction n with
  | zero => rfl
  | succ n ih => rw [List.replicate_succ, List.countP_cons_of_pos (by rfl), ih]
theorem srun_reg {f : FuncId} {pk : List Nat} {p : List Nat} {K : List It} {env : Env} {H : Hp} {res : V} {hp' : Hp} {ks : List Nat} {hints : List Hint} {o : Out} (hm : P.follows .mixedOrders = true) (h : areg P f p ks hints env H = some o) (ho : AllP o.ob) (hc : ∀ C, C ∈ o.cals → Spec P C.f C.args C.hp C.res C.hp')
    (hr : SRun P f pk K o.env o.H res hp') : SRun P f pk (.c p :: K) env H res hp' := by
  intro Ow N c w a b items cs h1 h2 hcon hs he hsz hd hO hF hN
  cases hcon with
  | cons hi hk =>
    rename_i k
    cases hi
    unfold areg at h
    split at h
    · rename_i id ops draw hcode
      split at h
      · rename_i e' H' Is hreg
        cases hb : ((!draw || drawOk ops Is) && ops.toList.all (dstOk (ntOf P f))) with
        | false => rw [hb] at h; cases h
        | true =>
          rw [hb] at h
          simp only [cond_true, Option.some.injEq] at h
          subst h
          rw [Bool.and_eq_true] at hb
          have hdst : ∀ o, o ∈ ops.toList → ∀ d, o.dst = some d → d < ntOf P f := by
            intro o hmem d hd
            have := List.all_eq_true.1 hb.2 o hmem
            unfold dstOk at this
            rw [hd] at this
            exact Nat.le_of_ble_eq_true this
          have hob : ∀ I, I ∈ Is → AllP I.ob := fun I hI => allP_of fun q hq => allP_mem ho q (List.mem_flatMap.2 ⟨I, hI, hq⟩)
          have hcal : ∀ I, I ∈ Is → ∀ C, I.cal = some C → Spec P C.f C.args C.hp C.res C.hp' := fun I hI C hC => hc C (List.mem_filterMap.2 ⟨I, hI, hC⟩)
          have hwp : ∀ (w1 : World), Sim c (hget H) w1 Ow → Ext c (ln (hget H)) w c (ln (hget H)) w1 → Keep Ow w w1 → (Code.region id ops draw).wp P (fun ex a' w' => ex = .normal ∧ ∃ c', Inv Ow c (hget H) w (ntOf P f) [] e' (hget H') c' a' w') a w → ∃ a' w' c', Steps P (lone (b.at a (.code (.region id ops draw) :: k)) cs w) (lone (b.at a' k) cs w') ∧ Inv Ow c (hget H) w (ntOf P f) [] e' (hget H') c' a' w' := by
            intro w1 _ _ _ hw
            obtain ⟨ex, a', w', ⟨rfl, c', hinv⟩, harr⟩ := hw b k cs
            exact ⟨a', w', c', harr, hinv⟩
          have hI0 : ∀ (w1 : World), Sim c (hget H) w1 Ow → Ext c (ln (hget H)) w c (ln (hget H)) w1 → Keep Ow w w1 → ∀ q : Nat → Bool, (∀ j, j < ops.toList.length → q j = false) → Inv Ow c (hget H) w (ntOf P f) [] (eA ops Is (eget env) q) (hA Is H q) c a w1 := by
            intro w1 s1 s2 s3 q hq
            obtain ⟨b1, _⟩ := reg_at _ _ _ _ _ _ _ _ hreg
            have e1 : eA ops Is (eget env) q = eget env := att_none_all _ _ _ _ (fun j hj => by rw [Nat.zero_add]; exact hq j (by simp at hj; simp; omega))
            have e2 : hA Is H q = hget H := att_none_all _ _ _ _ (fun j hj => by rw [Nat.zero_add]; exact hq j (by simp only [List.length_map] at hj; omega))
            rw [e1, e2]
            exact ⟨s1, fun t => (he t).ext s2, s2, s3, fun t b h => .inl h, hsz, hd⟩
          have hgo : ∃ a' w' c', Steps P (lone (b.at a (.code (.region id ops draw) :: k)) cs w) (lone (b.at a' k) cs w') ∧ Inv Ow c (hget H) w (ntOf P f) [] e' (hget H') c' a' w' := by
            cases draw with
            | false =>
              refine hwp w hs (Ext.refl _ _ _) (Keep.refl _ _) (wp_region ?_)
              rw [List.range_eq_range']
              exact reg_seq hreg hob hcal hN.2 hdst (fun c' a' w' hinv => ⟨rfl, c', hinv⟩) ops.size 0 c a w (by simp) (hI0 w hs (Ext.refl _ _ _) (Keep.refl _ _) _ (fun j _ => by simp))
            | true =>
              have hdr : drawOk ops Is = true := by simpa using hb.1
              obtain ⟨s2, s1⟩ := hs.on (w' := w.drew) (fun _ _ => rfl) (Nat.le_refl _)
              have s3 : Keep Ow w w.drew := ⟨rfl, rfl, rfl, Nat.le_refl _, fun _ _ => rfl⟩
              refine hwp w.drew s1 s2 s3 (wp_region_any hm ?_)
              have hf : (fun j => (Array.replicate ops.size false).getD j false) = fun _ => false := by
                funext j
                simp only [Array.getD_eq_getD_getElem?, Array.getElem?_replicate]
                split <;> rfl
              refine reg_any hreg hob hcal hN.2 hdst hdr (fun c' a' w' hinv => ⟨rfl, c', hinv⟩) ops.size (Array.replicate ops.size false) c a w.drew (by simp) (countP_rep _) (fun j _ hj => ?_) ?_
              · rw [congrFun hf j] at hj; cases hj
              · rw [hf]; exact hI0 w.drew s1 s2 s3 _ (fun _ _ => rfl)
          obtain ⟨a', w', c', st, hinv⟩ := hgo
          have henv : ∀ t, R c' (ln (hget H')) w' (eget (ks.map fun t => (t, e' t)) t) (a'.tmps.getD t undef) := by
            intro t
            have : ∀ ks : List Nat, eget (ks.map fun t => (t, e' t)) t = e' t ∨ eget (ks.map fun t => (t, e' t)) t = .un := by
              intro ks
              induction ks with
              | nil => exact .inr rfl
              | cons s r ih =>
                by_cases e : s = t
                · subst e; left; simp [eget]
                · simp only [List.map_cons, eget, nbeq e, cond_false]; exact ih
            rcases this ks with h | h
            · rw [h]; exact hinv.env t
            · rw [h]; exact .i .un
          obtain ⟨x, w2, fr, c2, g1, g2, g3, g4, g5, g6, g7, g8⟩ := hr Ow N c' w' a' b k cs h1 h2 hk hinv.sim henv hinv.sz hinv.df hO hF ⟨by have := hinv.keep.size; have := hN.1; omega, hN.2.keep hinv.keep⟩
          refine ⟨x, w2, fr, c2, ?_, g2, g3, g4, g5, (hinv.ext.toP pk).trans g6, hinv.keep.trans g7, fun t q hq => ?_⟩
          · rw [hcode]; exact st.trans g1
          · rcases g8 t q hq with h | h
            · rcases hinv.okk t q h with h | ⟨h, h'⟩
              · exact .inl h
              · exact .inr ⟨by have := hN.1; omega, (g6.ok false q h').1⟩
            · exact .inr h
      · cases h
    · cases h
theorem srun_cond {f : FuncId} {pk : List Nat} {p : List Nat} {K : List It} {env : Env} {H : Hp} {res : V} {hp' : Hp} {x : Operand} (b : Bool) (hx : condAt P f p = some x) (hb : ev (eget env) x = .s (.bool b)) (h : SRun P f pk (.c (p ++ [bif b then 0 else 1]) :: K) env H res hp') : SRun P f pk (.c p :: K) env H res hp' := by
  intro Ow N c w a fr items cs h1 h2 hcon hs he hsz hd hO hF hN
  cases hcon with
  | cons hi hk =>
    rename_i k
    cases hi
    unfold condAt at hx
    split at hx
    · rename_i y u v hcode
      injection hx with hx
      subst hx
      have hv := ev_rel he y
      rw [hb] at hv
      have e0 : codeAt P f (p ++ [bif b then 0 else 1]) = if b then u else v := by
        rw [codeAt_append, hcode]
        cases b
        · cases v <;> rfl
        · cases u <;> rfl
      have hcc : Conc P f (.c (p ++ [bif b then 0 else 1]) :: K) (.code (if b then u else v) :: k) := by
        rw [← e0]; exact .cons .c hk
      obtain ⟨x, w2, fr2, c2, g1, g2⟩ := h Ow N c w a fr _ cs h1 h2 hcc hs he hsz hd hO hF hN
      refine ⟨x, w2, fr2, c2, ?_, g2⟩
      rw [hcode]
      exact .head (step_cond hv.s_inv.1) g1
    · cases hx
theorem srun_loop {f : FuncId} {pk : List Nat} {p : List Nat} {K : List It} {env : Env} {H : Hp} {res : V} {hp' : Hp} (h : SRun P f pk (.c (p ++ [0]) :: .l p :: K) env H res hp') : SRun P f pk (.l p :: K) env H res hp' := by
  intro Ow N c w a fr items cs h1 h2 hcon hs he hsz hd hO hF hN
  cases hcon with
  | cons hi hk =>
    rename_i k
    have main : ∀ u, codeAt P f p = .loop u → ∃ x w' fr' c', Steps P (lone (fr.at a (.code u :: .inLoop u :: k)) cs w) (lone fr' cs w') ∧ fr'.fn = f ∧ fr'.leaving P w' (.returned x) ∧ R c' (ln (hget hp')) w' res x ∧ Sim c' (hget hp') w' Ow ∧ ExtP pk c (ln (hget H)) w c' (ln (hget hp')) w' ∧ Keep Ow w w' ∧ ∀ t q, c'.ok t q → c.ok t q ∨ (N ≤ q ∧ c'.ok false q) := by
      intro u hu
      have e0 : codeAt P f (p ++ [0]) = u := by rw [codeAt_append, hu]; cases u <;> rfl
      have hcc : Conc P f (.c (p ++ [0]) :: .l p :: K) (.code u :: .inLoop u :: k) := by
        have := Conc.cons (Cit.c (P := P) (f := f) (p := p ++ [0])) (Conc.cons (Cit.l hu) hk)
        rw [e0] at this
        exact this
      exact h Ow N c w a fr _ cs h1 h2 hcc hs he hsz hd hO hF hN
    cases hi with
    | l hu => obtain ⟨x, w2, fr2, c2, g1, g2⟩ := main _ hu; exact ⟨x, w2, fr2, c2, .head step_inLoop g1, g2⟩
    | l' hu => obtain ⟨x, w2, fr2, c2, g1, g2⟩ := main _ hu; exact ⟨x, w2, fr2, c2, .head step_loop g1, g2⟩
/-- Fewer rows: what is known stays known of the rest. -/
theorem shr_sound {c : Cx} {w : World} {H H2 : Hp} {pk fz : List Nat} {km : List (Nat × Nat)} {Ow : Nat → Nat → Prop} {N : Nat} (hs : Sim c (hget H) w Ow) (hh : Shr H H2 pk fz km) (hO : ∀ k q, Ow k q → k ∉ pk → (opk k = false → N ≤ q) ∧ (opk k = true → ∀ j, opk j = true → Ow j q)) (hF : ∀ k q, N ≤ q → Ow k q) :
    ∃ c2 : Cx, Sim c2 (hget H2) w Ow ∧ (∀ v v' x, Cnv (hget H) false fz km v v' → R c (ln (hget H)) w v x → R c2 (ln (hget H2)) w v' x) ∧ ExtP pk c (ln (hget H)) w c2 (ln (hget H2)) w ∧ ∀ t q, c2.ok t q → c.ok t q ∨ (N ≤ q ∧ c2.ok false q) := by
  obtain ⟨c2, hc2⟩ : ∃ c2 : Cx, c2 = { φ := fun j => match byCallee km j with | some k => c.φ k | none => none, ph := fun j => match byCallee km j with | some k => c.ph k | none => 0, ok := fun t b => c.ok t b ∨ ∃ k, k ∈ fz ∧ (hget H k).isSome = true ∧ c.φ k = some b, ψ := fun j i => match byCallee km j with | some k => (match hget H k with | some cs => (match cs[i]? with | some (.on _ _ _) => c.ψ k i | _ => none) | none => none) | none => none } := ⟨_, rfl⟩
  have hφ : ∀ k k', (k, k') ∈ km → c2.φ k' = c.φ k ∧ c2.ph k' = c.ph k := by
    intro k k' h
    obtain ⟨k2, h2⟩ := byCallee_some h
    have := hh.inj2 _ _ _ (byCallee_mem h2) h
    subst this hc2
    simp [h2]
  have hψ : ∀ k k' cs i, (k, k') ∈ km → hget H k = some cs → c2.ψ k' i = match cs[i]? with | some (.on _ _ _) => c.ψ k i | _ => none := by
    intro k k' cs i h hc
    obtain ⟨k2, h2⟩ := byCallee_some h
    have := hh.inj2 _ _ _ (byCallee_mem h2) h
    subst this hc2
    simp [h2, hc]
  have hok : ∀ t b, c2.ok t b ↔ (c.ok t b ∨ ∃ k, k ∈ fz ∧ (hget H k).isSome = true ∧ c.φ k = some b) := by intro t b; rw [hc2]
  have hok1 : ∀ t t' b, c.ok t b → (t = true → t' = true) → c2.ok t' b := by
    intro t t' b h1 h2
    refine (hok _ _).2 (.inl ?_)
    cases t with
    | true => rw [h2 rfl]; exact h1
    | false => cases t' with
      | false => exact h1
      | true => exact hs.mono b h1
  have hrow : ∀ k k', (k, k') ∈ km → ∃ cs cs2, hget H k = some cs ∧ hget H2 k' = some cs2 ∧ cs2.length = cs.length ∧ (owk k' = true → owk k = true ∨ ∀ n sz ds, V.on n sz ds ∉ cs) ∧ ∀ i (h : i < cs.length) (h' : i < cs2.length), Cnv (hget H) false fz km cs[i] cs2[i] ∨ (cs[i] = .s (.slice none 0 0) ∧ ∃ z, cs2[i] = .on 0 z []) := by
    intro k k' h
    obtain ⟨cs2, h2⟩ := Option.isSome_iff_exists.1 (hh.dom k k' h)
    obtain ⟨k0, cs, h3, h4, h5, h6⟩ := hh.rows k' cs2 h2
    have := hh.inj2 _ _ _ h3 h
    subst this
    exact ⟨cs, cs2, h4, h2, h5, h6⟩
  have hln : ∀ k k', (k, k') ∈ km → ln (hget H2) k' = ln (hget H) k ∧ c2.φ k' = c.φ k ∧ c2.ph k' = c.ph k ∧ mpk k = mpk k' := by
    intro k k' h
    obtain ⟨cs, cs2, h1, h2, h3, _⟩ := hrow k k' h
    exact ⟨by simp [ln, h1, h2, h3], (hφ k k' h).1, (hφ k k' h).2, hh.mp h⟩
  have hcv : ∀ v v' x, Cnv (hget H) false fz km v v' → R c (ln (hget H)) w v x → R c2 (ln (hget H2)) w v' x := fun v v' x h1 h2 =>
    h1.sound hs h2 hok1 (fun k b h3 h4 h5 => (hok _ _).2 (.inr ⟨k, h3, h4, h5⟩)) (fun k i m z ds b h3 ⟨_, _, h4, _⟩ _ => by have := (hh.fz k h3).1.2; rw [opk_of h4] at this; cases this) hln
  have hnot : ∀ k k' b, (k, k') ∈ km → c.φ k = some b → ∀ t, ¬ c2.ok t b := by
    intro k k' b h1 h2 t ht
    obtain ⟨cs, cs2, h3, _⟩ := hrow k k' h1
    rcases (hok _ _).1 ht with h | ⟨k2, h4, h5, h6⟩
    · exact (hs.own k cs b h3 h2).2 t h
    · obtain ⟨cs3, h7⟩ := Option.isSome_iff_exists.1 h5
      have := hs.inj k k2 cs cs3 b h3 h7 h2 h6
      subst this
      exact (hh.fz k h4).2 k' h1
  have hsrc : ∀ k' cs2, hget H2 k' = some cs2 → ∃ k, (k, k') ∈ km := fun k' cs2 h => by
    obtain ⟨k, _, h1, _⟩ := hh.rows k' cs2 h
    exact ⟨k, h1⟩
  refine ⟨c2, ⟨?_, ?_, ?_, ?_, hs.fresh, ?_, ?_⟩, hcv, ⟨?_, ?_⟩, ?_⟩
  · intro k' cs2 h1
    obtain ⟨k, cs, hk, h2, h3, _, h4⟩ := hh.rows k' cs2 h1
    obtain ⟨e1, e2⟩ := hφ k k' hk
    rcases hs.obj k cs h2 with ⟨z1, z2⟩ | ⟨b, arr, ty, hO⟩
    · subst z1; exact .inl ⟨List.eq_nil_of_length_eq_zero h3, e1.trans z2⟩
    exact .inr ⟨b, arr, ty, e1.trans hO.at_, hO.blk.key (hh.mp hk), hO.ph.trans e2.symm, by have := hO.len; omega, fun i hi => hO.one i (by omega), fun i hi => by
      rcases h4 i (by omega) hi with g | ⟨_, z, g⟩
      · exact hcv _ _ _ g (hO.rel i (by omega))
      · rw [g]; exact .i .on⟩
  · intro k' cs2 b h1 h2
    obtain ⟨k, hk⟩ := hsrc k' cs2 h1
    rw [(hφ k k' hk).1] at h2
    obtain ⟨cs, _, h3, _⟩ := hrow k k' hk
    have ho := (hs.own k cs b h3 h2).1
    refine ⟨?_, hnot k k' b hk h2⟩
    rcases hh.own k k' hk with e | ⟨e, e'⟩
    · exact e ▸ ho
    · cases hq : opk k with
      | false => exact hF _ _ ((hO _ _ ho e).1 hq)
      | true => exact (hO _ _ ho e).2 hq k' (e'.1 hq)
  · intro j j' cs cs' b h1 h2 h3 h4
    obtain ⟨k, hk⟩ := hsrc j cs h1
    obtain ⟨k2, hk2⟩ := hsrc j' cs' h2
    rw [(hφ k j hk).1] at h3
    rw [(hφ k2 j' hk2).1] at h4
    obtain ⟨ca, _, h5, _⟩ := hrow _ _ hk
    obtain ⟨cb, _, h6, _⟩ := hrow _ _ hk2
    have := hs.inj k k2 ca cb b h5 h6 h3 h4
    subst this
    exact hh.inj1 _ _ _ hk hk2
  · intro t b hb
    rcases (hok _ _).1 hb with h | ⟨k2, h4, h5, h6⟩
    · exact hs.okb t b h
    · obtain ⟨cs3, h7⟩ := Option.isSome_iff_exists.1 h5
      exact hs.lt h7 h6
  · intro b hb
    rcases (hok _ _).1 hb with h | h
    · exact (hok _ _).2 (.inl (hs.mono b h))
    · exact (hok _ _).2 (.inr h)
  · refine hs.nest.go (fun k k' => (k, k') ∈ km) (fun k' i n sz ds hst => ?_) (fun k a b h1 h2 => hh.inj1 _ _ _ h1 h2) (fun k i n sz ds b hst hb _ => ?_)
    · obtain ⟨cs2, h1, h2, h3⟩ := hst
      obtain ⟨k, cs, hk, g1, g2, g3, g4⟩ := hh.rows k' cs2 h1
      obtain ⟨hi, h4⟩ := List.getElem?_eq_some_iff.1 h3
      have hi' : i < cs.length := by omega
      have hobj : ∃ b arr ty, Obj c (ln (hget H)) w k cs b arr ty := (hs.obj k cs g1).resolve_left (fun e => by rw [e.1] at hi'; simp at hi')
      obtain ⟨b0, arr0, ty0, hO0⟩ := hobj
      have hval : c2.ψ k' i = match cs[i]? with | some (.on _ _ _) => c.ψ k i | _ => none := hψ k k' cs i hk g1
      rcases g4 i hi' hi with g | ⟨g, z, g'⟩
      · rw [h4] at g
        have g5 := g.on_inv
        have hcs : cs[i]? = some (.on n sz ds) := by rw [List.getElem?_eq_getElem hi', g5]
        have how : owk k = true := by
          rcases g3 h2 with e | e
          · exact e
          · exact absurd (List.mem_of_getElem? hcs) (e n sz ds)
        exact .inl ⟨k, hk, ⟨cs, g1, how, hcs⟩, by rw [hval, hcs], fun b arr ty hb hbk => ⟨b, arr, ty, (hφ k k' hk).1.trans hb, hbk, rfl⟩⟩
      · have hcs : cs[i]? = some (.s (.slice none 0 0)) := by rw [List.getElem?_eq_getElem hi', g]
        rw [h4] at g'
        injection g' with e1 e2 e3
        subst e1 e3
        refine .inr ⟨by rw [hval, hcs], b0, arr0, ty0, (hφ k k' hk).1.trans hO0.at_, hO0.blk.cells ((hh.mp hk).trans (mpk_ow h2)), .inl ⟨rfl, rfl, rfl, ?_⟩⟩
        have := hO0.rel i hi'
        rw [g] at this
        exact this.s_inv.1
    · obtain ⟨o1, o2, o3⟩ := hs.nest.own k i n sz ds b hst hb
      refine ⟨rfl, o1, fun t ht => ?_, fun k2' cs2 g1 g2 => ?_⟩
      · rcases (hok _ _).1 ht with h | ⟨k2, h4, h5, h6⟩
        · exact o2 t h
        · obtain ⟨cs3, h7⟩ := Option.isSome_iff_exists.1 h5
          exact o3 k2 cs3 h7 h6
      · obtain ⟨k2, hk2⟩ := hsrc k2' cs2 g1
        rw [(hφ k2 k2' hk2).1] at g2
        obtain ⟨cs3, _, h7, _⟩ := hrow k2 k2' hk2
        exact o3 k2 cs3 h7 g2
  · intro t b hb
    exact ⟨(hok _ _).2 (.inl hb), rfl⟩
  · intro k l hk hl
    have h1 : (hget H k).isSome = true := by
      unfold ln at hl
      cases hq : hget H k with
      | none => rw [hq] at hl; cases hl
      | some _ => rfl
    have h2 := hh.pk k hk h1
    obtain ⟨e1, e2, e3, _⟩ := hln k k h2
    exact ⟨l, e1.trans hl, Nat.le_refl _, fun _ => ⟨e2, e3⟩⟩
  · intro t b hb
    rcases (hok _ _).1 hb with h | ⟨k, h4, h5, h6⟩
    · exact .inl h
    · obtain ⟨cs3, h7⟩ := Option.isSome_iff_exists.1 h5
      exact .inr ⟨(hO k b (hs.own k cs3 b h7 h6).1 (hh.fz k h4).1.1).1 (hh.fz k h4).1.2, (hok _ _).2 (.inr ⟨k, h4, h5, h6⟩)⟩
theorem srun_wk {f : FuncId} {pk fz : List Nat} {km : List (Nat × Nat)} {K : List It} {env env2 : Env} {H H2 : Hp} {res : V} {hp' : Hp} (hh : Shr H H2 pk fz km) (hv : ∀ t v, (t, v) ∈ env2 → Cnv (hget H) false fz km (eget env t) v) (h : SRun P f pk K env2 H2 res hp') : SRun P f pk K env H res hp' := by
  intro Ow N c w a fr items cs h1 h2 hcon hs he hsz hd hO hF hN
  obtain ⟨c2, s1, s2, s3, s4⟩ := shr_sound hs hh hO hF
  have henv : ∀ t, R c2 (ln (hget H2)) w (eget env2 t) (a.tmps.getD t undef) := by
    intro t
    have : ∀ e : Env, (∀ v, eget e t = v → v = .un ∨ (t, v) ∈ e) := by
      intro e
      induction e with
      | nil => intro v hv; exact .inl hv.symm
      | cons q r ih =>
        obtain ⟨t', v'⟩ := q
        intro v hv
        by_cases e1 : t' = t
        · subst e1
          simp [eget] at hv
          subst hv
          exact .inr (by simp)
        · simp only [eget, nbeq e1, cond_false] at hv
          rcases ih v hv with h | h
          · exact .inl h
          · exact .inr (List.mem_cons_of_mem _ h)
    rcases this env2 _ rfl with h | h
    · rw [h]; exact .i .un
    · exact s2 _ _ _ (hv t _ h) (he t)
  obtain ⟨x, w2, fr2, c3, g1, g2, g3, g4, g5, g6, g7, g8⟩ := h Ow N c2 w a fr items cs h1 h2 hcon s1 henv hsz hd hO hF hN
  refine ⟨x, w2, fr2, c3, g1, g2, g3, g4, g5, s3.trans g6, g7, fun t q hq => ?_⟩
  rcases g8 t q hq with h | h
  · rcases s4 t q h with h | ⟨h, h'⟩
    · exact .inl h
    · exact .inr ⟨h, (g6.ok false q h').1⟩
  · exact .inr h
/-- A row that is there already, and is empty. -/
theorem srun_nl {f : FuncId} {pk : List Nat} {K : List It} {env : Env} {H : Hp} {res : V} {hp' : Hp} (k : Nat) (hk : hget H k = none) (hpk : k ∉ pk) (h : SRun P f pk K env ((k, []) :: H) res hp') : SRun P f pk K env H res hp' := by
  intro Ow N c w a fr items cs h1 h2 hcon hs he hsz hd hO hF hN
  have hup : hget ((k, []) :: H) = upd (hget H) (some (k, [])) := by
    funext j
    by_cases e : k = j
    · subst e; simp [hget, upd]
    · simp only [hget, nbeq e, cond_false, upd, if_neg e]
  obtain ⟨c2, hE, hs2, hok⟩ := hs.nl hk
  rw [← hup] at hE hs2
  obtain ⟨x, w2, fr2, c3, g1, g2, g3, g4, g5, g6, g7, g8⟩ := h Ow N c2 w a fr items cs h1 h2 hcon hs2 (fun t => (he t).ext hE) hsz hd hO hF hN
  exact ⟨x, w2, fr2, c3, g1, g2, g3, g4, g5, (hE.toP pk).trans g6, g7, fun t q hq => by rw [← hok]; exact g8 t q hq⟩
theorem hget_drp (ks : List Nat) : ∀ (H : Hp) (j : Nat), hget (drp ks H) j = if j ∈ ks then none else hget H j
  | [], j => by simp [drp, hget]
  | (k, cs) :: r, j => by
    have ih := hget_drp ks r j
    by_cases hk : k ∈ ks
    · have e : (ks.any (Nat.beq k)) = true := List.any_eq_true.2 ⟨k, hk, Nat.beq_refl k⟩
      simp only [drp, e, cond_true]
      rw [ih]
      by_cases hj : j ∈ ks
      · simp [hj]
      · have : ¬ k = j := fun q => hj (q ▸ hk)
        simp [hj, hget, nbeq this]
    · have e : (ks.any (Nat.beq k)) = false := by
        rw [List.any_eq_false]
        intro x hx g
        have := Nat.eq_of_beq_eq_true g
        exact hk (this ▸ hx)
      simp only [drp, e, cond_false]
      by_cases q : k = j
      · subst q; simp [hget, hk]
      · simp only [hget, nbeq q, cond_false, ih]
theorem R.nq {ks : List Nat} {c c' : Cx} {L L' : Nat → Option Nat} {w : World} {v : V} {x : Value} (h : R c L w v x) (hok : c'.ok = c.ok) (hL : ∀ k, k ∉ ks → L' k = L k ∧ c'.φ k = c.φ k ∧ c'.ph k = c.ph k) : NQ ks v → R c' L' w v x := by
  induction h with
  | i h => intro _; exact .i (h.ext fun t b hb => ⟨by rw [hok]; exact hb, rfl⟩)
  | pt hl ht h =>
    intro hq
    cases hq with
    | pt hk =>
      obtain ⟨e1, e2, e3⟩ := hL _ hk
      exact .pt (e1.trans hl) ht (fun e => e2.trans (h e))
  | rf hl ht hn h =>
    intro hq
    cases hq with
    | rf hk =>
      obtain ⟨e1, e2, e3⟩ := hL _ hk
      exact .rf (e1.trans hl) ht hn (fun e => ⟨e2.trans (h e).1, by rw [e3]; exact (h e).2⟩)
  | rf0 hl =>
    intro hq
    cases hq with
    | rf hk => exact .rf0 ((hL _ hk).1.trans hl)
  | ag hs ho _ ih =>
    intro hq
    cases hq with
    | ag hk => exact .ag hs ho (fun i hi => ih i hi (hk _ (List.getElem_mem hi)))
  | tp hs _ ih =>
    intro hq
    cases hq with
    | tp hk => exact .tp hs (fun i hi => ih i hi (hk _ (List.getElem_mem hi)))
  | fn h1 h2 _ _ i1 i2 =>
    intro hq
    cases hq with
    | fn ha hb => exact .fn h1 h2 (fun i hi => i1 i hi (ha _ (List.getElem_mem hi))) (fun i hi => i2 i hi (hb _ (List.getElem_mem hi)))
/-- A slice that a cell alone leads to becomes a row of its own. -/
theorem srun_op {f : FuncId} {pk : List Nat} {K : List It} {env : Env} {H : Hp} {res : V} {hp' : Hp} (q k i n z : Nat) (cs ds : List V) (hk : hget H k = some cs) (hi : cs[i]? = some (.on n z ds)) (hko : owk k = true) (hqo : opk q = true ∧ owk q = false) (hqm : mpk q = false) (hq : hget H q = none) (hqp : q ∉ pk)
    (h : SRun P f pk K env ((k, cs.set i (.rf q 0 n z (n * z))) :: (q, ds) :: drp [k] H) res hp') : SRun P f pk K env H res hp' := by
  intro Ow N c w a fr items fs h1 h2 hcon hs he hsz hd hO hF hN
  have hqk : q ≠ k := fun e => by rw [e, hko] at hqo; cases hqo.2
  have hst : Nst (hget H) k i n z ds := ⟨cs, hk, hko, hi⟩
  obtain ⟨b0, arr0, ty0, e1, e2, e3⟩ := hs.nest.obj k i n z ds hst
  obtain ⟨hil, hcv⟩ := List.getElem?_eq_some_iff.1 hi
  obtain ⟨H', hH'⟩ : ∃ H' : Hp, H' = (k, cs.set i (.rf q 0 n z (n * z))) :: (q, ds) :: drp [k] H := ⟨_, rfl⟩
  have gk : hget H' k = some (cs.set i (.rf q 0 n z (n * z))) := by rw [hH']; simp [hget]
  have gq : hget H' q = some ds := by rw [hH']; simp only [hget, nbeq (fun e : k = q => hqk e.symm), cond_false, Nat.beq_refl, cond_true]
  have go : ∀ j, j ≠ k → j ≠ q → hget H' j = hget H j := by
    intro j h1 h2
    rw [hH']
    simp only [hget, nbeq (fun e : k = j => h1 e.symm), nbeq (fun e : q = j => h2 e.symm), cond_false, hget_drp, List.mem_singleton, if_neg h1]
  obtain ⟨ph0, hph0⟩ : ∃ m : Nat, ∀ b cap arr ty, c.ψ k i = some b → arr0.getD i undef = .slice (some ⟨b, 0, none⟩) n cap → w.heap[b]? = some (.cells arr ty (0, 0)) → m = arr.size := by
    rcases e3 with ⟨q1, _⟩ | ⟨b, cap, arr, ty, q1, q2, q3, _⟩
    · exact ⟨0, fun b cap arr ty hb => by rw [q1] at hb; cases hb⟩
    · refine ⟨arr.size, fun b' cap' arr' ty' hb _ hbk => ?_⟩
      rw [q1] at hb
      injection hb with hb
      subst hb
      rw [q3] at hbk
      injection hbk with hbk
      injection hbk with hbk
      rw [hbk]
  obtain ⟨c2, hc2⟩ : ∃ c2 : Cx, c2 = { φ := fun j => if q = j then c.ψ k i else c.φ j, ph := fun j => if q = j then ph0 else c.ph j, ok := c.ok, ψ := c.ψ } := ⟨_, rfl⟩
  have hφq : c2.φ q = c.ψ k i := by rw [hc2]; simp
  have hφo : ∀ j, j ≠ q → c2.φ j = c.φ j ∧ c2.ph j = c.ph j := by intro j hj; rw [hc2]; exact ⟨if_neg (fun e => hj e.symm), if_neg (fun e => hj e.symm)⟩
  have hphq : c2.ph q = ph0 := by rw [hc2]; simp
  have hok : c2.ok = c.ok := by rw [hc2]
  have hψ : c2.ψ = c.ψ := by rw [hc2]
  have hE : Ext c (ln (hget H)) w c2 (ln (hget H')) w := by
    refine ⟨fun t b hb => ⟨by rw [hok]; exact hb, rfl⟩, fun j l hl => ?_⟩
    by_cases ek : j = k
    · subst ek
      refine ⟨l, ?_, Nat.le_refl _, fun _ => hφo j (fun e => hqk e.symm)⟩
      rw [ln_some hk] at hl
      rw [ln_some gk, List.length_set]; exact hl
    · by_cases eq : j = q
      · subst eq
        simp [ln, hq] at hl
      · refine ⟨l, ?_, Nat.le_refl _, fun _ => hφo j eq⟩
        unfold ln at hl ⊢
        rw [go j ek eq]; exact hl
  have hrf : R c2 (ln (hget H')) w (.rf q 0 n z (n * z)) (arr0.getD i undef) := by
    rcases e3 with ⟨q1, q2, q3, q4⟩ | ⟨b, cap, arr, ty, q1, q2, q3, q4, q5, q6, q7⟩
    · rw [q4]
      subst q2
      rw [Nat.zero_mul]
      exact .rf0 (ln_some gq)
    · have hp := hph0 b cap arr ty q1 q2 q3
      rw [q2]
      exact .rf (ln_some gq) (Nat.le_of_eq q5.symm) q4 (fun _ => ⟨hφq.trans q1, by rw [hphq, hp]; omega⟩)
  have hsim : Sim c2 (hget H') w Ow := by
    refine ⟨fun j cs1 hj => ?_, fun j cs1 b hj hb => ?_, fun j j' cs1 cs2 b hj hj' hb hb' => ?_, fun t b hb => hs.okb t b (by rw [← hok]; exact hb), hs.fresh, fun b hb => by rw [hok] at hb ⊢; exact hs.mono b hb, ?_⟩
    · by_cases ek : j = k
      · subst ek
        rw [gk] at hj
        injection hj with hj
        subst hj
        obtain ⟨b, arr, ty, hOb⟩ := (hs.obj j cs hk).resolve_left (fun e => by rw [e.1] at hil; simp at hil)
        obtain rfl : b = b0 := by have := hOb.at_; rw [e1] at this; exact (Option.some.inj this).symm
        have harr : arr = arr0 := by have := hOb.blk.cells (mpk_ow hko); rw [e2] at this; injection this with this; injection this with this; exact this.symm
        subst harr
        refine .inr ⟨b, arr, ty, (hφo j (fun e => hqk e.symm)).1.trans hOb.at_, hOb.blk, hOb.ph.trans (hφo j (fun e => hqk e.symm)).2.symm, by rw [List.length_set]; exact hOb.len, fun a ha => hOb.one a (by rw [List.length_set] at ha; exact ha), fun a ha => ?_⟩
        rw [List.getElem_set]
        split
        · rename_i e; subst e; exact hrf
        · exact (hOb.rel a (by rw [List.length_set] at ha; exact ha)).ext hE
      · by_cases eq : j = q
        · subst eq
          rw [gq] at hj
          injection hj with hj
          subst hj
          rcases e3 with ⟨q1, q2, q3, q4⟩ | ⟨b, cap, arr, ty, q1, q2, q3, q4, q5, q6, q7⟩
          · exact .inl ⟨q3, hφq.trans q1⟩
          · have hlz : n * z ≤ cap * z := Nat.mul_le_mul_right _ q4
            refine .inr ⟨b, arr, ty, hφq.trans q1, .inl ⟨hqm, q3⟩, by rw [hphq, hph0 b cap arr ty q1 q2 q3], by omega, fun a ha => (q7 a ha).2, fun a ha => ?_⟩
            rw [(q7 a ha).1]
            exact .i (.s (q7 a ha).2)
        · rw [go j ek eq] at hj
          rcases hs.obj j cs1 hj with ⟨z1, z2⟩ | ⟨b, arr, ty, hOb⟩
          · exact .inl ⟨z1, (hφo j eq).1.trans z2⟩
          · exact .inr ⟨b, arr, ty, (hφo j eq).1.trans hOb.at_, hOb.blk, hOb.ph.trans (hφo j eq).2.symm, hOb.len, hOb.one, fun a ha => (hOb.rel a ha).ext hE⟩
    · by_cases eq : j = q
      · subst eq
        rw [hφq] at hb
        obtain ⟨o1, o2, _⟩ := hs.nest.own k i n z ds b hst hb
        exact ⟨o1 j hqo.1, by rw [hok]; exact o2⟩
      · rw [(hφo j eq).1] at hb
        rw [hok]
        by_cases ek : j = k
        · subst ek; exact hs.own j cs b hk hb
        · rw [go j ek eq] at hj; exact hs.own j cs1 b hj hb
    · have low : ∀ j cs1, j ≠ q → hget H' j = some cs1 → ∃ cs2, hget H j = some cs2 := by
        intro j cs1 eq hj
        by_cases ek : j = k
        · subst ek; exact ⟨cs, hk⟩
        · rw [go j ek eq] at hj; exact ⟨cs1, hj⟩
      by_cases eq : j = q
      · by_cases eq' : j' = q
        · rw [eq, eq']
        · obtain ⟨cs3, g⟩ := low j' cs2 eq' hj'
          rw [eq, hφq] at hb
          rw [(hφo j' eq').1] at hb'
          exact absurd hb' ((hs.nest.own k i n z ds b hst hb).2.2 j' cs3 g)
      · obtain ⟨cs3, g⟩ := low j cs1 eq hj
        rw [(hφo j eq).1] at hb
        by_cases eq' : j' = q
        · rw [eq', hφq] at hb'
          exact absurd hb ((hs.nest.own k i n z ds b hst hb').2.2 j cs3 g)
        · obtain ⟨cs4, g'⟩ := low j' cs2 eq' hj'
          rw [(hφo j' eq').1] at hb'
          exact hs.inj j j' cs3 cs4 b g g' hb hb'
    · have back : ∀ k' a m y es, Nst (hget H') k' a m y es → k' ≠ q ∧ Nst (hget H) k' a m y es ∧ ¬ (k' = k ∧ a = i) := by
        rintro k' a m y es ⟨cs1, g1, g2, g3⟩
        have eq : k' ≠ q := fun e => by rw [e, hqo.2] at g2; cases g2
        by_cases ek : k' = k
        · subst ek
          rw [gk] at g1
          injection g1 with g1
          subst g1
          by_cases ea : a = i
          · subst ea
            rw [List.getElem?_set_self hil] at g3
            injection g3 with g3
            cases g3
          · rw [List.getElem?_set_ne (fun e => ea e.symm)] at g3
            exact ⟨eq, ⟨cs, hk, g2, g3⟩, fun e => ea e.2⟩
        · rw [go k' ek eq] at g1
          exact ⟨eq, ⟨cs1, g1, g2, g3⟩, fun e => ek e.1⟩
      refine hs.nest.go (fun a b => a = b) (fun k' a m y es g => .inl ?_) (fun _ _ _ e1 e2 => e1.symm.trans e2) (fun k1 a m y es b g gb ⟨k1', e, g'⟩ => ?_)
      · obtain ⟨g1, g2, _⟩ := back k' a m y es g
        exact ⟨k', rfl, g2, by rw [hψ], fun b arr ty hb hbk => ⟨b, arr, ty, (hφo k' g1).1.trans hb, hbk, rfl⟩⟩
      · subst e
        obtain ⟨_, _, g3⟩ := back k1 a m y es g'
        obtain ⟨o1, o2, o3⟩ := hs.nest.own k1 a m y es b g gb
        refine ⟨rfl, o1, by rw [hok]; exact o2, fun j cs1 hj hjb => ?_⟩
        by_cases eq : j = q
        · rw [eq, hφq] at hjb
          exact g3 (hs.nest.inj _ _ _ _ _ _ _ _ _ _ _ g hst gb hjb)
        · rw [(hφo j eq).1] at hjb
          by_cases ek : j = k
          · exact o3 j cs (by rw [ek]; exact hk) hjb
          · rw [go j ek eq] at hj; exact o3 j cs1 hj hjb
  rw [← hH'] at h
  obtain ⟨x, w2, fr2, c3, g1, g2, g3, g4, g5, g6, g7, g8⟩ := h Ow N c2 w a fr items fs h1 h2 hcon hsim (fun t => (he t).ext hE) hsz hd hO hF hN
  exact ⟨x, w2, fr2, c3, g1, g2, g3, g4, g5, (hE.toP pk).trans g6, g7, fun t b hb => by rw [← hok]; exact g8 t b hb⟩
/-- A row of one's own becomes a slice that a cell alone leads to. -/
theorem srun_cl {f : FuncId} {pk : List Nat} {K : List It} {env : Env} {H : Hp} {res : V} {hp' : Hp} (ks : List Nat) (q k i n z : Nat) (cs ds : List V) (hk : hget H k = some cs) (hq : hget H q = some ds) (hi : cs[i]? = some (.rf q 0 n z (n * z))) (hl : ds.length = n * z) (hds : ∀ v, v ∈ ds → ∃ y, v = .s y)
    (hqk : q ∈ ks) (hkk : k ∉ ks) (hks : ∀ x, x ∈ ks → x ∉ pk) (hko : owk k = true) (hqo : owk q = false) (hqm : mpk q = false) (hev : ∀ t v, (t, v) ∈ env → NQ ks v) (hr : ∀ j cs', hget ((k, cs.set i (.on n z ds)) :: drp (k :: ks) H) j = some cs' → ∀ v, v ∈ cs' → NQ ks v)
    (h : SRun P f pk K env ((k, cs.set i (.on n z ds)) :: drp (k :: ks) H) res hp') : SRun P f pk K env H res hp' := by
  intro Ow N c w a fr items fs h1 h2 hcon hs he hsz hd hO hF hN
  obtain ⟨H', hH'⟩ : ∃ H' : Hp, H' = (k, cs.set i (.on n z ds)) :: drp (k :: ks) H := ⟨_, rfl⟩
  rw [← hH'] at h hr
  have hkq : k ≠ q := fun e => hkk (e ▸ hqk)
  have gk : hget H' k = some (cs.set i (.on n z ds)) := by rw [hH']; simp [hget]
  have go : ∀ j, j ≠ k → j ∉ ks → hget H' j = hget H j := by
    intro j h1 h2
    rw [hH']
    simp only [hget, nbeq (fun e : k = j => h1 e.symm), cond_false, hget_drp]
    rw [if_neg (by rw [List.mem_cons, not_or]; exact ⟨h1, h2⟩)]
  have gn : ∀ j, j ∈ ks → hget H' j = none := by
    intro j hj
    have e : k ≠ j := fun e => hkk (e ▸ hj)
    rw [hH']
    simp only [hget, nbeq e, cond_false, hget_drp]
    rw [if_pos (List.mem_cons_of_mem _ hj)]
  obtain ⟨hil, hcv⟩ := List.getElem?_eq_some_iff.1 hi
  obtain ⟨b0, arr0, ty0, hO0⟩ := (hs.obj k cs hk).resolve_left (fun e => by rw [e.1] at hil; simp at hil)
  have hrel := hO0.rel i hil
  rw [hcv] at hrel
  obtain ⟨p0, hp0, hn0⟩ : ∃ p : Option Nat, (p = none ∨ p = c.φ q) ∧ NObj w n z ds p (arr0.getD i undef) := by
    rcases hrel.rf_inv with ⟨ex, z1, z2, z3, _⟩ | ⟨b, cap, l, ex, hL, htl, hn, hφ⟩
    · rw [z2, Nat.zero_mul] at hl
      exact ⟨none, .inl rfl, .inl ⟨rfl, z2, List.eq_nil_of_length_eq_zero hl, ex⟩⟩
    · rw [ln_some hq] at hL
      injection hL with hL
      obtain ⟨hφb, hph⟩ := hφ (by omega)
      obtain ⟨b', arr, ty, hOq⟩ := (hs.obj q ds hq).resolve_left (fun e => by rw [e.2] at hφb; cases hφb)
      obtain rfl : b' = b := by have := hOq.at_; rw [hφb] at this; exact (Option.some.inj this).symm
      refine ⟨some b', .inr hφb.symm, .inr ⟨b', cap, arr, ty, rfl, ex, hOq.blk.cells hqm, hn, hl, by rw [hOq.ph]; omega, fun j hj => ?_⟩⟩
      obtain ⟨y, hy⟩ := hds _ (List.getElem_mem hj)
      have := hOq.rel j hj
      rw [hy] at this
      obtain ⟨e, ho⟩ := this.s_inv
      exact ⟨by rw [hy, e], hOq.one j hj⟩
  obtain ⟨c2, hc2⟩ : ∃ c2 : Cx, c2 = { φ := c.φ, ph := c.ph, ok := c.ok, ψ := fun a b => if a = k ∧ b = i then p0 else c.ψ a b } := ⟨_, rfl⟩
  have hφ : c2.φ = c.φ := by rw [hc2]
  have hph : c2.ph = c.ph := by rw [hc2]
  have hok : c2.ok = c.ok := by rw [hc2]
  have hψk : c2.ψ k i = p0 := by rw [hc2]; simp
  have hψo : ∀ a b, ¬ (a = k ∧ b = i) → c2.ψ a b = c.ψ a b := by intro a b hn; rw [hc2]; simp only [if_neg hn]
  have hL : ∀ j, j ∉ ks → ln (hget H') j = ln (hget H) j ∧ c2.φ j = c.φ j ∧ c2.ph j = c.ph j := by
    intro j hj
    refine ⟨?_, by rw [hφ], by rw [hph]⟩
    by_cases ek : j = k
    · subst ek
      rw [ln_some gk, ln_some hk, List.length_set]
    · unfold ln; rw [go j ek hj]
  have hR : ∀ v x, R c (ln (hget H)) w v x → NQ ks v → R c2 (ln (hget H')) w v x := fun v x h1 h2 => h1.nq hok hL h2
  have low : ∀ j cs1, hget H' j = some cs1 → j ∉ ks ∧ ∃ cs2, hget H j = some cs2 := by
    intro j cs1 hj
    have hn : j ∉ ks := fun e => by rw [gn j e] at hj; cases hj
    refine ⟨hn, ?_⟩
    by_cases ek : j = k
    · subst ek; exact ⟨cs, hk⟩
    · rw [go j ek hn] at hj; exact ⟨cs1, hj⟩
  have back : ∀ k' a m y es, Nst (hget H') k' a m y es → (k' = k ∧ a = i ∧ m = n ∧ y = z ∧ es = ds) ∨ (¬ (k' = k ∧ a = i) ∧ Nst (hget H) k' a m y es) := by
    rintro k' a m y es ⟨cs1, g1, g2, g3⟩
    by_cases ek : k' = k
    · subst ek
      rw [gk] at g1
      injection g1 with g1
      subst g1
      by_cases ea : a = i
      · subst ea
        rw [List.getElem?_set_self hil] at g3
        injection g3 with g3
        injection g3 with q1 q2 q3
        exact .inl ⟨rfl, rfl, q1.symm, q2.symm, q3.symm⟩
      · rw [List.getElem?_set_ne (fun e => ea e.symm)] at g3
        exact .inr ⟨fun e => ea e.2, cs, hk, g2, g3⟩
    · have hn : k' ∉ ks := fun e => by rw [gn k' e] at g1; cases g1
      rw [go k' ek hn] at g1
      exact .inr ⟨fun e => ek e.1, cs1, g1, g2, g3⟩
  have hqown : ∀ b, p0 = some b → c.φ q = some b ∧ (∀ j, opk j = true → Ow j b) ∧ ∀ t, ¬ c.ok t b := by
    intro b hb
    have hφq : c.φ q = some b := by
      rcases hp0 with e | e
      · rw [e] at hb; cases hb
      · rw [← e]; exact hb
    obtain ⟨o1, o2⟩ := hs.own q ds b hq hφq
    refine ⟨hφq, fun j hj => ?_, o2⟩
    cases hopq : opk q with
    | false => exact hF _ _ ((hO q b o1 (hks q hqk)).1 hopq)
    | true => exact (hO q b o1 (hks q hqk)).2 hopq j hj
  have hsim : Sim c2 (hget H') w Ow := by
    refine ⟨fun j cs1 hj => ?_, fun j cs1 b hj hb => ?_, fun j j' cs1 cs2 b hj hj' hb hb' => ?_, fun t b hb => hs.okb t b (by rw [← hok]; exact hb), hs.fresh, fun b hb => by rw [hok] at hb ⊢; exact hs.mono b hb, ⟨?_, ?_, ?_⟩⟩
    · have hnq := hr j cs1 hj
      obtain ⟨hn, _⟩ := low j cs1 hj
      by_cases ek : j = k
      · subst ek
        rw [gk] at hj
        injection hj with hj
        subst hj
        refine .inr ⟨b0, arr0, ty0, by rw [hφ]; exact hO0.at_, hO0.blk, by rw [hph]; exact hO0.ph, by rw [List.length_set]; exact hO0.len, fun a ha => hO0.one a (by rw [List.length_set] at ha; exact ha), fun a ha => ?_⟩
        have hm := hnq _ (List.getElem_mem ha)
        rw [List.getElem_set] at hm ⊢
        split at hm
        · rename_i e
          rw [if_pos e]
          exact .i .on
        · rename_i e
          rw [if_neg e]
          exact hR _ _ (hO0.rel a (by rw [List.length_set] at ha; exact ha)) hm
      · rw [go j ek hn] at hj
        rcases hs.obj j cs1 hj with ⟨z1, z2⟩ | ⟨b, arr, ty, hOb⟩
        · exact .inl ⟨z1, by rw [hφ]; exact z2⟩
        · exact .inr ⟨b, arr, ty, by rw [hφ]; exact hOb.at_, hOb.blk, by rw [hph]; exact hOb.ph, hOb.len, hOb.one, fun a ha => hR _ _ (hOb.rel a ha) (hnq _ (List.getElem_mem ha))⟩
    · obtain ⟨_, cs2, g⟩ := low j cs1 hj
      rw [hφ] at hb
      rw [hok]
      exact hs.own j cs2 b g hb
    · obtain ⟨_, cs3, g⟩ := low j cs1 hj
      obtain ⟨_, cs4, g'⟩ := low j' cs2 hj'
      rw [hφ] at hb hb'
      exact hs.inj j j' cs3 cs4 b g g' hb hb'
    · intro k' a m y es g
      rcases back k' a m y es g with ⟨rfl, rfl, rfl, rfl, rfl⟩ | ⟨hn, g2⟩
      · exact ⟨b0, arr0, ty0, by rw [hφ]; exact hO0.at_, hO0.blk.cells (mpk_ow hko), by rw [hψk]; exact hn0⟩
      · obtain ⟨b, arr, ty, e1, e2, e3⟩ := hs.nest.obj k' a m y es g2
        exact ⟨b, arr, ty, by rw [hφ]; exact e1, e2, by rw [hψo k' a hn]; exact e3⟩
    · intro k' a m y es b g hb
      rw [hok, hφ]
      rcases back k' a m y es g with ⟨rfl, rfl, rfl, rfl, rfl⟩ | ⟨hn, g2⟩
      · rw [hψk] at hb
        obtain ⟨o0, o1, o2⟩ := hqown b hb
        refine ⟨o1, o2, fun j cs1 hj hjb => ?_⟩
        obtain ⟨hnk, cs2, g3⟩ := low j cs1 hj
        have := hs.inj j q cs2 es b g3 hq hjb o0
        exact hnk (this ▸ hqk)
      · rw [hψo k' a hn] at hb
        obtain ⟨o1, o2, o3⟩ := hs.nest.own k' a m y es b g2 hb
        refine ⟨o1, o2, fun j cs1 hj hjb => ?_⟩
        obtain ⟨_, cs2, g3⟩ := low j cs1 hj
        exact o3 j cs2 g3 hjb
    · intro k1 a1 m1 y1 es1 k2 a2 m2 y2 es2 b g1 g2 hb1 hb2
      rcases back k1 a1 m1 y1 es1 g1 with ⟨e1, e2, _⟩ | ⟨n1, q1⟩
      · rcases back k2 a2 m2 y2 es2 g2 with ⟨e3, e4, _⟩ | ⟨n2, q2⟩
        · exact ⟨e1.trans e3.symm, e2.trans e4.symm⟩
        · rw [e1, e2, hψk] at hb1
          rw [hψo k2 a2 n2] at hb2
          exact absurd (hqown b hb1).1 ((hs.nest.own k2 a2 m2 y2 es2 b q2 hb2).2.2 q ds hq)
      · rw [hψo k1 a1 n1] at hb1
        rcases back k2 a2 m2 y2 es2 g2 with ⟨e3, e4, _⟩ | ⟨n2, q2⟩
        · rw [e3, e4, hψk] at hb2
          exact absurd (hqown b hb2).1 ((hs.nest.own k1 a1 m1 y1 es1 b q1 hb1).2.2 q ds hq)
        · rw [hψo k2 a2 n2] at hb2
          exact hs.nest.inj _ _ _ _ _ _ _ _ _ _ _ q1 q2 hb1 hb2
  have henv : ∀ t, R c2 (ln (hget H')) w (eget env t) (a.tmps.getD t undef) := by
    intro t
    refine hR _ _ (he t) ?_
    have : ∀ e : Env, (∀ t v, (t, v) ∈ e → NQ ks v) → NQ ks (eget e t) := by
      intro e
      induction e with
      | nil => intro _; exact .un
      | cons p r ih =>
        obtain ⟨t', v'⟩ := p
        intro hv
        by_cases e1 : t' = t
        · subst e1
          simp only [eget, Nat.beq_refl, cond_true]
          exact hv t' v' (by simp)
        · simp only [eget, nbeq e1, cond_false]
          exact ih fun t v hm => hv t v (List.mem_cons_of_mem _ hm)
    exact this env hev
  have hE : ExtP pk c (ln (hget H)) w c2 (ln (hget H')) w := by
    refine ⟨fun t b hb => ⟨by rw [hok]; exact hb, rfl⟩, fun j l hj hl => ?_⟩
    have hn : j ∉ ks := fun e => hks j e hj
    obtain ⟨g1, g2, g3⟩ := hL j hn
    exact ⟨l, g1.trans hl, Nat.le_refl _, fun _ => ⟨g2, g3⟩⟩
  obtain ⟨x, w2, fr2, c3, g1, g2, g3, g4, g5, g6, g7, g8⟩ := h Ow N c2 w a fr items fs h1 h2 hcon hsim henv hsz hd hO hF hN
  exact ⟨x, w2, fr2, c3, g1, g2, g3, g4, g5, hE.trans g6, g7, fun t b hb => by rw [← hok]; exact g8 t b hb⟩
end
end Go.Proofs.Ytpjmefdpjlhkhaa.Eng

/- The engine, part 20: what J tells of a call, the machine does. -/
namespace Go.Proofs.Ytpjmefdpjlhkhaa.Eng
open Go.RowKit
set_option linter.unusedVariables false
set_option linter.unusedSimpArgs false
section
variable {P : Program}
theorem run_mapM {α β : Type} {g : α → Sem β} {f : α → β} {w : World} : ∀ (l : List α), (∀ x, x ∈ l → (g x).run P w = .ok (f x) w) → (l.mapM g).run P w = .ok (l.map f) w
  | [], _ => by simp
  | x :: r, h => by
    simp only [List.mapM_cons, Sem.run_bind, h x (by simp), Result.andThen_ok, run_mapM r (fun y hy => h y (List.mem_cons_of_mem _ hy)), Sem.run_pure, List.map_cons]
theorem run_mapM' {α β : Type} {g : α → Sem β} {w : World} : ∀ (l : List α), (∀ x, x ∈ l → ∃ y, (g x).run P w = .ok y w) → ∃ ys : List β, ys.length = l.length ∧ (l.mapM g).run P w = .ok ys w ∧ ∀ i (h : i < l.length) (h' : i < ys.length), (g l[i]).run P w = .ok ys[i] w
  | [], _ => ⟨[], rfl, by simp, fun i h => absurd h (by simp)⟩
  | x :: r, h => by
    obtain ⟨y, hy⟩ := h x (by simp)
    obtain ⟨ys, h1, h2, h3⟩ := run_mapM' r (fun z hz => h z (List.mem_cons_of_mem _ hz))
    refine ⟨y :: ys, by simp [h1], ?_, fun i hi hi' => ?_⟩
    · simp only [List.mapM_cons, Sem.run_bind, hy, Result.andThen_ok, h2, Sem.run_pure]
    · cases i with
      | zero => exact hy
      | succ i => exact h3 i (Nat.lt_of_succ_lt_succ hi) (Nat.lt_of_succ_lt_succ hi')
def resG (tmps : Array Value) : ResultVar → Sem Value
  | .tmp t => pure (tmps.getD t undef)
  | .cell a t => do loadVar t (← asAddr (tmps.getD a undef))
theorem resL_sound {c : Cx} {h : Nat → Option (List V)} {w : World} {Ow : Nat → Nat → Prop} {e : Nat → V} {tmps : Array Value} (hs : Sim c h w Ow) (he : ∀ t, R c (ln h) w (e t) (tmps.getD t undef)) :
    ∀ (l : List ResultVar) (vs : List V) (ob : List Prop), resL P e h l = some (vs, ob) → AllP ob → ∃ ys : List Value, ys.length = vs.length ∧ vs.length = l.length ∧ (l.mapM (resG tmps)).run P w = .ok ys w ∧ ∀ i (hi : i < vs.length), R c (ln h) w vs[i] (ys.getD i undef)
  | [], vs, ob, hr, _ => by
    simp only [resL, Option.some.injEq, Prod.mk.injEq] at hr
    obtain ⟨rfl, rfl⟩ := hr
    exact ⟨[], rfl, rfl, by simp, fun i hi => absurd hi (by simp)⟩
  | .tmp t :: r, vs, ob, hr, ho => by
    simp only [resL] at hr
    split at hr
    · rename_i vs' ob' hr'
      simp only [Option.some.injEq, Prod.mk.injEq] at hr
      obtain ⟨rfl, rfl⟩ := hr
      obtain ⟨ys, h1, h2, h3, h4⟩ := resL_sound hs he r vs' ob' hr' ho
      refine ⟨tmps.getD t undef :: ys, by simp [h1], by simp [h2], ?_, fun i hi => ?_⟩
      · simp only [List.mapM_cons, Sem.run_bind, resG, Sem.run_pure, Result.andThen_ok, h3]
      · cases i with
        | zero => exact he t
        | succ i => exact h4 i (Nat.lt_of_succ_lt_succ hi)
    · cases hr
  | .cell a t :: r, vs, ob, hr, ho => by
    simp only [resL] at hr
    split at hr
    · rename_i vs' ob' k off tot hr' ha
      obtain ⟨hm, hr⟩ := gd hr
      cases hk : h k with
      | none => simp [hk] at hr
      | some cs =>
        simp only [hk] at hr
        cases hb : ((P.underlying t).isSome && (isAg P t || Nat.beq (P.cellsOf t) 1)) with
        | false => rw [hb] at hr; cases hr
        | true =>
          rw [hb] at hr
          simp only [cond_true, Option.some.injEq, Prod.mk.injEq] at hr
          obtain ⟨rfl, rfl⟩ := hr
          obtain ⟨⟨o1, o2⟩, ho⟩ := allP_cons ho
          rw [Bool.and_eq_true] at hb
          have hv := he a
          rw [ha] at hv
          obtain ⟨b, l, ex, hl, ht, hφ⟩ := hv.pt_invP hm
          rw [ln_some hk] at hl
          injection hl with hl
          obtain ⟨u, hc, hone, hrel⟩ := own_cells hs hm hk (hφ (by omega)) off
          obtain ⟨y, hy, hR⟩ := run_load_at hb.1 hb.2 (by rw [List.length_drop]; omega) hc hone hrel
          obtain ⟨ys, h1, h2, h3, h4⟩ := resL_sound hs he r vs' ob' hr' ho
          refine ⟨y :: ys, by simp [h1], by simp [h2], ?_, fun i hi => ?_⟩
          · simp only [List.mapM_cons, Sem.run_bind, resG, ex, asAddr, Sem.run_pure, Result.andThen_ok, hy, h3]
          · cases i with
            | zero => exact hR
            | succ i => exact h4 i (Nat.lt_of_succ_lt_succ hi)
    · cases hr
theorem srun_fin {f : FuncId} {pk : List Nat} {K : List It} {env : Env} {H : Hp} {res : V} {hp' : Hp} {fz : List Nat} {km : List (Nat × Nat)} {v : V} {ob : List Prop} (hend : endAt P f K = true) (hr : resOf P f (eget env) (hget H) = some (v, ob)) (ho : AllP ob) (hh : Shr H hp' pk fz km)
    (hv : Cnv (hget H) false fz km v res) : SRun P f pk K env H res hp' := by
  intro Ow N c w a b items cs h1 h2 hcon hs he hsz hd hO hF hN
  unfold resOf at hr
  cases hfn : P.funcs[f]? with
  | none => rw [hfn] at hr; cases hr
  | some fn =>
    rw [hfn] at hr
    simp only at hr
    have hres : ∃ x, (results fn a.tmps).run P w = .ok x w ∧ R c (ln (hget H)) w v x := by
      have key : ∀ vs ob', resL P (eget env) (hget H) fn.results.toList = some (vs, ob') → AllP ob' → ∃ ys : List Value, ys.length = vs.length ∧ (results fn a.tmps).run P w = .ok (if h : ys.toArray.size = 1 then ys.toArray[0] else .tuple ys.toArray) w ∧ ∀ i (hi : i < vs.length), R c (ln (hget H)) w vs[i] (ys.getD i undef) := by
        intro vs ob' h3 h4
        obtain ⟨ys, q1, q2, q3, q4⟩ := resL_sound hs he _ _ _ h3 h4
        refine ⟨ys, q1, ?_, q4⟩
        have e0 : results fn a.tmps = (do let vs ← fn.results.mapM (resG a.tmps); pure (if h : vs.size = 1 then vs[0] else .tuple vs)) := by
          unfold results
          have e1 : (fun x : ResultVar => match x with | ResultVar.tmp t => (pure (a.tmps.getD t undef) : Sem Value) | ResultVar.cell ad t => do loadVar t (← asAddr (a.tmps.getD ad undef))) = resG a.tmps := by
            funext x; cases x <;> rfl
          rw [← e1]
          rfl
        have e2 : (fn.results.mapM (resG a.tmps)).run P w = Result.ok ys.toArray w := by
          rw [Array.mapM_eq_mapM_toList]
          simp only [Sem.run_map, q3, Result.andThen_ok]
        rw [e0, Sem.run_bind, e2]
        rfl
      split at hr
      · rename_i v' ob' h3
        simp only [Option.some.injEq, Prod.mk.injEq] at hr
        obtain ⟨rfl, rfl⟩ := hr
        obtain ⟨ys, q1, q2, q3⟩ := key _ _ h3 ho
        cases ys with
        | nil => simp at q1
        | cons y r =>
          have : r = [] := List.eq_nil_of_length_eq_zero (by simpa using q1)
          subst this
          exact ⟨y, by rw [q2]; simp, q3 0 (by simp)⟩
      · rename_i vs ob' hne h3
        simp only [Option.some.injEq, Prod.mk.injEq] at hr
        obtain ⟨rfl, rfl⟩ := hr
        obtain ⟨ys, q1, q2, q3⟩ := key _ _ h3 ho
        have hlen : ¬ ys.toArray.size = 1 := by
          intro e
          have : vs.length = 1 := by rw [← q1]; simpa using e
          match vs, this with
          | [v0], _ => exact hne v0 rfl
        refine ⟨.tuple ys.toArray, by rw [q2, dif_neg hlen], .tp (by simp [q1]) (fun i hi => ?_)⟩
        have := q3 i hi
        simpa [Array.getD_eq_getD_getElem?, List.getD_eq_getElem?_getD] using this
      · cases hr
    obtain ⟨x, hx1, hx2⟩ := hres
    obtain ⟨c2, s1, s2, s3, s4⟩ := shr_sound hs hh hO hF
    have hst : ∃ todo, Steps P (lone (b.at a items) cs w) (lone { b.at a todo with mode := .returning } cs w) := by
      cases hcon with
      | nil => exact ⟨[], .one step_end⟩
      | cons hi hk =>
        cases hi with
        | c =>
          simp only [endAt] at hend
          split at hend
          · rename_i hc
            rw [hc]
            exact ⟨_, .one step_ret⟩
          · cases hend
        | b => cases hend
        | l _ => cases hend
        | l' _ => cases hend
    obtain ⟨todo, hst⟩ := hst
    refine ⟨x, w, { b.at a todo with mode := .returning }, c2, hst, h1, ⟨rfl, hd, h2, fn, ?_, hx1⟩, s2 _ _ _ hv hx2, s1, s3, Keep.refl _ _, s4⟩
    show P.funcs[b.fn]? = some fn
    rw [h1]; exact hfn
theorem eget_params : ∀ (args : List V) (i t : Nat), eget (params i args) t = if h : i ≤ t ∧ t < i + args.length then args[t - i]'(by omega) else .un
  | [], i, t => by
    rw [dif_neg (by simp)]; rfl
  | v :: r, i, t => by
    unfold params
    by_cases e : i = t
    · subst e
      simp [eget]
    · simp only [eget, nbeq e, cond_false]
      rw [eget_params r (i + 1) t]
      by_cases h : i + 1 ≤ t ∧ t < i + 1 + r.length
      · rw [dif_pos h, dif_pos (by simp; omega)]
        obtain ⟨j, rfl⟩ : ∃ j, t = i + 1 + j := ⟨t - (i + 1), by omega⟩
        have e1 : i + 1 + j - (i + 1) = j := by omega
        have e2 : i + 1 + j - i = j + 1 := by omega
        simp only [e1, e2, List.getElem_cons_succ]
      · rw [dif_neg h, dif_neg (by simp; omega)]
theorem OwOf.out {c : Cx} {hp : Hp} {w : World} {k q : Nat} (hq : OwOf c hp w k q) (hk : ∀ cs, hget hp k ≠ some cs) : (opk k = false → w.heap.size ≤ q) ∧ (opk k = true → ∀ j, opk j = true → OwOf c hp w j q) := by
  rcases hq with hq | ⟨⟨cs1, hq⟩, _⟩ | ⟨hop, s⟩
  · exact ⟨fun _ => hq, fun _ j _ => .inl hq⟩
  · exact absurd hq (hk cs1)
  · exact ⟨fun e => (by rw [hop] at e; cases e), fun _ j hj => .inr (.inr ⟨hj, s⟩)⟩
theorem spec_call {f : FuncId} {args : List V} {hp hp' : Hp} {res : V} {fn : Func} {cd : Code} (hf : P.funcs[f]? = some fn) (hb : fn.body = some cd) (hn : Nat.ble args.length fn.ntmps = true)
    (h : SRun P f (hp.map (·.1)) [.c []] (params 0 args) hp res hp') : Spec P f args hp res hp' := by
  intro c w xs hgl hs hsz hrel cs
  have hn := Nat.le_of_ble_eq_true hn
  let b : Frame := { (default : Frame) with fn := f, kind := .normal }
  let a : Act := { tmps := xs ++ Array.replicate (fn.ntmps - xs.size) undef, defers := [] }
  have henter : Frame.enter P f xs .normal = b.at a [.code cd] := by simp [Frame.enter, Frame.at, hf, hb, b, a]
  have hcode : codeAt P f [] = cd := by unfold codeAt; rw [hf]; simp only [hb]; cases cd <;> rfl
  have hcon : Conc P f [.c []] [.code cd] := by
    have := Conc.cons (Cit.c (P := P) (f := f) (p := [])) Conc.nil
    rw [hcode] at this
    exact this
  have hmem : ∀ k cs, hget hp k = some cs → k ∈ hp.map (·.1) := by
    intro k
    clear h hs hrel hgl
    induction hp with
    | nil => intro cs h; simp [hget] at h
    | cons q r ih =>
      intro cs h
      obtain ⟨k', cs'⟩ := q
      by_cases e : k' = k
      · subst e; simp
      · simp only [hget, nbeq e, cond_false] at h
        exact List.mem_cons_of_mem _ (ih cs h)
  have hsize : a.tmps.size = ntOf P f := by
    unfold ntOf
    rw [hf]
    simp only [a, Array.size_append, Array.size_replicate]
    omega
  have henv : ∀ t, R c (ln (hget hp)) w (eget (params 0 args) t) (a.tmps.getD t undef) := by
    intro t
    rw [eget_params]
    split
    · rename_i ht
      have h1 : t < xs.size := by omega
      have e : a.tmps.getD t undef = xs.getD t undef := by
        simp only [a, Array.getD_eq_getD_getElem?]
        rw [Array.getElem?_append_left h1]
      rw [e]
      simp only [Nat.sub_zero]
      exact hrel t (by omega)
    · exact .i .un
  obtain ⟨x, w2, fr, c2, g1, g2, g3, g4, g5, g6, g7, g8⟩ := h (OwOf c hp w) w.heap.size c w a b [.code cd] cs rfl rfl hcon hs henv hsize rfl (fun k q hq hk => hq.out (fun cs1 h => hk (hmem k cs1 h))) (fun k q hq => .inl hq) ⟨Nat.le_refl _, hgl⟩
  refine ⟨.returned x, w2, fr, ⟨x, c2, rfl, g4, g5, ⟨g6.ok, fun k l hl => ?_⟩, g7, g8⟩, ?_, g2, g3⟩
  · refine g6.len k l ?_ hl
    unfold ln at hl
    cases hq : hget hp k with
    | none => rw [hq] at hl; cases hl
    | some cs1 => exact hmem k cs1 hq
  · rw [henter]; exact g1
theorem hget_keys {k : Nat} {cs : List V} : ∀ {hp : Hp}, hget hp k = some cs → k ∈ hp.map (·.1)
  | (k', cs') :: r, h => by
    by_cases e : k' = k
    · subst e; simp
    · simp only [hget, nbeq e, cond_false] at h
      exact List.mem_cons_of_mem _ (hget_keys h)
/-- What a call hands back, told by less. -/
theorem spec_cw {f : FuncId} {args : List V} {hp hp' hp2 : Hp} {res res2 : V} {fz : List Nat} {km : List (Nat × Nat)} (hh : Shr hp' hp2 (hp.map (·.1)) fz km) (hv : Cnv (hget hp') false fz km res res2) (h : Spec P f args hp res hp') : Spec P f args hp res2 hp2 := by
  intro c w xs hgl hs hsz hrel
  refine (h c w xs hgl hs hsz hrel).mono ?_
  rintro e w2 ⟨x, c2, rfl, h1, h2, h3, h4, h5⟩
  have hO : ∀ k q, OwOf c hp w k q → k ∉ hp.map (·.1) → (opk k = false → w.heap.size ≤ q) ∧ (opk k = true → ∀ j, opk j = true → OwOf c hp w j q) := fun k q hq hk => hq.out (fun cs1 h => hk (hget_keys h))
  obtain ⟨c3, s1, s2, s3, s4⟩ := shr_sound h2 hh hO (fun k q hq => .inl hq)
  refine ⟨x, c3, rfl, s2 _ _ _ hv h1, s1, ⟨fun t b hb => ⟨(s3.ok t b (h3.ok t b hb).1).1, (h3.ok t b hb).2⟩, fun k l hl => ?_⟩, h4, fun t b hb => ?_⟩
  · have hk : k ∈ hp.map (·.1) := by
      unfold ln at hl
      cases hq : hget hp k with
      | none => rw [hq] at hl; cases hl
      | some cs1 => exact hget_keys hq
    obtain ⟨l1, a1, a2, a3⟩ := h3.len k l hl
    obtain ⟨l2, b1, b2, b3⟩ := s3.len k l1 hk a1
    refine ⟨l2, b1, by omega, fun e => ?_⟩
    obtain ⟨x1, x2⟩ := b3 (by omega)
    obtain ⟨y1, y2⟩ := a3 (by omega)
    exact ⟨x1.trans y1, x2.trans y2⟩
  · rcases s4 t b hb with h | h
    · rcases h5 t b h with h | ⟨h, h'⟩
      · exact .inl h
      · exact .inr ⟨h, (s3.ok false b h').1⟩
    · exact .inr h
/-- The engine's law. -/
theorem J.sound (hm : P.follows .mixedOrders = true) {j : Jd} (h : J P j) : match j with
    | .call f args hp res hp' => Spec P f args hp res hp'
    | .run f pk K env H res hp' => SRun P f pk K env H res hp' := by
  induction h with
  | @call f args hp hp' res hn _ ih =>
    unfold fits at hn
    split at hn
    · rename_i fn hf
      rw [Bool.and_eq_true] at hn
      obtain ⟨cd, hb⟩ := Option.isSome_iff_exists.1 hn.1
      exact spec_call hf hb hn.2 (srun_nx 99 ih)
    · cases hn
  | lib h => exact h
  | cw fz km hs hv _ ih => exact spec_cw hs hv ih
  | reg ks hints o h ho _ _ ih1 ih2 => exact srun_reg hm h ho (fun C hC => ih1 C hC) (srun_nx 99 ih2)
  | cond b hx hb _ ih => exact srun_cond b hx hb (srun_nx 99 ih)
  | loop _ _ ih => exact srun_loop (srun_nx 99 ih)
  | nl k hk hpk _ ih => exact srun_nl k hk hpk ih
  | wk fz km hs he _ ih => exact srun_wk hs he ih
  | op q k i n z cs ds hk hi hko hqo hqm hq hqp _ ih => exact srun_op q k i n z cs ds hk hi hko hqo hqm hq hqp ih
  | cl ks q k i n z cs ds hk hq hi hl hds hqk hkk hks hko hqo hqm he hr _ ih => exact srun_cl ks q k i n z cs ds hk hq hi hl hds hqk hkk hks hko hqo hqm he hr ih
  | fin fz km v ob he hr ho hs hv => exact srun_fin he hr ho hs hv
theorem J.spec (hm : P.follows .mixedOrders = true) {f : FuncId} {args : List V} {hp hp' : Hp} {res : V} (h : J P (.call f args hp res hp')) : Spec P f args hp res hp' := J.sound hm h
end
/-- A path by its number: the bits behind the first. -/
def pth (n : Nat) : List Nat := go n.log2 n []
where go : Nat → Nat → List Nat → List Nat
  | 0, _, acc => acc
  | k + 1, n, acc => go k (n / 2) (n % 2 :: acc)
abbrev c_ (n : Nat) : It := .c (pth n)
abbrev l_ (n : Nat) : It := .l (pth n)
abbrev b_ (n : Nat) : It := .b n
section
variable {P : Program} {f : FuncId} {pk : List Nat} {p : List Nat} {K : List It} {env : Env} {H : Hp} {res : V} {hp' : Hp}
theorem J.call' {args : List V} {hp : Hp} (K' : List It) (h : J P (.run f (hp.map (·.1)) K' (params 0 args) hp res hp')) (hn : fits P f args.length = true := by kernel_rfl) (hK : nx P f 99 [.c []] = K' := by kernel_rfl) : J P (.call f args hp res hp') :=
  .call hn (by rw [hK]; exact h)
theorem J.reg' (ks : List Nat) (hints : List Hint) (o : Out) (K' : List It) (ho : AllP o.ob) (hc : ∀ C, C ∈ o.cals → J P (.call C.f C.args C.hp C.res C.hp')) (hr : J P (.run f pk K' o.env o.H res hp')) (h : areg P f p ks hints env H = some o := by kernel_rfl) (hK : nx P f 99 K = K' := by kernel_rfl) : J P (.run f pk (.c p :: K) env H res hp') :=
  .reg ks hints o h ho hc (by rw [hK]; exact hr)
theorem J.cond' (x : Operand) (b : Bool) (K' : List It) (hb : ev (eget env) x = .s (.bool b)) (h : J P (.run f pk K' env H res hp')) (hx : condAt P f p = some x := by kernel_rfl) (hK : nx P f 99 (.c (p ++ [bif b then 0 else 1]) :: K) = K' := by kernel_rfl) : J P (.run f pk (.c p :: K) env H res hp') :=
  .cond b hx hb (by rw [hK]; exact h)
theorem J.loop' (K' : List It) (h : J P (.run f pk K' env H res hp')) (hl : loopAt P f p = true := by kernel_rfl) (hK : nx P f 99 (.c (p ++ [0]) :: .l p :: K) = K' := by kernel_rfl) : J P (.run f pk (.l p :: K) env H res hp') :=
  .loop hl (by rw [hK]; exact h)
/-- The end of a function that hands back no rows. -/
theorem J.fin0 (fz : List Nat) (v : V) (ob : List Prop) (ho : AllP ob) (hv : Cnv (hget H) false fz [] v res) (he : endAt P f K = true := by kernel_rfl) (hr : resOf P f (eget env) (hget H) = some (v, ob) := by kernel_rfl) (hz : (fz.all fun k => !opk k) = true := by kernel_rfl) : J P (.run f [] K env H res []) :=
  .fin fz [] v ob he hr ho ⟨(fun k cs h => by cases h), (fun k k' h => by cases h), (fun k k' h => by cases h), (fun k hk => ⟨⟨by simp, by simpa using List.all_eq_true.1 hz k hk⟩, by simp⟩), (fun k hk => by cases hk), (fun k a b h => by cases h), (fun k a b h => by cases h)⟩ hv
end
end Go.Proofs.Ytpjmefdpjlhkhaa.Eng

