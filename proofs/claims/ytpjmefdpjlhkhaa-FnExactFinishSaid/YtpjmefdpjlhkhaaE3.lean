/- The engine: a checked abstract machine for the functions of the program (3 of 5). -/
import Derived.Test.YtpjmefdpjlhkhaaE2
/- The engine, part 10: all operations in one law; what an operation tells hangs on the rows that it touches alone. -/
namespace Go.Proofs.Ytpjmefdpjlhkhaa.Eng
open Go.RowKit
set_option linter.unusedVariables false
set_option linter.unusedSimpArgs false
section
variable {P : Program} {c : Cx} {h : Nat → Option (List V)} {w : World} {Ow : Nat → Nat → Prop} {key : Nat} {ρ : Operand → V} {σ : Operand → Value} {r : Res}
theorem append_sound {o : Oper} {ts : Array TypeId} {args : Array Operand} (ho : o.op = .call { callee := .builtin .append, args := args, argTypes := ts }) (hs : Sim c h w Ow) (hv : ∀ x, x ∈ o.op.operands → R c (ln h) w (ρ x) (σ x)) (hr : aop P ρ h key o = some r) (hob : AllP r.ob) : GoesAny P (execOp σ o) c h w Ow r := by
  rw [ho] at hv
  simp only [aop, ho] at hr
  split at hr
  · rename_i a x t t' rest ha ht
    have ha' : args = #[a, x] := by apply Array.ext'; simpa using ha
    subst ha'
    have h1 := hv a (by simp [Op.operands, Call.operands])
    have h2 := hv x (by simp [Op.operands, Call.operands])
    split at hr
    · cases hr
    · rename_i e d hni he hd
      cases hb : (!Nat.beq (P.cellsOf e) 0 && (zeros P e).isSome) with
      | false => rw [hb] at hr; cases hr
      | true =>
        rw [hb] at hr
        simp only [cond_true] at hr
        rw [Bool.and_eq_true] at hb
        have hsz : P.cellsOf e ≠ 0 := fun e0 => by rw [e0] at hb; simp at hb
        split at hr
        · rename_i s hsrc
          obtain ⟨v, w', c', r1, r2, r3, r4, r5, r6⟩ := app_sound (ty := o.type) hs ht (elem_under he) (fun k hk => hni k (Option.some.inj (hd.symm.trans hk))) (by rw [hd]; rfl) hb.2 hsz h1 h2 hsrc hr hob
          refine ⟨.value v, w', c', ?_, .inl ⟨v, rfl, r2⟩, r3, r4, r5, r6⟩
          simp only [execOp, ho, resolve, invoke, builtin, Sem.run_bind, Sem.run_pure, Result.andThen_ok]
          have e1 : (#[a, x].map σ) = #[σ a, σ x] := by simp
          rw [e1, r1]
          rfl
        · cases hr
    · cases hr
  · cases hr
theorem aop_sound {o : Oper} (hs : Sim c h w Ow) (hv : ∀ x, x ∈ o.op.operands → R c (ln h) w (ρ x) (σ x)) (hr : aop P ρ h key o = some r) (hob : AllP r.ob) : GoesAny P (execOp σ o) c h w Ow r := by
  have raw : (aop P ρ h key o = rawOp P ρ o) → GoesAny P (execOp σ o) c h w Ow r := fun e => raw_sound hs hv (e ▸ hr)
  obtain ⟨dst, op, type, pos, after, guard⟩ := o
  cases op with
  | move x =>
    simp only [aop, Option.some.injEq] at hr
    subst hr
    exact goes_val hs (x := σ x) (by simp [execOp]) (hv x (by simp [Op.operands]))
  | assign x =>
    simp only [aop, Option.some.injEq] at hr
    subst hr
    exact goes_val hs (x := σ x) (by simp [execOp]) (hv x (by simp [Op.operands]))
  | pick cc a b => exact pick_sound rfl hs (hv cc (by simp [Op.operands])) (hv a (by simp [Op.operands])) (hv b (by simp [Op.operands])) hr
  | alloc t => exact alloc_sound rfl hs hr
  | box t x => exact box_sound rfl hs (hv x (by simp [Op.operands])) hr
  | build t ps => exact build_sound rfl hs hv hr
  | buildSlice t n ps => exact buildSlice_sound rfl hs hv hr
  | load t x => exact load_sound rfl hs (hv x (by simp [Op.operands])) hr hob
  | store t x y => exact store_sound rfl hs (hv x (by simp [Op.operands])) (hv y (by simp [Op.operands])) hr hob
  | nilCheck x => exact nil_sound rfl hs (hv x (by simp [Op.operands])) hr
  | binOp op t x y t' => exact bin_sound rfl hs hv hr hob
  | makeFunc f a b => exact func_sound rfl hs hv hr
  | makeSlice t l cp => exact makeSlice_sound rfl hs (hv l (by simp [Op.operands])) (hv cp (by simp [Op.operands])) hr hob
  | slice t x lo hi mx =>
    cases mx with
    | none => exact slice_sound rfl hs hv hr hob
    | some m => exact raw rfl
  | fieldAddr t x f => exact fields_sound rfl hs (hv x (by simp [Op.operands])) hr
  | field t x f => exact field_sound rfl hs (hv x (by simp [Op.operands])) hr hob
  | indexAddr t x ix => exact indexAddr_sound rfl hs (hv x (by simp [Op.operands])) (hv ix (by simp [Op.operands])) hr hob
  | index t x ix => exact index_sound rfl hs hv hr hob
  | convert t t' x => exact conv_sound rfl hs hv hr hob
  | extract x i => exact extract_sound rfl hs (hv x (by simp [Op.operands])) hr
  | makeMap t rv =>
    cases rv with
    | none => exact makeMap_sound rfl hs hr
    | some y => exact raw rfl
  | lookup t x ix ok =>
    cases ok with
    | false => exact lookup_sound rfl hs hv hr hob
    | true => exact raw rfl
  | mapUpdate t x ix y => exact mapUpdate_sound rfl hs hv hr hob
  | call cl =>
    obtain ⟨callee, args, argTypes⟩ := cl
    cases callee with
    | builtin b =>
      cases b with
      | len => exact len_sound rfl hs hv hr
      | append => exact append_sound rfl hs hv hr hob
      | _ => exact raw rfl
    | _ => exact raw rfl
  | _ => exact raw rfl

theorem rawOp_congr {o : Oper} {ρ' : Operand → V} (hρ : ∀ x, x ∈ o.op.operands → ρ' x = ρ x) : rawOp P ρ' o = rawOp P ρ o := by
  unfold rawOp
  have hall : (o.op.operands.toList.all fun x => (ρ' x).raw.isSome) = (o.op.operands.toList.all fun x => (ρ x).raw.isSome) := by
    rw [Bool.eq_iff_iff, List.all_eq_true, List.all_eq_true]
    constructor <;> intro h x hx
    · rw [← hρ x (by simpa using hx)]; exact h x hx
    · rw [hρ x (by simpa using hx)]; exact h x hx
  rw [hall]
  cases hs : isSel o.op with
  | true => rfl
  | false =>
    rw [execOp_congr (ρ := fun x => ((ρ' x).raw).getD undef) (ρ' := fun x => ((ρ x).raw).getD undef) o (fun cs b e => by rw [e] at hs; cases hs) (fun x hx => by simp only [hρ x hx])]
theorem new_local {g g' : Nat → Option (List V)} {v : V} {cs : List V} {ob : List Prop} (hr : new g key v cs ob = some r) (hh : ∀ k, k ∈ r.touch → g' k = g k) : new g' key v cs ob = some r := by
  obtain ⟨h1, rfl⟩ := new_some hr
  unfold new
  rw [hh key (by simp), h1.1, h1.2.1, h1.2.2]
  rfl
theorem src_local {g g' : Nat → Option (List V)} {sz : Nat} {v : V} {s : Src} (hr : srcOf g sz v = some s) (hh : ∀ k, k ∈ s.touch → g' k = g k) : srcOf g' sz v = some s := by
  unfold srcOf at hr ⊢
  split at hr
  · exact hr
  · rename_i k off n z tot
    obtain ⟨hm, hr⟩ := gd hr
    simp only [hm, cond_false]
    cases hb : Nat.beq z sz with
    | false => rw [hb] at hr; cases hr
    | true =>
      rw [hb] at hr
      simp only [cond_true] at hr ⊢
      cases hk : g k with
      | none => simp [hk] at hr
      | some cs =>
        simp only [hk, Option.some.injEq] at hr
        subst hr
        rw [hh k (by simp), hk]
  · exact hr
  · exact hr
  · cases hr
theorem app_local {g g' : Nat → Option (List V)} {e : TypeId} {a : V} {s : Src} (hr : app P g key e a s = some r) (hh : ∀ k, k ∈ r.touch → g' k = g k) : app P g' key e a s = some r ∧ ∀ k, k ∈ s.touch → k ∈ r.touch := by
  unfold app at hr ⊢
  cases hb : (Nat.ble 1 (P.bytesOf e) && Nat.ble (P.bytesOf e) 1048576) with
  | false => rw [hb] at hr; cases hr
  | true =>
    rw [hb] at hr
    simp only [cond_true] at hr ⊢
    split at hr
    · rename_i k m z tot
      obtain ⟨hm, hr⟩ := gd hr
      simp only [hm, cond_false]
      cases hz : Nat.beq z (P.cellsOf e) with
      | false => rw [hz] at hr; cases hr
      | true =>
        rw [hz] at hr
        simp only [cond_true] at hr ⊢
        cases hk : g k with
        | none => simp [hk] at hr
        | some cs =>
          simp only [hk] at hr
          cases hon : (owk k && !noOn s.cs) with
          | true => rw [hon] at hr; cases hr
          | false =>
          rw [hon] at hr
          simp only [cond_false, Option.some.injEq] at hr
          subst hr
          rw [hh k (by simp), hk]
          simp only [hon, cond_false]
          exact ⟨trivial, fun j hj => by simp [hj]⟩
    · cases hk : g key with
      | some q => simp [hk] at hr
      | none =>
        simp only [hk] at hr
        cases hon : (owk key || mpk key) with
        | true => rw [hon] at hr; cases hr
        | false =>
        rw [hon] at hr
        simp only [cond_false, Option.some.injEq] at hr
        subst hr
        rw [hh key (by simp), hk]
        simp only [hon, cond_false]
        exact ⟨trivial, fun j hj => by simp [hj]⟩
    · cases hr
/-- What an operation tells hangs on the rows that it touches. -/
theorem aop_local {o : Oper} {h' : Nat → Option (List V)} {ρ' : Operand → V} (hr : aop P ρ h key o = some r) (hρ : ∀ x, x ∈ o.op.operands → ρ' x = ρ x) (hh : ∀ k, k ∈ r.touch → h' k = h k) : aop P ρ' h' key o = some r := by
  have raw : (aop P ρ h key o = rawOp P ρ o) → (aop P ρ' h' key o = rawOp P ρ' o) → aop P ρ' h' key o = some r := fun e e' => by rw [e', rawOp_congr hρ, ← e]; exact hr
  have parts : ∀ ps : Array (Nat × Operand), (∀ x, x ∈ (ps.toList.map (·.2)).toArray → ρ' x = ρ x) → (ps.toList.map fun p => (p.1, ρ' p.2)) = ps.toList.map fun p => (p.1, ρ p.2) := fun ps hp =>
    List.map_congr_left fun p hm => by rw [hp p.2 (by simp only [List.mem_toArray, List.mem_map]; exact ⟨p, hm, rfl⟩)]
  obtain ⟨dst, op, type, pos, after, guard⟩ := o
  cases op with
  | move x => simp only [aop] at hr ⊢; rw [hρ x (by simp [Op.operands])]; exact hr
  | assign x => simp only [aop] at hr ⊢; rw [hρ x (by simp [Op.operands])]; exact hr
  | pick cc a b => simp only [aop] at hr ⊢; rw [hρ cc (by simp [Op.operands]), hρ a (by simp [Op.operands]), hρ b (by simp [Op.operands])]; exact hr
  | alloc t =>
    simp only [aop] at hr ⊢
    split at hr
    · exact new_local hr hh
    · cases hr
  | box t x =>
    simp only [aop] at hr ⊢
    rw [hρ x (by simp [Op.operands])]
    split at hr
    · exact new_local hr hh
    · cases hr
  | build t ps => simp only [aop] at hr ⊢; rw [parts ps hρ]; exact hr
  | buildSlice t n ps =>
    simp only [aop] at hr ⊢
    rw [parts ps hρ]
    split at hr
    · rename_i e he
      split at hr
      · rename_i z hz
        cases hb : (Nat.ble (n * P.cellsOf e) 16777216 && !Nat.beq (P.cellsOf e) 0) with
        | false => rw [hb] at hr; cases hr
        | true =>
          rw [hb] at hr
          simp only [cond_true] at hr ⊢
          split at hr
          · exact new_local hr hh
          · cases hr
      · cases hr
    · cases hr
  | load t x =>
    simp only [aop] at hr ⊢
    rw [hρ x (by simp [Op.operands])]
    split at hr
    · rename_i k off tot hx
      obtain ⟨hm, hr⟩ := gd hr
      simp only [hm, cond_false]
      cases hk : h k with
      | none => simp [hk] at hr
      | some cs =>
        simp only [hk] at hr
        cases hb : ((P.underlying t).isSome && (isAg P t || Nat.beq (P.cellsOf t) 1)) with
        | false => rw [hb] at hr; cases hr
        | true =>
          rw [hb] at hr
          simp only [cond_true, Option.some.injEq] at hr
          subst hr
          rw [hh k (by simp), hk]
          rfl
    · exact hr
    · cases hr
  | store t x y =>
    simp only [aop] at hr ⊢
    rw [hρ x (by simp [Op.operands]), hρ y (by simp [Op.operands])]
    split at hr
    · rename_i k off tot vs hx hy
      obtain ⟨hm, hr⟩ := gd hr
      simp only [hm, cond_false]
      cases hk : h k with
      | none => simp [hk] at hr
      | some cs =>
        simp only [hk] at hr
        cases hb : ((P.underlying t).isSome && Nat.beq vs.length (P.cellsOf t) && (!owk k || noOn vs)) with
        | false => rw [hb] at hr; cases hr
        | true =>
          rw [hb] at hr
          simp only [cond_true, Option.some.injEq] at hr
          subst hr
          rw [hh k (by simp), hk]
          first | rfl | simp only [hb, cond_true]
    · cases hr
  | nilCheck x => simp only [aop] at hr ⊢; rw [hρ x (by simp [Op.operands])]; exact hr
  | binOp op t x y t' =>
    have hc := rawOp_congr (P := P) hρ
    simp only [aop] at hr ⊢
    rw [hρ x (by simp [Op.operands]), hρ y (by simp [Op.operands]), hc]
    exact hr
  | makeFunc f a b =>
    simp only [aop] at hr ⊢
    rw [List.map_congr_left (l := a.toList) (f := ρ') (g := ρ) (fun x hx => hρ x (by simp [Op.operands, Array.mem_toList_iff.1 hx])), List.map_congr_left (l := b.toList) (f := ρ') (g := ρ) (fun x hx => hρ x (by simp [Op.operands, Array.mem_toList_iff.1 hx]))]
    exact hr
  | makeSlice t l cp =>
    simp only [aop] at hr ⊢
    rw [hρ l (by simp [Op.operands]), hρ cp (by simp [Op.operands])]
    split at hr
    · rename_i e n n' he e1 e2
      split at hr
      · rename_i z hz
        cases hb : Nat.beq (P.cellsOf e) 0 with
        | true => rw [hb] at hr; cases hr
        | false =>
          rw [hb] at hr
          simp only [Bool.not_false, cond_true] at hr ⊢
          exact new_local hr hh
      · cases hr
    · cases hr
  | slice t x lo hi mx =>
    cases mx with
    | none =>
      have e1 : lo.map ρ' = lo.map ρ := by cases lo with | none => rfl | some y => simp [hρ y (by simp [Op.operands])]
      have e2 : hi.map ρ' = hi.map ρ := by cases hi with | none => rfl | some y => simp [hρ y (by cases lo <;> simp [Op.operands])]
      simp only [aop] at hr ⊢
      rw [hρ x (by simp [Op.operands]), e1, e2]
      exact hr
    | some m => exact raw rfl rfl
  | fieldAddr t x f => simp only [aop] at hr ⊢; rw [hρ x (by simp [Op.operands])]; exact hr
  | field t x f => simp only [aop] at hr ⊢; rw [hρ x (by simp [Op.operands])]; exact hr
  | indexAddr t x ix => simp only [aop] at hr ⊢; rw [hρ x (by simp [Op.operands]), hρ ix (by simp [Op.operands])]; exact hr
  | index t x ix =>
    have hc := rawOp_congr (P := P) hρ
    simp only [aop] at hr ⊢
    rw [hρ x (by simp [Op.operands]), hρ ix (by simp [Op.operands]), hc]
    exact hr
  | extract x i => simp only [aop] at hr ⊢; rw [hρ x (by simp [Op.operands])]; exact hr
  | makeMap t rv =>
    cases rv with
    | some y => exact raw rfl rfl
    | none =>
      simp only [aop] at hr ⊢
      split at hr
      · rename_i m hm hk
        cases hq : mpk (key + 2000000000) with
        | false => rw [hq] at hr; cases hr
        | true =>
          rw [hq] at hr
          simp only [cond_true, Option.some.injEq] at hr
          subst hr
          rw [hh (key + 2000000000) (by simp), hm, hk]
          simp only [hq, cond_true]
      · cases hr
  | lookup t x ix ok =>
    cases ok with
    | true => exact raw rfl rfl
    | false =>
      have hc := rawOp_congr (P := P) hρ
      simp only [aop] at hr ⊢
      rw [hρ x (by simp [Op.operands]), hρ ix (by simp [Op.operands]), hc]
      split at hr
      · rename_i m q cs hm ex ei
        cases hq : mpk q with
        | false => rw [hq] at hr; cases hr
        | true =>
          rw [hq] at hr
          simp only [cond_true] at hr ⊢
          split at hr
          · rename_i f fi ks hk
            simp only [Option.some.injEq] at hr
            subst hr
            rw [hh q (by simp), hk]
          · cases hr
      · exact hr
  | mapUpdate t x ix y =>
    simp only [aop] at hr ⊢
    rw [hρ x (by simp [Op.operands]), hρ ix (by simp [Op.operands]), hρ y (by simp [Op.operands])]
    split at hr
    · rename_i m q cs hm ex ei ey
      cases hq : mpk q with
      | false => rw [hq] at hr; cases hr
      | true =>
        rw [hq] at hr
        simp only [cond_true] at hr ⊢
        split at hr
        · rename_i f fi ks hk
          simp only [Option.some.injEq] at hr
          subst hr
          rw [hh q (by simp), hk]
        · cases hr
    · cases hr
  | convert t t' x =>
    have hc := rawOp_congr (P := P) hρ
    simp only [aop] at hr ⊢
    rw [hρ x (by simp [Op.operands]), hc]
    split at hr
    · exact hr
    · rename_i k off n sz tot hx
      obtain ⟨hm, hr⟩ := gd hr
      simp only [hm, cond_false]
      cases hk : h k with
      | none => simp [hk] at hr
      | some cs =>
        simp only [hk] at hr
        split at hr
        · rename_i bs hb
          cases hb2 : (isU8 P t && isStr P t' && Nat.beq sz 1) with
          | false => rw [hb2] at hr; cases hr
          | true =>
            rw [hb2] at hr
            simp only [cond_true, Option.some.injEq] at hr
            subst hr
            rw [hh k (by simp), hk]
            simp only [hb, hb2, cond_true]
        · cases hr
    · exact hr
  | call cl =>
    obtain ⟨callee, args, argTypes⟩ := cl
    cases callee with
    | builtin b =>
      cases b with
      | len =>
        simp only [aop] at hr ⊢
        split at hr
        · rename_i x t ha ht
          have ha' : args = #[x] := by apply Array.ext'; simpa using ha
          subst ha'
          rw [hρ x (by simp [Op.operands, Call.operands])]
          exact hr
        · cases hr
      | append =>
        simp only [aop] at hr ⊢
        split at hr
        · rename_i a x t t' rest ha ht
          have ha' : args = #[a, x] := by apply Array.ext'; simpa using ha
          subst ha'
          rw [hρ a (by simp [Op.operands, Call.operands]), hρ x (by simp [Op.operands, Call.operands])]
          split at hr
          · cases hr
          · rename_i e d hni he hd
            cases hb : (!Nat.beq (P.cellsOf e) 0 && (zeros P e).isSome) with
            | false => rw [hb] at hr; cases hr
            | true =>
              rw [hb] at hr
              simp only [cond_true] at hr ⊢
              split at hr
              · rename_i s hsrc
                obtain ⟨h1, h2⟩ := app_local hr hh
                rw [src_local hsrc (fun k hk => hh k (h2 k hk))]
                exact h1
              · cases hr
          · cases hr
        · cases hr
      | _ => exact raw rfl rfl
    | _ => exact raw rfl rfl
  | _ => exact raw rfl rfl
end
end Go.Proofs.Ytpjmefdpjlhkhaa.Eng

/- The engine, part 11: values are handed over: rows lent for reading or handed over for writing, and what comes back. -/
namespace Go.Proofs.Ytpjmefdpjlhkhaa.Eng
open Go.RowKit
set_option linter.unusedVariables false
set_option linter.unusedSimpArgs false
/-- A value without own rows: those in bor are read as they stand (tb: the mark of what is read so). -/
inductive Frz (H : Nat → Option (List V)) (tb : Bool) (bor : List Nat) : V → V → Prop
  | s {x : Value} : Frz H tb bor (.s x) (.s x)
  | nil {t : Bool} {sz : Nat} : Frz H tb bor (.s (.slice none 0 0)) (.sl t 0 sz [])
  | sl {t t' : Bool} {n sz : Nat} {cs cs' : List V} (hl : cs'.length = cs.length) (ht : t = true → t' = true) (h : ∀ i (h : i < cs.length) (h' : i < cs'.length), Frz H tb bor cs[i] cs'[i]) : Frz H tb bor (.sl t n sz cs) (.sl t' n sz cs')
  | ip {t t' : Bool} {cs cs' : List V} (hl : cs'.length = cs.length) (ht : t = true → t' = true) (h : ∀ i (h : i < cs.length) (h' : i < cs'.length), Frz H tb bor cs[i] cs'[i]) : Frz H tb bor (.ip t cs) (.ip t' cs')
  | rf {k off n sz tot : Nat} {cs cs' : List V} (hm : mpk k = false) (hk : k ∈ bor) (hH : H k = some cs) (ht : tot = cs.length) (hb : off + n * sz ≤ cs.length) (hl : cs'.length = n * sz)
      (h : ∀ i (h : off + i < cs.length) (h' : i < cs'.length), Frz H tb bor cs[off + i] cs'[i]) : Frz H tb bor (.rf k off n sz tot) (.sl tb n sz cs')
  | ag {cs cs' : List V} (hl : cs'.length = cs.length) (h : ∀ i (h : i < cs.length) (h' : i < cs'.length), Frz H tb bor cs[i] cs'[i]) : Frz H tb bor (.ag cs) (.ag cs')
  | un {v : V} : Frz H tb bor v .un
  | on {n sz : Nat} {ds : List V} : Frz H tb bor (.on n sz ds) (.on n sz ds)
  | rfN {k off n sz tot : Nat} {cs cs' : List V} (hk : k ∈ bor) (hko : owk k = true) (hH : H k = some cs) (ht : tot = cs.length) (hb : off + n * sz ≤ cs.length) (hl : cs'.length = n * sz)
      (h : ∀ i (h : off + i < cs.length) (h' : i < cs'.length), isOn cs[off + i] = false → Frz H tb bor cs[off + i] cs'[i])
      (hN : ∀ i (h : off + i < cs.length) (h' : i < cs'.length) m z ds, cs[off + i] = .on m z ds → cs'[i] = .sl tb m z ds) : Frz H tb bor (.rf k off n sz tot) (.sl tb n sz cs')
/-- .. rows of km are handed over by another name. -/
inductive Cnv (H : Nat → Option (List V)) (tb : Bool) (bor : List Nat) (km : List (Nat × Nat)) : V → V → Prop
  | z {v v' : V} (h : Frz H tb bor v v') : Cnv H tb bor km v v'
  | pt {k k' off tot : Nat} (h : (k, k') ∈ km) : Cnv H tb bor km (.pt k off tot) (.pt k' off tot)
  | rf {k k' off n sz tot : Nat} (h : (k, k') ∈ km) : Cnv H tb bor km (.rf k off n sz tot) (.rf k' off n sz tot)
  | nl {k k' sz : Nat} (h : (k, k') ∈ km) (hH : (H k).isSome = true) : Cnv H tb bor km (.s (.slice none 0 0)) (.rf k' 0 0 sz 0)
  | ag {cs cs' : List V} (hl : cs'.length = cs.length) (h : ∀ i (h : i < cs.length) (h' : i < cs'.length), Cnv H tb bor km cs[i] cs'[i]) : Cnv H tb bor km (.ag cs) (.ag cs')
  | tp {cs cs' : List V} (hl : cs'.length = cs.length) (h : ∀ i (h : i < cs.length) (h' : i < cs'.length), Cnv H tb bor km cs[i] cs'[i]) : Cnv H tb bor km (.tp cs) (.tp cs')
  | fn {f : Fn} {a a' b b' : List V} (hl : a'.length = a.length) (hl2 : b'.length = b.length) (h : ∀ i (h : i < a.length) (h' : i < a'.length), Cnv H tb bor km a[i] a'[i]) (h2 : ∀ i (h : i < b.length) (h' : i < b'.length), Cnv H tb bor km b[i] b'[i]) : Cnv H tb bor km (.fn f a b) (.fn f a' b')
section
variable {P : Program} {c c' : Cx} {H : Nat → Option (List V)} {w : World} {Ow : Nat → Nat → Prop} {tb : Bool} {bor : List Nat} {km : List (Nat × Nat)}
theorem Frz.sound {v v' : V} (hf : Frz H tb bor v v') : ∀ {x : Value}, Sim c H w Ow → R c (ln H) w v x → (∀ t t' b, c.ok t b → (t = true → t' = true) → c'.ok t' b) → (∀ k b, k ∈ bor → (H k).isSome = true → c.φ k = some b → c'.ok tb b) → (∀ k i m z ds b, k ∈ bor → Nst H k i m z ds → c.ψ k i = some b → c'.ok tb b) → R0 c'.ok w v' x := by
  induction hf with
  | s => intro x hs h _ _ _; obtain ⟨e, ho⟩ := h.s_inv; subst e; exact .s ho
  | nil => intro x hs h _ _ _; obtain ⟨e, ho⟩ := h.s_inv; subst e; exact .sl0
  | @sl t t' n sz cs cs' hl ht _ ih =>
    intro x hs h h1 h2 h3
    rcases h.sl_inv with ⟨h0, h4, a, cap, rfl⟩ | ⟨u, b, off, cap, rfl, hok, hn, hlen, hc, ho, hr⟩
    · subst h0 h4
      have : cs' = [] := List.eq_nil_of_length_eq_zero (by simpa using hl)
      subst this
      exact .sl0
    · exact .sl u (h1 _ _ _ hok ht) hn (by omega) (fun i hi => hc i (by omega)) (fun i hi => ho i (by omega)) (fun i hi => ih i (by omega) hi hs (.i (hr i (by omega))) h1 h2 h3)
  | @ip t t' cs cs' hl ht _ ih =>
    intro x hs h h1 h2 h3
    obtain ⟨u, b, off, rfl, hok, hc, ho, hr⟩ := h.ip_inv
    exact .ip u (h1 _ _ _ hok ht) (fun i hi => hc i (by omega)) (fun i hi => ho i (by omega)) (fun i hi => ih i (by omega) hi hs (.i (hr i (by omega))) h1 h2 h3)
  | @rf k off n sz tot cs cs' hm hk hH ht hb hl _ ih =>
    intro x hs h h1 h2 h3
    rcases h.rf_inv with ⟨rfl, z1, z2, z3, _⟩ | ⟨b, cap, l, rfl, hL, htl, hn, hφ⟩
    · subst z2
      have : cs' = [] := List.eq_nil_of_length_eq_zero (by rw [hl, Nat.zero_mul])
      subst this
      exact .sl0
    rw [ln_some hH] at hL
    injection hL with hL
    obtain ⟨hφb, _⟩ := hφ (by omega)
    obtain ⟨u, hc, ho, hr⟩ := own_cells hs hm hH hφb off
    refine .sl u (h2 k b hk (by rw [hH]; rfl) hφb) hn hl (fun i hi => hc i (by rw [List.length_drop]; omega)) (fun i hi => ho i (by rw [List.length_drop]; omega)) (fun i hi => ?_)
    have := hr i (by rw [List.length_drop]; omega)
    rw [List.getElem_drop] at this
    exact ih i (by omega) hi hs this h1 h2 h3
  | @ag cs cs' hl _ ih =>
    intro x hs h h1 h2 h3
    obtain ⟨us, rfl, hsz, ho, hr⟩ := h.ag_inv
    exact .ag (by omega) (fun i hi => ho i (by omega)) (fun i hi => ih i (by omega) hi hs (hr i (by omega)) h1 h2 h3)
  | un => intro x hs h _ _ _; exact .un
  | on => intro x hs h _ _ _; exact .on
  | @rfN k off n sz tot cs cs' hk hko hH ht hb hl _ hN ih =>
    intro x hs h h1 h2 h3
    rcases h.rf_inv with ⟨rfl, z1, z2, z3, _⟩ | ⟨b, cap, l, rfl, hL, htl, hn, hφ⟩
    · subst z2
      have : cs' = [] := List.eq_nil_of_length_eq_zero (by rw [hl, Nat.zero_mul])
      subst this
      exact .sl0
    rw [ln_some hH] at hL
    injection hL with hL
    obtain ⟨hφb, _⟩ := hφ (by omega)
    obtain ⟨u, hc, ho, hr⟩ := own_cells hs (mpk_ow hko) hH hφb off
    refine .sl u (h2 k b hk (by rw [hH]; rfl) hφb) hn hl (fun i hi => hc i (by rw [List.length_drop]; omega)) (fun i hi => ho i (by rw [List.length_drop]; omega)) (fun i hi => ?_)
    have this := hr i (by rw [List.length_drop]; omega)
    rw [List.getElem_drop] at this
    cases hon : isOn (cs[off + i]'(by omega)) with
    | false => exact ih i (by omega) hi hon hs this h1 h2 h3
    | true =>
      cases hcv : cs[off + i]'(by omega) with
      | on m z ds =>
        rw [hN i (by omega) hi m z ds hcv]
        have hst : Nst H k (off + i) m z ds := ⟨cs, hH, hko, by rw [List.getElem?_eq_getElem (by omega), hcv]⟩
        obtain ⟨b2, arr, ty, e1, e2, e3⟩ := hs.nest.obj k (off + i) m z ds hst
        rw [hφb] at e1
        injection e1 with e1
        subst e1
        have hu : u i = arr.getD (off + i) undef := by
          have g := hc i (by rw [List.length_drop]; omega)
          unfold World.cell? at g
          rw [show (⟨b, off + i, none⟩ : Addr).block = b from rfl, e2] at g
          simp only [Option.isSome_none, Bool.false_eq_true, if_false] at g
          rw [Array.getD_eq_getD_getElem?, g]; rfl
        rw [hu]
        rcases e3 with ⟨q1, q2, q3, q4⟩ | ⟨b3, cap3, arr3, ty3, q1, q2, q3, q4, q5, q6, q7⟩
        · rw [q4]; subst q2 q3; exact .sl0
        · rw [q2]
          have hlz : m * z ≤ cap3 * z := Nat.mul_le_mul_right _ q4
          refine .sl (fun j => arr3.getD j undef) (h3 k (off + i) m z ds b3 hk hst q1) q4 q5 (fun j hj => ?_) (fun j hj => (q7 j hj).2) (fun j hj => ?_)
          · have : j < arr3.size := by omega
            unfold World.cell?
            rw [show (⟨b3, 0 + j, none⟩ : Addr).block = b3 from rfl, q3]
            simp [this, Array.getD_eq_getD_getElem?]
          · rw [(q7 j hj).1]; exact .s (q7 j hj).2
      | _ => rw [hcv] at hon; cases hon
theorem Cnv.sound {v v' : V} {L' : Nat → Option Nat} (hf : Cnv H tb bor km v v') : ∀ {x : Value}, Sim c H w Ow → R c (ln H) w v x → (∀ t t' b, c.ok t b → (t = true → t' = true) → c'.ok t' b) → (∀ k b, k ∈ bor → (H k).isSome = true → c.φ k = some b → c'.ok tb b) → (∀ k i m z ds b, k ∈ bor → Nst H k i m z ds → c.ψ k i = some b → c'.ok tb b) →
    (∀ k k', (k, k') ∈ km → L' k' = ln H k ∧ c'.φ k' = c.φ k ∧ c'.ph k' = c.ph k ∧ mpk k = mpk k') → R c' L' w v' x := by
  induction hf with
  | z h => intro x hs hr h1 h2 h2n h3; exact .i (h.sound hs hr h1 h2 h2n)
  | pt hk =>
    intro x hs hr h1 h2 h2n h3
    obtain ⟨b, l, rfl, hl, ht, hφ⟩ := hr.pt_inv
    obtain ⟨e1, e2, e3, e4⟩ := h3 _ _ hk
    rw [ptv_eq e4]
    exact .pt (e1.trans hl) ht (fun e => e2.trans (hφ e))
  | rf hk =>
    intro x hs hr h1 h2 h2n h3
    rcases hr.rf_inv with ⟨rfl, z1, z2, z3, l, hl⟩ | ⟨b, cap, l, rfl, hl, ht, hn, hφ⟩
    · subst z1 z2 z3; exact .rf0 ((h3 _ _ hk).1.trans hl)
    obtain ⟨e1, e2, e3, e4⟩ := h3 _ _ hk
    exact .rf (e1.trans hl) ht hn (fun e => ⟨e2.trans (hφ e).1, by rw [e3]; exact (hφ e).2⟩)
  | @nl k k' sz hk hH =>
    intro x hs hr h1 h2 h2n h3
    obtain ⟨cs, hcs⟩ := Option.isSome_iff_exists.1 hH
    have := hr.s_inv.1
    subst this
    exact .rf0 ((h3 _ _ hk).1.trans (ln_some hcs))
  | @ag cs cs' hl _ ih =>
    intro x hs hr h1 h2 h2n h3
    obtain ⟨us, rfl, hsz, ho, hr⟩ := hr.ag_inv
    exact .ag (by omega) (fun i hi => ho i (by omega)) (fun i hi => ih i (by omega) hi hs (hr i (by omega)) h1 h2 h2n h3)
  | @tp cs cs' hl _ ih =>
    intro x hs hr h1 h2 h2n h3
    obtain ⟨us, rfl, hsz, hr⟩ := hr.tp_inv
    exact .tp (by omega) (fun i hi => ih i (by omega) hi hs (hr i (by omega)) h1 h2 h2n h3)
  | @fn f a a' b b' hl hl2 _ _ ih ih2 =>
    intro x hs hr h1 h2 h2n h3
    obtain ⟨fa, ca, rfl, q1, q2, q3, q4⟩ := hr.fn_inv
    exact .fn (by omega) (by omega) (fun i hi => ih i (by omega) hi hs (q3 i (by omega)) h1 h2 h2n h3) (fun i hi => ih2 i (by omega) hi hs (q4 i (by omega)) h1 h2 h2n h3)
/-- A value that leads to nothing that was lent (b: nothing was). -/
inductive Cln (b : Bool) : V → Prop
  | s {x : Value} : Cln b (.s x)
  | sl {t : Bool} {n sz : Nat} {cs : List V} (ht : t = true → b = true) (h : ∀ v, v ∈ cs → Cln b v) : Cln b (.sl t n sz cs)
  | ip {t : Bool} {cs : List V} (ht : t = true → b = true) (h : ∀ v, v ∈ cs → Cln b v) : Cln b (.ip t cs)
  | ag {cs : List V} (h : ∀ v, v ∈ cs → Cln b v) : Cln b (.ag cs)
  | un : Cln b .un
  | on {n sz : Nat} {ds : List V} : Cln b (.on n sz ds)
theorem Cln.sound {b : Bool} {v : V} (hv : Cln b v) : ∀ {x : Value} {L : Nat → Option Nat} {ok' : Bool → Nat → Prop}, R c L w v x → (∀ t q, c.ok t q → (t = true → b = true) → ok' t q) → R0 ok' w v x := by
  induction hv with
  | s => intro x L ok' h _; obtain ⟨e, ho⟩ := h.s_inv; subst e; exact .s ho
  | @sl t n sz cs ht _ ih =>
    intro x L ok' h h1
    rcases h.sl_inv with ⟨h0, h3, a, cap, rfl⟩ | ⟨u, q, off, cap, rfl, hok, hn, hlen, hc, ho, hr⟩
    · subst h0 h3; exact .sl0
    · exact .sl u (h1 _ _ hok ht) hn hlen hc ho (fun i hi => ih _ (List.getElem_mem hi) (.i (hr i hi) : R c L w _ _) h1)
  | @ip t cs ht _ ih =>
    intro x L ok' h h1
    obtain ⟨u, q, off, rfl, hok, hc, ho, hr⟩ := h.ip_inv
    exact .ip u (h1 _ _ hok ht) hc ho (fun i hi => ih _ (List.getElem_mem hi) (.i (hr i hi) : R c L w _ _) h1)
  | @ag cs _ ih =>
    intro x L ok' h h1
    obtain ⟨us, rfl, hsz, ho, hr⟩ := h.ag_inv
    exact .ag hsz ho (fun i hi => ih _ (List.getElem_mem hi) (hr i hi) h1)
  | un => intro x L ok' h _; exact .un
  | on => intro x L ok' h _; exact .on
/-- What comes back: rows by the caller's names. -/
inductive Bck (b : Bool) (km : List (Nat × Nat)) : V → V → Prop
  | z {v : V} (h : Cln b v) : Bck b km v v
  | pt {k k' off tot : Nat} (h : (k, k') ∈ km) : Bck b km (.pt k' off tot) (.pt k off tot)
  | rf {k k' off n sz tot : Nat} (h : (k, k') ∈ km) : Bck b km (.rf k' off n sz tot) (.rf k off n sz tot)
  | ag {cs cs' : List V} (hl : cs'.length = cs.length) (h : ∀ i (h : i < cs.length) (h' : i < cs'.length), Bck b km cs[i] cs'[i]) : Bck b km (.ag cs) (.ag cs')
  | tp {cs cs' : List V} (hl : cs'.length = cs.length) (h : ∀ i (h : i < cs.length) (h' : i < cs'.length), Bck b km cs[i] cs'[i]) : Bck b km (.tp cs) (.tp cs')
  | fn {f : Fn} {x x' y y' : List V} (hl : x'.length = x.length) (hl2 : y'.length = y.length) (h : ∀ i (h : i < x.length) (h' : i < x'.length), Bck b km x[i] x'[i]) (h2 : ∀ i (h : i < y.length) (h' : i < y'.length), Bck b km y[i] y'[i]) : Bck b km (.fn f x y) (.fn f x' y')
theorem Bck.sound {b : Bool} {v v' : V} {L L' : Nat → Option Nat} (hf : Bck b km v v') : ∀ {x : Value}, R c L w v x → (∀ t q, c.ok t q → (t = true → b = true) → c'.ok t q) →
    (∀ k k', (k, k') ∈ km → L' k = L k' ∧ c'.φ k = c.φ k' ∧ c'.ph k = c.ph k' ∧ mpk k' = mpk k) → R c' L' w v' x := by
  induction hf with
  | z h => intro x hr h1 h3; exact .i (h.sound hr h1)
  | pt hk =>
    intro x hr h1 h3
    obtain ⟨b, l, rfl, hl, ht, hφ⟩ := hr.pt_inv
    obtain ⟨e1, e2, e3, e4⟩ := h3 _ _ hk
    rw [ptv_eq e4]
    exact .pt (e1.trans hl) ht (fun e => e2.trans (hφ e))
  | rf hk =>
    intro x hr h1 h3
    rcases hr.rf_inv with ⟨rfl, z1, z2, z3, l, hl⟩ | ⟨b, cap, l, rfl, hl, ht, hn, hφ⟩
    · subst z1 z2 z3; exact .rf0 ((h3 _ _ hk).1.trans hl)
    obtain ⟨e1, e2, e3, e4⟩ := h3 _ _ hk
    exact .rf (e1.trans hl) ht hn (fun e => ⟨e2.trans (hφ e).1, by rw [e3]; exact (hφ e).2⟩)
  | @ag cs cs' hl _ ih =>
    intro x hr h1 h3
    obtain ⟨us, rfl, hsz, ho, hr⟩ := hr.ag_inv
    exact .ag (by omega) (fun i hi => ho i (by omega)) (fun i hi => ih i (by omega) hi (hr i (by omega)) h1 h3)
  | @tp cs cs' hl _ ih =>
    intro x hr h1 h3
    obtain ⟨us, rfl, hsz, hr⟩ := hr.tp_inv
    exact .tp (by omega) (fun i hi => ih i (by omega) hi (hr i (by omega)) h1 h3)
  | @fn f x x' y y' hl hl2 _ _ ih ih2 =>
    intro z hr h1 h3
    obtain ⟨fa, ca, rfl, q1, q2, q3, q4⟩ := hr.fn_inv
    exact .fn (by omega) (by omega) (fun i hi => ih i (by omega) hi (q3 i (by omega)) h1 h3) (fun i hi => ih2 i (by omega) hi (q4 i (by omega)) h1 h3)
end
theorem Frz.on_inv {H : Nat → Option (List V)} {tb : Bool} {bor : List Nat} {v : V} {n sz : Nat} {ds : List V} (h : Frz H tb bor v (.on n sz ds)) : v = .on n sz ds := by cases h; rfl
theorem Cnv.on_inv {H : Nat → Option (List V)} {tb : Bool} {bor : List Nat} {km : List (Nat × Nat)} {v : V} {n sz : Nat} {ds : List V} (h : Cnv H tb bor km v (.on n sz ds)) : v = .on n sz ds := by
  cases h with
  | z h => exact h.on_inv
theorem Bck.on_inv {b : Bool} {km : List (Nat × Nat)} {v : V} {n sz : Nat} {ds : List V} (h : Bck b km v (.on n sz ds)) : v = .on n sz ds := by
  cases h with
  | z h => rfl
/-- A name that is not given yet. -/
theorem free_key (hp : Hp) : ∃ j, opk j = true ∧ hget hp j = none := by
  have : ∃ m, ∀ j, m ≤ j → hget hp j = none := by
    induction hp with
    | nil => exact ⟨0, fun j _ => rfl⟩
    | cons p r ih =>
      obtain ⟨m, hm⟩ := ih
      obtain ⟨k, cs⟩ := p
      refine ⟨max m (k + 1), fun j hj => ?_⟩
      rw [hget, nbeq (by omega), cond_false]
      exact hm j (by omega)
  obtain ⟨m, hm⟩ := this
  exact ⟨1000000000 + m, Nat.ble_eq_true_of_le (by omega), hm _ (by omega)⟩
/-- A call: the function, what it is given as it sees it, what it gives, and how both stand to the caller's rows. -/
structure Cal where
  f : FuncId
  args : List V
  hp : Hp
  res : V
  hp' : Hp
  bor : List Nat
  km : List (Nat × Nat)
  km' : List (Nat × Nat)
  v : V
  post : Hp
structure COK (H : Nat → Option (List V)) (A : List V) (C : Cal) : Prop where
  alen : C.args.length = A.length
  args : ∀ i (h : i < A.length) (h' : i < C.args.length), Cnv H true C.bor C.km A[i] C.args[i]
  dom : ∀ k k', (k, k') ∈ C.km → ∃ cs cs', H k = some cs ∧ hget C.hp k' = some cs' ∧ cs'.length = cs.length ∧ ∀ i (h : i < cs.length) (h' : i < cs'.length), Cnv H true C.bor C.km cs[i] cs'[i]
  hpd : ∀ k' cs', hget C.hp k' = some cs' → ∃ k, (k, k') ∈ C.km
  apart : ∀ k k', (k, k') ∈ C.km → k ∉ C.bor
  up : ∀ p, p ∈ C.km → p ∈ C.km'
  new : ∀ k k', (k, k') ∈ C.km' → (k, k') ∈ C.km ∨ H k = none
  inj1 : ∀ k k1 k2, (k, k1) ∈ C.km' → (k, k2) ∈ C.km' → k1 = k2
  inj2 : ∀ k k1 k2, (k1, k) ∈ C.km' → (k2, k) ∈ C.km' → k1 = k2
  res : ∃ b, (b = true → C.bor = []) ∧ Bck b C.km' C.res C.v ∧ ∀ k k', (k, k') ∈ C.km' → ∃ cs cs', hget C.hp' k' = some cs ∧ hget C.post k = some cs' ∧ cs'.length = cs.length ∧ ∀ i (h : i < cs.length) (h' : i < cs'.length), Bck b C.km' cs[i] cs'[i]
  post : ∀ k cs, hget C.post k = some cs → ∃ k', (k, k') ∈ C.km'
  cls : ∀ k k', (k, k') ∈ C.km' → owk k = owk k' ∧ (opk k' = true → opk k = true) ∧ mpk k = mpk k'
def updH (h : Nat → Option (List V)) (p : Hp) (k : Nat) : Option (List V) := match hget p k with
  | some cs => some cs
  | none => h k
def OwOf (c : Cx) (hp : Hp) (w : World) (j b : Nat) : Prop := w.heap.size ≤ b ∨ ((∃ cs, hget hp j = some cs) ∧ c.φ j = some b) ∨ (opk j = true ∧ ∃ k i n sz ds, Nst (hget hp) k i n sz ds ∧ c.ψ k i = some b)
-- LIBRARY (what is known of the library's own variables: of the blocks below glo)
def glo (P : Program) : Nat := 0
def LibG (P : Program) (w : World) : Prop := True
theorem LibG.keep {P : Program} {w w' : World} (h : LibG P w) (hk : ∀ b, b < glo P → w'.heap[b]? = w.heap[b]?) : LibG P w' := trivial
-- END OF LIBRARY
/-- The library's variables are as they were, and nobody may write them. -/
structure GL (P : Program) (w : World) (Ow : Nat → Nat → Prop) : Prop where
  lib : LibG P w
  size : glo P ≤ w.heap.size
  glob : ∀ k b, Ow k b → glo P ≤ b
theorem GL.keep {P : Program} {w w' : World} {Ow : Nat → Nat → Prop} (h : GL P w Ow) (hk : Keep Ow w w') : GL P w' Ow :=
  ⟨h.lib.keep fun b hb => hk.block b fun k ho => by have := h.glob k b ho; omega, by have := h.size; have := hk.size; omega, h.glob⟩
/-- What is told of a function's call. -/
def Spec (P : Program) (f : FuncId) (args : List V) (hp : Hp) (res : V) (hp' : Hp) : Prop :=
  ∀ (c : Cx) (w : World) (xs : Array Value), GL P w (OwOf c hp w) → Sim c (hget hp) w (OwOf c hp w) → xs.size = args.length → (∀ i (h : i < args.length), R c (ln (hget hp)) w args[i] (xs.getD i undef)) →
    Calls P f xs w fun e w2 => ∃ x c2, e = .returned x ∧ R c2 (ln (hget hp')) w2 res x ∧ Sim c2 (hget hp') w2 (OwOf c hp w) ∧ Ext c (ln (hget hp)) w c2 (ln (hget hp')) w2 ∧ Keep (OwOf c hp w) w w2 ∧ ∀ t b, c2.ok t b → c.ok t b ∨ (w.heap.size ≤ b ∧ c2.ok false b)
end Go.Proofs.Ytpjmefdpjlhkhaa.Eng

/- The engine, part 12: a call, seen by its caller. -/
namespace Go.Proofs.Ytpjmefdpjlhkhaa.Eng
open Go.RowKit
set_option linter.unusedVariables false
set_option linter.unusedSimpArgs false
section
variable {P : Program} {c : Cx} {H : Nat → Option (List V)} {w : World} {Ow : Nat → Nat → Prop}
/-- The caller's row of this name, by the callee's. -/
def byCallee : List (Nat × Nat) → Nat → Option Nat
  | [], _ => none
  | (k, k') :: r, j => bif Nat.beq k' j then some k else byCallee r j
def byCaller : List (Nat × Nat) → Nat → Option Nat
  | [], _ => none
  | (k, k') :: r, j => bif Nat.beq k j then some k' else byCaller r j
theorem byCallee_mem : ∀ {km : List (Nat × Nat)} {j k : Nat}, byCallee km j = some k → (k, j) ∈ km
  | (k0, k') :: r, j, k, h => by
    by_cases e : k' = j
    · subst e
      simp [byCallee] at h
      subst h
      simp
    · simp only [byCallee, nbeq e, cond_false] at h
      exact List.mem_cons_of_mem _ (byCallee_mem h)
theorem byCallee_some : ∀ {km : List (Nat × Nat)} {j k : Nat}, (k, j) ∈ km → ∃ k2, byCallee km j = some k2
  | (k0, k') :: r, j, k, h => by
    by_cases e : k' = j
    · subst e; exact ⟨k0, by simp [byCallee]⟩
    · rcases List.mem_cons.1 h with h | h
      · injection h with h1 h2; exact absurd h2.symm e
      · obtain ⟨k2, h2⟩ := byCallee_some h
        exact ⟨k2, by simp [byCallee, nbeq e, h2]⟩
theorem byCaller_mem : ∀ {km : List (Nat × Nat)} {j k : Nat}, byCaller km j = some k → (j, k) ∈ km
  | (k0, k') :: r, j, k, h => by
    by_cases e : k0 = j
    · subst e
      simp [byCaller] at h
      subst h
      simp
    · simp only [byCaller, nbeq e, cond_false] at h
      exact List.mem_cons_of_mem _ (byCaller_mem h)
theorem byCaller_some : ∀ {km : List (Nat × Nat)} {j k : Nat}, (j, k) ∈ km → ∃ k2, byCaller km j = some k2
  | (k0, k') :: r, j, k, h => by
    by_cases e : k0 = j
    · subst e; exact ⟨k', by simp [byCaller]⟩
    · rcases List.mem_cons.1 h with h | h
      · injection h with h1 h2; exact absurd h1.symm e
      · obtain ⟨k2, h2⟩ := byCaller_some h
        exact ⟨k2, by simp [byCaller, nbeq e, h2]⟩
theorem call_sound {A : List V} {C : Cal} {xs : Array Value} (hs : Sim c H w Ow) (hC : COK H A C) (hx : xs.size = A.length) (hr : ∀ i (h : i < A.length), R c (ln H) w A[i] (xs.getD i undef)) (hS : Spec P C.f C.args C.hp C.res C.hp') (hg : GL P w Ow) :
    Calls P C.f xs w fun e w2 => ∃ x c3, e = .returned x ∧ R c3 (ln (updH H C.post)) w2 C.v x ∧ Sim c3 (updH H C.post) w2 Ow ∧ Ext c (ln H) w c3 (ln (updH H C.post)) w2 ∧ Keep Ow w w2 ∧ ∀ t b, c3.ok t b → c.ok t b ∨ (w.heap.size ≤ b ∧ c3.ok false b) := by
  have kmeq : ∀ {k k' k2}, (k, k') ∈ C.km → byCallee C.km k' = some k2 → k2 = k := fun h1 h2 => hC.inj2 _ _ _ (hC.up _ (byCallee_mem h2)) (hC.up _ h1)
  obtain ⟨cc, hcc⟩ : ∃ cc : Cx, cc = { φ := fun j => match byCallee C.km j with | some k => c.φ k | none => none, ph := fun j => match byCallee C.km j with | some k => c.ph k | none => 0, ok := fun t b => c.ok t b ∨ (t = true ∧ ((∃ k, k ∈ C.bor ∧ (H k).isSome = true ∧ c.φ k = some b) ∨ ∃ k i n sz ds, k ∈ C.bor ∧ Nst H k i n sz ds ∧ c.ψ k i = some b)), ψ := fun j i => match byCallee C.km j with | some k => c.ψ k i | none => none } := ⟨_, rfl⟩
  have hφ : ∀ k k', (k, k') ∈ C.km → cc.φ k' = c.φ k ∧ cc.ph k' = c.ph k := by
    intro k k' h
    obtain ⟨k2, h2⟩ := byCallee_some h
    have := kmeq h h2
    subst this
    subst hcc
    simp [h2]
  have hψ : ∀ k k' i, (k, k') ∈ C.km → cc.ψ k' i = c.ψ k i := by
    intro k k' i h
    obtain ⟨k2, h2⟩ := byCallee_some h
    have := kmeq h h2
    subst this
    subst hcc
    simp [h2]
  have hψi : ∀ k' i b, cc.ψ k' i = some b → ∃ k, (k, k') ∈ C.km ∧ c.ψ k i = some b := by
    intro k' i b h
    subst hcc
    simp only at h
    split at h
    · rename_i k h2; exact ⟨k, byCallee_mem h2, h⟩
    · cases h
  have hφi : ∀ k' b, cc.φ k' = some b → ∃ k, (k, k') ∈ C.km ∧ c.φ k = some b := by
    intro k' b h
    subst hcc
    simp only at h
    split at h
    · rename_i k h2; exact ⟨k, byCallee_mem h2, h⟩
    · cases h
  have hok : ∀ t t' b, c.ok t b → (t = true → t' = true) → cc.ok t' b := by
    intro t t' b h1 h2
    subst hcc
    refine .inl ?_
    cases t with
    | true => rw [h2 rfl]; exact h1
    | false => cases t' with
      | false => exact h1
      | true => exact hs.mono b h1
  have hokb : ∀ k b, k ∈ C.bor → (H k).isSome = true → c.φ k = some b → cc.ok true b := by
    intro k b h1 h2 h3; subst hcc; exact .inr ⟨rfl, .inl ⟨k, h1, h2, h3⟩⟩
  have hokn : ∀ k i n sz ds b, k ∈ C.bor → Nst H k i n sz ds → c.ψ k i = some b → cc.ok true b := by
    intro k i n sz ds b h1 h2 h3; subst hcc; exact .inr ⟨rfl, .inr ⟨k, i, n, sz, ds, h1, h2, h3⟩⟩
  have hoki : ∀ t b, cc.ok t b → c.ok t b ∨ (t = true ∧ ((∃ k, k ∈ C.bor ∧ (H k).isSome = true ∧ c.φ k = some b) ∨ ∃ k i n sz ds, k ∈ C.bor ∧ Nst H k i n sz ds ∧ c.ψ k i = some b)) := by
    intro t b h; subst hcc; exact h
  have hL : ∀ k k', (k, k') ∈ C.km → ln (hget C.hp) k' = ln H k := by
    intro k k' h
    obtain ⟨cs, cs', h1, h2, h3, _⟩ := hC.dom k k' h
    simp [ln, h1, h2, h3]
  have hmap : ∀ k k', (k, k') ∈ C.km → ln (hget C.hp) k' = ln H k ∧ cc.φ k' = c.φ k ∧ cc.ph k' = c.ph k ∧ mpk k = mpk k' := fun k k' h => ⟨hL k k' h, (hφ k k' h).1, (hφ k k' h).2, (hC.cls k k' (hC.up _ h)).2.2⟩
  have hnotok : ∀ k k' b, (k, k') ∈ C.km → c.φ k = some b → ∀ t, ¬ cc.ok t b := by
    intro k k' b hk hb t ht
    obtain ⟨cs, cs', h1, _⟩ := hC.dom k k' hk
    rcases hoki t b ht with h | ⟨_, ⟨k2, h2, h3, h4⟩ | ⟨k2, i, n, sz, ds, h2, h3, h4⟩⟩
    · exact (hs.own k cs b h1 hb).2 t h
    · obtain ⟨cs2, h5⟩ := Option.isSome_iff_exists.1 h3
      have := hs.inj k k2 cs cs2 b h1 h5 hb h4
      subst this
      exact hC.apart _ _ hk h2
    · exact (hs.nest.own k2 i n sz ds b h3 h4).2.2 k cs h1 hb
  have hnst : ∀ k k' i n sz ds, (k, k') ∈ C.km → Nst (hget C.hp) k' i n sz ds → Nst H k i n sz ds := by
    rintro k k' i n sz ds hk ⟨cs', h1, h2, h3⟩
    obtain ⟨cs, cs2, g1, g2, g3, g4⟩ := hC.dom k k' hk
    rw [h1] at g2
    injection g2 with g2
    subst g2
    obtain ⟨hi, h4⟩ := List.getElem?_eq_some_iff.1 h3
    have h5 := g4 i (by omega) hi
    rw [h4] at h5
    exact ⟨cs, g1, (hC.cls k k' (hC.up _ hk)).1.trans h2, by rw [List.getElem?_eq_getElem (by omega), h5.on_inv]⟩
  have nok : ∀ k k' i n sz ds b, (k, k') ∈ C.km → Nst H k i n sz ds → c.ψ k i = some b → ∀ t, ¬ cc.ok t b := by
    intro k k' i n sz ds b hk hst hb t ht
    obtain ⟨o1, o2, o3⟩ := hs.nest.own k i n sz ds b hst hb
    rcases hoki t b ht with h | ⟨_, ⟨k2, h2, h3, h4⟩ | ⟨k2, i2, n2, sz2, ds2, h2, h3, h4⟩⟩
    · exact o2 t h
    · obtain ⟨cs2, h5⟩ := Option.isSome_iff_exists.1 h3
      exact o3 k2 cs2 h5 h4
    · have := (hs.nest.inj _ _ _ _ _ _ _ _ _ _ _ hst h3 hb h4).1
      subst this
      exact hC.apart _ _ hk h2
  have nφ : ∀ k i n sz ds b, Nst H k i n sz ds → c.ψ k i = some b → ∀ k2' b', cc.φ k2' = some b' → b' ≠ b := by
    intro k i n sz ds b hst hb k2' b' h1 e
    subst e
    obtain ⟨k2, h2, h3⟩ := hφi k2' b' h1
    obtain ⟨cs, _, h4, _⟩ := hC.dom k2 k2' h2
    exact (hs.nest.own k i n sz ds b' hst hb).2.2 k2 cs h4 h3
  have hsim : Sim cc (hget C.hp) w (OwOf cc C.hp w) := by
    refine ⟨?_, ?_, ?_, ?_, fun k b hb => .inl hb, fun b hb => hok false true b (by rcases hoki _ _ hb with h | ⟨h, _⟩; exact h; cases h) (by simp),
      hs.nest.go (fun k k' => (k, k') ∈ C.km) (fun k' i n sz ds hst => .inl ?_) (fun k a b h1 h2 => hC.inj1 _ _ _ (hC.up _ h1) (hC.up _ h2)) (fun k i n sz ds b hst hb ⟨k', hk', hst'⟩ => ⟨rfl, fun j hj => .inr (.inr ⟨hj, k', i, n, sz, ds, hst', (hψ k k' i hk').trans hb⟩), nok k k' i n sz ds b hk' hst hb, fun k2' cs2 _ h2 => nφ k i n sz ds b hst hb k2' b h2 rfl⟩)⟩
    · intro k' cs' hk'
      obtain ⟨k, hk⟩ := hC.hpd k' cs' hk'
      obtain ⟨cs, cs2, h1, h2, h3, h4⟩ := hC.dom k k' hk
      rw [hk'] at h2
      injection h2 with h2
      subst h2
      rcases hs.obj k cs h1 with ⟨z1, z2⟩ | ⟨b, arr, ty, hO⟩
      · subst z1; exact .inl ⟨List.eq_nil_of_length_eq_zero h3, (hφ k k' hk).1.trans z2⟩
      exact .inr ⟨b, arr, ty, (hφ k k' hk).1.trans hO.at_, hO.blk.key (hC.cls k k' (hC.up _ hk)).2.2, hO.ph.trans (hφ k k' hk).2.symm, by have := hO.len; omega, fun i hi => hO.one i (by omega), fun i hi => (h4 i (by omega) hi).sound hs (hO.rel i (by omega)) hok hokb hokn hmap⟩
    · intro k' cs' b hk' hb
      refine ⟨.inr (.inl ⟨⟨cs', hk'⟩, hb⟩), ?_⟩
      obtain ⟨k, hk, hb2⟩ := hφi k' b hb
      exact hnotok k k' b hk hb2
    · intro k1 k2 cs1 cs2 b h1 h2 h3 h4
      obtain ⟨j1, hj1, hb1⟩ := hφi k1 b h3
      obtain ⟨j2, hj2, hb2⟩ := hφi k2 b h4
      obtain ⟨ca, _, ha, _⟩ := hC.dom _ _ hj1
      obtain ⟨cb, _, hb', _⟩ := hC.dom _ _ hj2
      have := hs.inj j1 j2 ca cb b ha hb' hb1 hb2
      subst this
      exact hC.inj1 _ _ _ (hC.up _ hj1) (hC.up _ hj2)
    · intro t b hb
      rcases hoki t b hb with h | ⟨_, ⟨k2, h2, h3, h4⟩ | ⟨k2, i, n, sz, ds, h2, h3, h4⟩⟩
      · exact hs.okb t b h
      · obtain ⟨cs2, h5⟩ := Option.isSome_iff_exists.1 h3
        exact hs.lt h5 h4
      · exact hs.nest.lt h3 h4
    · obtain ⟨cs', hk', _⟩ := id hst
      obtain ⟨k, hk⟩ := hC.hpd k' cs' hk'
      exact ⟨k, hk, hnst k k' i n sz ds hk hst, hψ k k' i hk, fun b arr ty hb hbk => ⟨b, arr, ty, (hφ k k' hk).1.trans hb, hbk, rfl⟩⟩
  have hgl : GL P w (OwOf cc C.hp w) := ⟨hg.lib, hg.size, fun k' b hb => by
    rcases hb with hb | ⟨⟨cs', hk'⟩, hb⟩ | ⟨_, k2', i, n, sz, ds, hst, hb⟩
    · have := hg.size; omega
    · obtain ⟨k, hk, hb2⟩ := hφi k' b hb
      obtain ⟨cs, _, h1, _⟩ := hC.dom k k' hk
      exact hg.glob k b (hs.own k cs b h1 hb2).1
    · obtain ⟨k, hk, hb2⟩ := hψi k2' i b hb
      exact hg.glob 4000000000 b ((hs.nest.own k i n sz ds b (hnst k k2' i n sz ds hk hst) hb2).1 4000000000 rfl)⟩
  refine (hS cc w xs hgl hsim (hx.trans hC.alen.symm) (fun i hi => ?_)).mono ?_
  · have hi' : i < A.length := by have := hC.alen; omega
    exact (hC.args i hi' hi).sound hs (hr i hi') hok hokb hokn hmap
  rintro e w2 ⟨x, c2, rfl, hR, hS2, hE, hK, hokk⟩
  obtain ⟨bb, hbb, hres, hrows⟩ := hC.res
  obtain ⟨c3, hc3⟩ : ∃ c3 : Cx, c3 = { φ := fun k => match byCaller C.km' k with | some k' => c2.φ k' | none => c.φ k, ph := fun k => match byCaller C.km' k with | some k' => c2.ph k' | none => c.ph k, ok := fun t b => c2.ok false b ∨ (t = true ∧ c.ok true b), ψ := fun k i => match byCaller C.km' k with | some k' => c2.ψ k' i | none => c.ψ k i } := ⟨_, rfl⟩
  have hin : ∀ k k', (k, k') ∈ C.km' → c3.φ k = c2.φ k' ∧ c3.ph k = c2.ph k' := by
    intro k k' h
    obtain ⟨k2, h2⟩ := byCaller_some h
    have := hC.inj1 _ _ _ (byCaller_mem h2) h
    subst this hc3
    simp [h2]
  have hout : ∀ k, (∀ k', (k, k') ∉ C.km') → c3.φ k = c.φ k ∧ c3.ph k = c.ph k := by
    intro k h
    subst hc3
    cases hb : byCaller C.km' k with
    | none => simp [hb]
    | some k' => exact absurd (byCaller_mem hb) (h k')
  have hinψ : ∀ k k' i, (k, k') ∈ C.km' → c3.ψ k i = c2.ψ k' i := by
    intro k k' i h
    obtain ⟨k2, h2⟩ := byCaller_some h
    have := hC.inj1 _ _ _ (byCaller_mem h2) h
    subst this hc3
    simp [h2]
  have houtψ : ∀ k i, (∀ k', (k, k') ∉ C.km') → c3.ψ k i = c.ψ k i := by
    intro k i h
    subst hc3
    cases hb : byCaller C.km' k with
    | none => simp [hb]
    | some k' => exact absurd (byCaller_mem hb) (h k')
  have hok3 : ∀ t b, c3.ok t b → c2.ok false b ∨ (t = true ∧ c.ok true b) := by intro t b h; subst hc3; exact h
  have hok3a : ∀ t b, c2.ok false b → c3.ok t b := by intro t b h; subst hc3; exact .inl h
  have hok3b : ∀ b, c.ok true b → c3.ok true b := by intro b h; subst hc3; exact .inr ⟨rfl, h⟩
  have hupIn : ∀ k k', (k, k') ∈ C.km' → ∃ cs cs', hget C.hp' k' = some cs ∧ updH H C.post k = some cs' ∧ cs'.length = cs.length ∧ ∀ i (h : i < cs.length) (h' : i < cs'.length), Bck bb C.km' cs[i] cs'[i] := by
    intro k k' h
    obtain ⟨cs, cs', h1, h2, h3, h4⟩ := hrows k k' h
    exact ⟨cs, cs', h1, by simp [updH, h2], h3, h4⟩
  have hupOut : ∀ k, (∀ k', (k, k') ∉ C.km') → updH H C.post k = H k := by
    intro k h
    unfold updH
    cases hp : hget C.post k with
    | none => rfl
    | some cs => obtain ⟨k', h2⟩ := hC.post k cs hp; exact absurd h2 (h k')
  have hLback : ∀ k k', (k, k') ∈ C.km' → ln (updH H C.post) k = ln (hget C.hp') k' ∧ c3.φ k = c2.φ k' ∧ c3.ph k = c2.ph k' ∧ mpk k' = mpk k := by
    intro k k' h
    obtain ⟨cs, cs', h1, h2, h3, _⟩ := hupIn k k' h
    exact ⟨by simp [ln, h1, h2, h3], (hin k k' h).1, (hin k k' h).2, (hC.cls k k' h).2.2.symm⟩
  have hclean : ∀ t q, c2.ok t q → (t = true → bb = true) → c3.ok t q := by
    intro t q h1 h2
    cases t with
    | false => exact hok3a false q h1
    | true =>
      rcases hokk true q h1 with h | ⟨_, h⟩
      · rcases hoki true q h with h | ⟨_, ⟨k2, h3, _⟩ | ⟨k2, _, _, _, _, h3, _⟩⟩
        · exact hok3b q h
        · rw [hbb (h2 rfl)] at h3; simp at h3
        · rw [hbb (h2 rfl)] at h3; simp at h3
      · exact hok3a true q h
  have hold : ∀ b, b < w.heap.size → (∀ k k', (k, k') ∈ C.km → c.φ k ≠ some b) → (∀ k k' i n sz ds, (k, k') ∈ C.km → Nst H k i n sz ds → c.ψ k i ≠ some b) → w2.heap[b]? = w.heap[b]? := by
    intro b hb hn hn2
    refine hK.block b (fun j hj => ?_)
    rcases hj with hj | ⟨⟨cs, hj1⟩, hj2⟩ | ⟨_, k', i, n, sz, ds, hst, hj2⟩
    · omega
    · obtain ⟨k, h1, h2⟩ := hφi j b hj2
      exact hn k j h1 h2
    · obtain ⟨k, h1, h2⟩ := hψi k' i b hj2
      exact hn2 k k' i n sz ds h1 (hnst k k' i n sz ds h1 hst) h2
  have hne : ∀ k cs b, H k = some cs → c.φ k = some b → (∀ k', (k, k') ∉ C.km') → ∀ k2 k2', (k2, k2') ∈ C.km → c.φ k2 ≠ some b := by
    intro k cs b h1 h2 h3 k2 k2' h4 h5
    obtain ⟨cs2, _, h6, _⟩ := hC.dom _ _ h4
    have := hs.inj k k2 cs cs2 b h1 h6 h2 h5
    subst this
    exact h3 _ (hC.up _ h4)
  have hneN : ∀ k cs b, H k = some cs → c.φ k = some b → ∀ k2 k2' i n sz ds, (k2, k2') ∈ C.km → Nst H k2 i n sz ds → c.ψ k2 i ≠ some b :=
    fun k cs b h1 h2 k2 k2' i n sz ds _ hst h5 => (hs.nest.own k2 i n sz ds b hst h5).2.2 k cs h1 h2
  have hext : Ext c (ln H) w c3 (ln (updH H C.post)) w2 := by
    refine ⟨fun t b hb => ?_, fun k l hl => ?_⟩
    · have h1 := hE.ok t b (hok t t b hb id)
      refine ⟨?_, h1.2⟩
      cases t with
      | false => exact hok3a false b h1.1
      | true => exact hok3b b hb
    · by_cases hk : ∃ k', (k, k') ∈ C.km'
      · obtain ⟨k', hk'⟩ := hk
        have hkm : (k, k') ∈ C.km := by
          rcases hC.new k k' hk' with h | h
          · exact h
          · simp [ln, h] at hl
        obtain ⟨l', h1, h2, h3⟩ := hE.len k' l ((hL k k' hkm).trans hl)
        obtain ⟨e1, e2, e3, _⟩ := hLback k k' hk'
        refine ⟨l', e1.trans h1, h2, fun e => ?_⟩
        obtain ⟨e4, e5⟩ := h3 e
        exact ⟨e2.trans (e4.trans (hφ k k' hkm).1), e3.trans (e5.trans (hφ k k' hkm).2)⟩
      · have hk : ∀ k', (k, k') ∉ C.km' := fun k' h => hk ⟨k', h⟩
        refine ⟨l, ?_, Nat.le_refl _, fun _ => hout k hk⟩
        unfold ln at hl ⊢
        rw [hupOut k hk]; exact hl
  have hownIn : ∀ k k' b, (k, k') ∈ C.km' → c2.φ k' = some b → (w.heap.size ≤ b ∨ ((k, k') ∈ C.km ∧ c.φ k = some b) ∨ (opk k' = true ∧ ∃ k0 k0' i n sz ds, (k0, k0') ∈ C.km ∧ Nst H k0 i n sz ds ∧ c.ψ k0 i = some b)) ∧ ∀ t, ¬ c2.ok t b := by
    intro k k' b h1 h2
    obtain ⟨cs, cs', h3, _⟩ := hrows k k' h1
    have := hS2.own k' cs b h3 h2
    refine ⟨?_, this.2⟩
    rcases this.1 with h | ⟨_, h⟩ | ⟨hop, k0', i, n, sz, ds, hst, h⟩
    · exact .inl h
    · obtain ⟨k2, h4, h5⟩ := hφi k' b h
      have := hC.inj2 _ _ _ (hC.up _ h4) h1
      subst this
      exact .inr (.inl ⟨h4, h5⟩)
    · obtain ⟨k0, h4, h5⟩ := hψi k0' i b h
      exact .inr (.inr ⟨hop, k0, k0', i, n, sz, ds, h4, hnst k0 k0' i n sz ds h4 hst, h5⟩)
  -- a block that a cell of the callee leads to, as it came
  have hslot : ∀ k' i n sz ds b, Nst (hget C.hp') k' i n sz ds → c2.ψ k' i = some b → (w.heap.size ≤ b ∨ ∃ k0 k0' i0 n0 sz0 ds0, (k0, k0') ∈ C.km ∧ Nst H k0 i0 n0 sz0 ds0 ∧ c.ψ k0 i0 = some b) := by
    intro k' i n sz ds b hst hb
    obtain ⟨j, hj1, hj2⟩ := free_key C.hp
    rcases (hS2.nest.own k' i n sz ds b hst hb).1 j hj1 with h | ⟨⟨cs, h⟩, _⟩ | ⟨_, k0', i0, n0, sz0, ds0, hst0, h⟩
    · exact .inl h
    · rw [hj2] at h; cases h
    · obtain ⟨k0, h4, h5⟩ := hψi k0' i0 b h
      exact .inr ⟨k0, k0', i0, n0, sz0, ds0, h4, hnst k0 k0' i0 n0 sz0 ds0 h4 hst0, h5⟩
  have hcl : ∀ k i n sz ds, Nst (updH H C.post) k i n sz ds → (∃ k', (k, k') ∈ C.km' ∧ Nst (hget C.hp') k' i n sz ds) ∨ ((∀ k', (k, k') ∉ C.km') ∧ Nst H k i n sz ds) := by
    rintro k i n sz ds ⟨cs, h1, h2, h3⟩
    by_cases hkk : ∃ k', (k, k') ∈ C.km'
    · obtain ⟨k', hk'⟩ := hkk
      obtain ⟨cs2, cs3, g1, g2, g3, g4⟩ := hupIn k k' hk'
      rw [h1] at g2
      injection g2 with g2
      subst g2
      obtain ⟨hi, h4⟩ := List.getElem?_eq_some_iff.1 h3
      have h5 := g4 i (by omega) hi
      rw [h4] at h5
      exact .inl ⟨k', hk', cs2, g1, (hC.cls k k' hk').1.symm.trans h2, by rw [List.getElem?_eq_getElem (by omega), h5.on_inv]⟩
    · have hkk : ∀ k', (k, k') ∉ C.km' := fun k' h => hkk ⟨k', h⟩
      rw [hupOut k hkk] at h1
      exact .inr ⟨hkk, cs, h1, h2, h3⟩
  have hφ3 : ∀ k cs b, updH H C.post k = some cs → c3.φ k = some b → (∃ k', (k, k') ∈ C.km' ∧ c2.φ k' = some b) ∨ ((∀ k', (k, k') ∉ C.km') ∧ H k = some cs ∧ c.φ k = some b) := by
    intro k cs b h1 h2
    by_cases hkk : ∃ k', (k, k') ∈ C.km'
    · obtain ⟨k', hk'⟩ := hkk
      exact .inl ⟨k', hk', (hin k k' hk').1.symm.trans h2⟩
    · have hkk : ∀ k', (k, k') ∉ C.km' := fun k' h => hkk ⟨k', h⟩
      exact .inr ⟨hkk, (hupOut k hkk).symm.trans h1, (hout k hkk).1.symm.trans h2⟩
  have houtm : ∀ k, (∀ k', (k, k') ∉ C.km') → ∀ k', (k, k') ∉ C.km := fun k h k' h' => h k' (hC.up _ h')
  refine ⟨x, c3, rfl, hres.sound hR hclean hLback, ⟨?_, ?_, ?_, ?_, ?_, ?_, ⟨?_, ?_, ?_⟩⟩, hext, ?_, ?_⟩
  · intro k cs hk
    by_cases hkk : ∃ k', (k, k') ∈ C.km'
    · obtain ⟨k', hk'⟩ := hkk
      obtain ⟨cs2, cs3, h1, h2, h3, h4⟩ := hupIn k k' hk'
      rw [hk] at h2
      injection h2 with h2
      subst h2
      obtain ⟨e1, e2, e3, _⟩ := hLback k k' hk'
      rcases hS2.obj k' cs2 h1 with ⟨z1, z2⟩ | ⟨b, arr, ty, hO⟩
      · subst z1; exact .inl ⟨List.eq_nil_of_length_eq_zero h3, e2.trans z2⟩
      exact .inr ⟨b, arr, ty, e2.trans hO.at_, hO.blk.key (hC.cls k k' hk').2.2.symm, hO.ph.trans e3.symm, by have := hO.len; omega, fun i hi => hO.one i (by omega), fun i hi => (h4 i (by omega) hi).sound (hO.rel i (by omega)) hclean hLback⟩
    · have hkk : ∀ k', (k, k') ∉ C.km' := fun k' h => hkk ⟨k', h⟩
      rw [hupOut k hkk] at hk
      obtain ⟨e2, e3⟩ := hout k hkk
      rcases hs.obj k cs hk with ⟨z1, z2⟩ | ⟨b, arr, ty, hO⟩
      · exact .inl ⟨z1, e2.trans z2⟩
      exact .inr ⟨b, arr, ty, e2.trans hO.at_, (hold b (hs.lt hk hO.at_) (hne k cs b hk hO.at_ hkk) (hneN k cs b hk hO.at_)) |> hO.blk.eq, hO.ph.trans e3.symm, hO.len, hO.one, fun i hi => (hO.rel i hi).ext hext⟩
  · intro k cs b hk hb
    by_cases hkk : ∃ k', (k, k') ∈ C.km'
    · obtain ⟨k', hk'⟩ := hkk
      rw [(hin k k' hk').1] at hb
      obtain ⟨h1, h2⟩ := hownIn k k' b hk' hb
      refine ⟨?_, fun t ht => ?_⟩
      · rcases h1 with h | ⟨h, h'⟩ | ⟨hop, k0, k0', i, n, sz, ds, _, hst, h'⟩
        · exact hs.fresh k b h
        · obtain ⟨cs1, _, h3, _⟩ := hC.dom _ _ h
          exact (hs.own k cs1 b h3 h').1
        · exact (hs.nest.own k0 i n sz ds b hst h').1 k ((hC.cls k k' hk').2.1 hop)
      · rcases hok3 t b ht with h | ⟨_, h⟩
        · exact h2 false h
        · exact h2 true (hE.ok true b (hok true true b h id)).1
    · have hkk : ∀ k', (k, k') ∉ C.km' := fun k' h => hkk ⟨k', h⟩
      rw [hupOut k hkk] at hk
      rw [(hout k hkk).1] at hb
      obtain ⟨h1, h2⟩ := hs.own k cs b hk hb
      refine ⟨h1, fun t ht => ?_⟩
      rcases hok3 t b ht with h | ⟨_, h⟩
      · rcases hokk false b h with h | ⟨h, _⟩
        · rcases hoki false b h with h | ⟨h, _⟩
          · exact h2 false h
          · cases h
        · have := hs.lt hk hb; omega
      · exact h2 true h
  · intro k1 k2 cs1 cs2 b h1 h2 h3 h4
    have cross : ∀ k k' j cs, (k, k') ∈ C.km' → (∀ j', (j, j') ∉ C.km') → updH H C.post j = some cs → c3.φ k = some b → c3.φ j = some b → False := by
      intro k k' j cs hk hj hjc hkb hjb
      rw [(hin k k' hk).1] at hkb
      rw [hupOut j hj] at hjc
      rw [(hout j hj).1] at hjb
      rcases (hownIn k k' b hk hkb).1 with h | ⟨h, h'⟩ | ⟨_, k0, k0', i, n, sz, ds, _, hst, h'⟩
      · have := hs.lt hjc hjb; omega
      · exact hne j cs b hjc hjb hj k k' h h'
      · exact (hs.nest.own k0 i n sz ds b hst h').2.2 j cs hjc hjb
    by_cases hk1 : ∃ k', (k1, k') ∈ C.km'
    · obtain ⟨k1', hk1⟩ := hk1
      by_cases hk2 : ∃ k', (k2, k') ∈ C.km'
      · obtain ⟨k2', hk2⟩ := hk2
        rw [(hin _ _ hk1).1] at h3
        rw [(hin _ _ hk2).1] at h4
        obtain ⟨ca, _, ha, _⟩ := hrows _ _ hk1
        obtain ⟨cb, _, hb, _⟩ := hrows _ _ hk2
        have := hS2.inj k1' k2' ca cb b ha hb h3 h4
        subst this
        exact hC.inj2 _ _ _ hk1 hk2
      · exact (cross k1 k1' k2 cs2 hk1 (fun j h => hk2 ⟨j, h⟩) h2 h3 h4).elim
    · by_cases hk2 : ∃ k', (k2, k') ∈ C.km'
      · obtain ⟨k2', hk2⟩ := hk2
        exact (cross k2 k2' k1 cs1 hk2 (fun j h => hk1 ⟨j, h⟩) h1 h4 h3).elim
      · have hk1 : ∀ k', (k1, k') ∉ C.km' := fun k' h => hk1 ⟨k', h⟩
        have hk2 : ∀ k', (k2, k') ∉ C.km' := fun k' h => hk2 ⟨k', h⟩
        rw [hupOut _ hk1] at h1
        rw [hupOut _ hk2] at h2
        rw [(hout _ hk1).1] at h3
        rw [(hout _ hk2).1] at h4
        exact hs.inj _ _ _ _ _ h1 h2 h3 h4
  · intro t b hb
    rcases hok3 t b hb with h | ⟨_, h⟩
    · exact hS2.okb _ _ h
    · have := hs.okb _ _ h; have := hK.size; omega
  · intro k b hb
    have := hK.size
    exact hs.fresh k b (by omega)
  · intro b hb
    rcases hok3 false b hb with h | ⟨h, _⟩
    · exact hok3a true b h
    · cases h
  · intro k i n sz ds hst
    rcases hcl k i n sz ds hst with ⟨k', hk', h1⟩ | ⟨hkk, h1⟩
    · obtain ⟨b, arr, ty, e1, e2, e3⟩ := hS2.nest.obj k' i n sz ds h1
      exact ⟨b, arr, ty, (hin k k' hk').1.trans e1, e2, by rw [hinψ k k' i hk']; exact e3⟩
    · obtain ⟨b, arr, ty, e1, e2, e3⟩ := hs.nest.obj k i n sz ds h1
      obtain ⟨cs, g1, _⟩ := id h1
      refine ⟨b, arr, ty, (hout k hkk).1.trans e1, (hold b (hs.lt g1 e1) (hne k cs b g1 e1 hkk) (hneN k cs b g1 e1)).trans e2, ?_⟩
      rw [houtψ k i hkk]
      rcases e3 with e3 | ⟨q, cap, a2, t2, q1, q2, q3, q4⟩
      · exact .inl e3
      · refine .inr ⟨q, cap, a2, t2, q1, q2, (hold q (hs.nest.lt h1 q1) (fun k2 k2' h2 h3 => ?_) (fun k2 k2' i2 n2 sz2 ds2 h2 h3 h4 => ?_)).trans q3, q4⟩
        · obtain ⟨cs2, _, h4, _⟩ := hC.dom k2 k2' h2
          exact (hs.nest.own k i n sz ds q h1 q1).2.2 k2 cs2 h4 h3
        · have := (hs.nest.inj _ _ _ _ _ _ _ _ _ _ _ h1 h3 q1 h4).1
          subst this
          exact houtm k hkk k2' h2
  · intro k i n sz ds b hst hb
    rcases hcl k i n sz ds hst with ⟨k', hk', h1⟩ | ⟨hkk, h1⟩
    · rw [hinψ k k' i hk'] at hb
      obtain ⟨o1, o2, o3⟩ := hS2.nest.own k' i n sz ds b h1 hb
      have hsl := hslot k' i n sz ds b h1 hb
      refine ⟨fun j hj => ?_, fun t ht => ?_, fun k2 cs2 g1 g2 => ?_⟩
      · rcases hsl with h | ⟨k0, k0', i0, n0, sz0, ds0, _, hst0, h⟩
        · exact hs.fresh j b h
        · exact (hs.nest.own k0 i0 n0 sz0 ds0 b hst0 h).1 j hj
      · rcases hok3 t b ht with h | ⟨_, h⟩
        · exact o2 false h
        · exact o2 true (hE.ok true b (hok true true b h id)).1
      · rcases hφ3 k2 cs2 b g1 g2 with ⟨k2', g3, g4⟩ | ⟨g3, g4, g5⟩
        · obtain ⟨cs3, _, g5, _⟩ := hrows k2 k2' g3
          exact o3 k2' cs3 g5 g4
        · rcases hsl with h | ⟨k0, k0', i0, n0, sz0, ds0, _, hst0, h⟩
          · have := hs.lt g4 g5; omega
          · exact (hs.nest.own k0 i0 n0 sz0 ds0 b hst0 h).2.2 k2 cs2 g4 g5
    · rw [houtψ k i hkk] at hb
      obtain ⟨o1, o2, o3⟩ := hs.nest.own k i n sz ds b h1 hb
      have hlt := hs.nest.lt h1 hb
      refine ⟨o1, fun t ht => ?_, fun k2 cs2 g1 g2 => ?_⟩
      · rcases hok3 t b ht with h | ⟨_, h⟩
        · rcases hokk false b h with h | ⟨h, _⟩
          · rcases hoki false b h with h | ⟨h, _⟩
            · exact o2 false h
            · cases h
          · omega
        · exact o2 true h
      · rcases hφ3 k2 cs2 b g1 g2 with ⟨k2', g3, g4⟩ | ⟨g3, g4, g5⟩
        · rcases (hownIn k2 k2' b g3 g4).1 with h | ⟨h, h'⟩ | ⟨_, k0, k0', i0, n0, sz0, ds0, hk0, hst0, h'⟩
          · omega
          · obtain ⟨cs3, _, h5, _⟩ := hC.dom _ _ h
            exact o3 k2 cs3 h5 h'
          · have := (hs.nest.inj _ _ _ _ _ _ _ _ _ _ _ h1 hst0 hb h').1
            subst this
            exact houtm k hkk k0' hk0
        · exact o3 k2 cs2 g4 g5
  · have cross : ∀ k i n sz ds j a n2 sz2 ds2 b k', (k, k') ∈ C.km' → Nst (hget C.hp') k' i n sz ds → (∀ j', (j, j') ∉ C.km') → Nst H j a n2 sz2 ds2 → c2.ψ k' i = some b → c.ψ j a = some b → False := by
      intro k i n sz ds j a n2 sz2 ds2 b k' hk h1 hj h2 h3 h4
      rcases hslot k' i n sz ds b h1 h3 with h | ⟨k0, k0', i0, n0, sz0, ds0, hk0, hst0, h⟩
      · have := hs.nest.lt h2 h4; omega
      · have := (hs.nest.inj _ _ _ _ _ _ _ _ _ _ _ h2 hst0 h4 h).1
        subst this
        exact houtm j hj k0' hk0
    intro k1 i1 n1 s1 d1 k2 i2 n2 s2 d2 b h1 h2 b1 b2
    rcases hcl _ _ _ _ _ h1 with ⟨k1', g1, e1⟩ | ⟨g1, e1⟩
    · rcases hcl _ _ _ _ _ h2 with ⟨k2', g2, e2⟩ | ⟨g2, e2⟩
      · rw [hinψ _ _ _ g1] at b1
        rw [hinψ _ _ _ g2] at b2
        obtain ⟨q1, q2⟩ := hS2.nest.inj _ _ _ _ _ _ _ _ _ _ _ e1 e2 b1 b2
        subst q1
        exact ⟨hC.inj2 _ _ _ g1 g2, q2⟩
      · rw [hinψ _ _ _ g1] at b1
        rw [houtψ _ _ g2] at b2
        exact (cross _ _ _ _ _ _ _ _ _ _ b k1' g1 e1 g2 e2 b1 b2).elim
    · rcases hcl _ _ _ _ _ h2 with ⟨k2', g2, e2⟩ | ⟨g2, e2⟩
      · rw [houtψ _ _ g1] at b1
        rw [hinψ _ _ _ g2] at b2
        exact (cross _ _ _ _ _ _ _ _ _ _ b k2' g2 e2 g1 e1 b2 b1).elim
      · rw [houtψ _ _ g1] at b1
        rw [houtψ _ _ g2] at b2
        exact hs.nest.inj _ _ _ _ _ _ _ _ _ _ _ e1 e2 b1 b2
  · refine ⟨hK.os, hK.tape, hK.output, hK.size, fun b hb => hK.block b (fun j hj => ?_)⟩
    rcases hj with hj | ⟨⟨cs, hj1⟩, hj2⟩ | ⟨_, k', i, n, sz, ds, hst, hj2⟩
    · exact hb 0 (hs.fresh 0 b hj)
    · obtain ⟨k, h1, h2⟩ := hφi j b hj2
      obtain ⟨cs1, _, h3, _⟩ := hC.dom _ _ h1
      exact hb k (hs.own k cs1 b h3 h2).1
    · obtain ⟨k, h1, h2⟩ := hψi k' i b hj2
      exact hb 4000000000 ((hs.nest.own k i n sz ds b (hnst k k' i n sz ds h1 hst) h2).1 4000000000 rfl)
  · intro t b hb
    rcases hok3 t b hb with h | ⟨h, h'⟩
    · rcases hokk false b h with h4 | ⟨h4, h5⟩
      · rcases hoki false b h4 with h5 | ⟨h5, _⟩
        · cases t with
          | false => exact .inl h5
          | true => exact .inl (hs.mono b h5)
        · cases h5
      · exact .inr ⟨h4, hok3a false b h⟩
    · subst h; exact .inl h'
end
end Go.Proofs.Ytpjmefdpjlhkhaa.Eng

/- The engine, part 13: one operation of a region. -/
namespace Go.Proofs.Ytpjmefdpjlhkhaa.Eng
open Go.RowKit
set_option linter.unusedVariables false
set_option linter.unusedSimpArgs false
def ev (e : Nat → V) : Operand → V
  | .tmp t => e t
  | .const v => ofV v
  | .global _ => .un
  | .func f => .fn (.func f) [] []
/-- What is told of an operation ahead: nothing; its value as it shall read; its value and its row's content; a call. -/
inductive Hint where
  | no
  | v (v : V)
  | w (v : V) (cs : List V)
  | c (C : Cal)
structure Inf where
  v : V
  touch : List Nat
  post : Hp
  ob : List Prop
  cal : Option Cal
def postL : Option (Nat × List V) → Hp
  | none => []
  | some p => [p]
/-- Is it wanted? -/
def gdOf (ops : Array Oper) (e : Nat → V) (o : Oper) : Option Bool := match o.guard with
  | none => some true
  | some (j, want) => match (ops[j]?).bind (·.dst) with
    | some t => match e t with
      | .s (.bool b) => some (b == want)
      | .tp [] => some false
      | _ => none
    | none => none
def cbl (P : Program) (f : FuncId) : Bool := match P.funcs[f]? with
  | some fn => fn.body.isSome && !(fn.name == "runtime.NumGoroutine")
  | none => false
def sop (P : Program) (ops : Array Oper) (key : Nat) (o : Oper) (e : Nat → V) (h : Nat → Option (List V)) (hint : Hint) : Option Inf := match gdOf ops e o with
  | none => none
  | some false => some ⟨.tp [], [], [], [], none⟩
  | some true => match hint with
    | .no => match aop P (ev e) h key o with
      | some r => some ⟨r.v, r.touch, postL r.post, r.ob, none⟩
      | none => none
    | .v v' => match aop P (ev e) h key o with
      | some r => some ⟨v', r.touch, postL r.post, (r.v = v') :: r.ob, none⟩
      | none => none
    | .w v' cs' => match aop P (ev e) h key o with
      | some r => match r.post with
        | some (k, cs) => some ⟨v', r.touch, [(k, cs')], (r.v = v') :: (cs = cs') :: r.ob, none⟩
        | none => none
      | none => none
    | .c C => match o.op with
      | .call { callee := .value f, args := args, argTypes := _ } => match ev e f with
        | .fn (.func fid) first caps => bif Nat.beq fid C.f && cbl P C.f then some ⟨C.v, C.bor ++ C.km'.map (·.1), C.post, [COK h (first ++ args.toList.map (ev e) ++ caps) C], some C⟩ else none
        | _ => none
      | _ => none
theorem allP_cons {p : Prop} {r : List Prop} (h : AllP (p :: r)) : p ∧ AllP r := by
  cases r with
  | nil => exact ⟨h, trivial⟩
  | cons q r => exact h
section
variable {P : Program} {c : Cx} {h : Nat → Option (List V)} {w : World} {Ow : Nat → Nat → Prop} {key : Nat} {e : Nat → V} {a : Act} {ops : Array Oper} {o : Oper}
theorem ev_rel {L : Nat → Option Nat} (he : ∀ t, R c L w (e t) (a.tmps.getD t undef)) (x : Operand) : R c L w (ev e x) (a.eval x) := by
  cases x with
  | tmp t => exact he t
  | const v => exact R.ofV v
  | global g => exact .i .un
  | func f => exact .fn rfl rfl (fun i h => absurd h (by simp)) (fun i h => absurd h (by simp))
theorem gd_rel {L : Nat → Option Nat} {b : Bool} (he : ∀ t, R c L w (e t) (a.tmps.getD t undef)) (hg : gdOf ops e o = some b) : Region.wanted o (yielded ops a.tmps) = b := by
  unfold gdOf at hg
  unfold Region.wanted
  cases hgd : o.guard with
  | none => rw [hgd] at hg; simp only [Option.some.injEq] at hg; simp [hg]
  | some jw =>
    obtain ⟨j, want⟩ := jw
    rw [hgd] at hg
    simp only at hg ⊢
    unfold yielded
    cases ht : (ops[j]?).bind (·.dst) with
    | none => rw [ht] at hg; cases hg
    | some t =>
      rw [ht] at hg
      simp only at hg
      split at hg
      · rename_i b' hb
        simp only [Option.some.injEq] at hg
        have h1 := he t
        rw [hb] at h1
        have h2 := h1.s_inv.1
        have h3 : a.tmps[t]? = some (.bool b') := by
          rw [Array.getD_eq_getD_getElem?] at h2
          cases hq : a.tmps[t]? with
          | none => rw [hq] at h2; simp [undef] at h2
          | some q => rw [hq] at h2; simp only [Option.getD_some] at h2; rw [h2]
        simp only [Option.bind_some, h3]
        rw [← hg]
        cases b' <;> cases want <;> rfl
      · rename_i hb
        simp only [Option.some.injEq] at hg
        have h1 := he t
        rw [hb] at h1
        obtain ⟨us, h2, _⟩ := h1.tp_inv
        simp only [Option.bind_some]
        rw [← hg]
        cases hq : a.tmps[t]? with
        | none => rfl
        | some q =>
          rw [Array.getD_eq_getD_getElem?, hq] at h2
          simp only [Option.getD_some] at h2
          subst h2
          rfl
      · cases hg
theorem updH_postL {p : Option (Nat × List V)} : updH h (postL p) = upd h p := by
  funext k
  cases p with
  | none => rfl
  | some q =>
    obtain ⟨j, cs⟩ := q
    by_cases e : j = k
    · subst e; simp [updH, postL, hget, upd]
    · simp [updH, postL, hget, upd, nbeq e, e]
/-- One operation in its region: what comes behind it holds of what it leaves. -/
theorem sop_sound {i : Nat} {hint : Hint} {I : Inf} {K : Act → World → Prop} {Q : Exit → Act → World → Prop} (hs : Sim c h w Ow) (he : ∀ t, R c (ln h) w (e t) (a.tmps.getD t undef)) (ho : ops[i]? = some o) (hI : sop P ops key o e h hint = some I) (hob : AllP I.ob)
    (hcal : ∀ C, I.cal = some C → Spec P C.f C.args C.hp C.res C.hp') (hgl : GL P w Ow)
    (hK : ∀ c' w' x, R c' (ln (updH h I.post)) w' I.v x → Sim c' (updH h I.post) w' Ow → Ext c (ln h) w c' (ln (updH h I.post)) w' → Keep Ow w w' → (∀ t b, c'.ok t b → c.ok t b ∨ (w.heap.size ≤ b ∧ c'.ok false b)) → K (a.put o.dst x) w') : wpOp P ops Q i K a w := by
  unfold sop at hI
  unfold wpOp
  simp only [ho]
  cases hg : gdOf ops e o with
  | none => rw [hg] at hI; cases hI
  | some b =>
    rw [hg] at hI
    rw [gd_rel he hg]
    cases b with
    | false =>
      simp only [Option.some.injEq] at hI
      subst hI
      simp only [Bool.false_eq_true, if_false]
      have h0 : updH h [] = h := by funext k; rfl
      refine hK c w undef (.tp rfl (fun i h => absurd h (by simp))) ?_ ?_ (Keep.refl _ _) (fun t b h => .inl h)
      · simp only [h0]; exact hs
      · simp only [h0]; exact Ext.refl _ _ _
    | true =>
      simp only [if_true]
      refine .inl ?_
      have hv : ∀ x, x ∈ o.op.operands → R c (ln h) w (ev e x) (a.eval x) := fun x _ => ev_rel he x
      have go : ∀ (r : Res) (v' : V) (post' : Option (Nat × List V)), aop P (ev e) h key o = some r → AllP r.ob → r.v = v' → r.post = post' → I.v = v' → I.post = postL post' → o.wp P a w K Q := by
        intro r v' post' hr hro e1 e2 e3 e4
        subst e1 e2
        obtain ⟨n, w', c', g⟩ := aop_sound hs hv hr hro
        unfold Oper.wp
        rw [g.run]
        have hp : updH h I.post = upd h r.post := by rw [e4, updH_postL]
        rcases g.out with ⟨x, rfl, hx⟩ | ⟨rfl, hx⟩
        · exact hK c' w' x (by rw [e3, hp]; exact hx) (by rw [hp]; exact g.sim) (by rw [hp]; exact g.ext) g.bel (fun t b hb => .inl (by rw [← g.oke]; exact hb))
        · exact hK c' w' undef (by rw [e3, hx]; exact .i .un) (by rw [hp]; exact g.sim) (by rw [hp]; exact g.ext) g.bel (fun t b hb => .inl (by rw [← g.oke]; exact hb))
      cases hint with
      | no =>
        simp only at hI
        split at hI
        · rename_i r hr
          simp only [Option.some.injEq] at hI
          subst hI
          exact go r r.v r.post hr hob rfl rfl rfl rfl
        · cases hI
      | v v' =>
        simp only at hI
        split at hI
        · rename_i r hr
          simp only [Option.some.injEq] at hI
          subst hI
          obtain ⟨h1, h2⟩ := allP_cons hob
          exact go r v' r.post hr h2 h1 rfl rfl rfl
        · cases hI
      | w v' cs' =>
        simp only at hI
        split at hI
        · rename_i r hr
          split at hI
          · rename_i k cs hp
            simp only [Option.some.injEq] at hI
            subst hI
            obtain ⟨h1, h2⟩ := allP_cons hob
            obtain ⟨h2, h3⟩ := allP_cons h2
            subst h2
            exact go r v' (some (k, cs)) hr h3 h1 hp rfl rfl
          · cases hI
        · cases hI
      | c C =>
        simp only at hI
        split at hI
        · rename_i f args ts hop
          split at hI
          · rename_i fid first caps hf
            cases hb : (Nat.beq fid C.f && cbl P C.f) with
            | false => rw [hb] at hI; cases hI
            | true =>
              rw [hb] at hI
              simp only [cond_true, Option.some.injEq] at hI
              subst hI
              rw [Bool.and_eq_true] at hb
              have hfid := Nat.eq_of_beq_eq_true hb.1
              subst hfid
              have hC : COK h (first ++ args.toList.map (ev e) ++ caps) C := hob
              have hfr := ev_rel he f
              rw [hf] at hfr
              obtain ⟨fa, ca, hfv, s1, s2, r1, r2⟩ := hfr.fn_inv
              have hbl := hb.2
              unfold cbl at hbl
              cases hfn : P.funcs[C.f]? with
              | none => rw [hfn] at hbl; cases hbl
              | some fn =>
                rw [hfn] at hbl
                simp only [Bool.and_eq_true, Bool.not_eq_true'] at hbl
                have hrun : (execOp a.eval o).run P w = .ok (.enter C.f (fa ++ args.map a.eval ++ ca)) w := by
                  have hbn : fn.body.isNone = false := by cases hq : fn.body with | none => rw [hq] at hbl; simp at hbl | some _ => rfl
                  simp only [execOp, hop, resolve, hfv, Deferred.ofValue, invoke, callFunc, Sem.run_bind, Sem.run_pure, Result.andThen_ok, run_program, hfn, hbl.2, hbn, Bool.false_eq_true, if_false]
                unfold Oper.wp
                rw [hrun, Oper.upon_enter]
                have hsz : (fa ++ args.map a.eval ++ ca).size = (first ++ args.toList.map (ev e) ++ caps).length := by simp [s1, s2]
                have hrel : ∀ j (hj : j < (first ++ args.toList.map (ev e) ++ caps).length), R c (ln h) w (first ++ args.toList.map (ev e) ++ caps)[j] ((fa ++ args.map a.eval ++ ca).getD j undef) := by
                  intro j hj
                  rw [Array.getD_eq_getD_getElem?]
                  by_cases h1 : j < first.length
                  · rw [Array.getElem?_append_left (by simp; omega), Array.getElem?_append_left (by omega), ← Array.getD_eq_getD_getElem?, List.getElem_append_left (by simp; omega), List.getElem_append_left h1]
                    exact r1 j h1
                  · by_cases h2 : j < first.length + args.size
                    · rw [Array.getElem?_append_left (by simp; omega), Array.getElem?_append_right (by omega), List.getElem_append_left (by simp; omega), List.getElem_append_right (by omega)]
                      have h3 : j - fa.size < args.size := by omega
                      have e1 : j - first.length = j - fa.size := by omega
                      simp only [Array.getElem?_map, Array.getElem?_eq_getElem h3, Option.map_some, Option.getD_some, List.getElem_map, Array.getElem_toList, e1]
                      exact ev_rel he _
                    · have e1 : j - (first ++ args.toList.map (ev e)).length = j - (fa ++ args.map a.eval).size := by simp; omega
                      rw [Array.getElem?_append_right (by simp; omega), ← Array.getD_eq_getD_getElem?, List.getElem_append_right (by simp; omega)]
                      have h3 : j - (first ++ args.toList.map (ev e)).length < caps.length := by simp at hj ⊢; omega
                      rw [← e1]
                      exact r2 _ h3
                refine (call_sound hs hC hsz hrel (hcal C rfl) hgl).mono ?_
                rintro en w2 ⟨x, c3, rfl, q1, q2, q3, q4, q5⟩
                exact hK c3 w2 x q1 q2 q3 q4 q5
          · cases hI
        · cases hI
end
end Go.Proofs.Ytpjmefdpjlhkhaa.Eng

/- The engine, part 14: a region: its operations told in the text's order; whatever order is drawn, they come to the same. -/
namespace Go.Proofs.Ytpjmefdpjlhkhaa.Eng
open Go.RowKit
set_option linter.unusedVariables false
set_option linter.unusedSimpArgs false
section
variable {X : Type}
def put (s : Nat → X) (u : Nat → Option X) (k : Nat) : X := match u k with
  | some x => x
  | none => s k
/-- A state behind those changes that p names, in the text's order. -/
def att : List (Nat → Option X) → Nat → (Nat → Bool) → (Nat → X) → (Nat → X)
  | [], _, _, s => s
  | u :: r, i, p, s => att r (i + 1) p (if p i = true then put s u else s)
theorem att_congr : ∀ (us : List (Nat → Option X)) (i : Nat) (p q : Nat → Bool) (s s' : Nat → X) (k : Nat), s k = s' k → (∀ j (h : j < us.length), us[j] k ≠ none → p (i + j) = q (i + j)) → att us i p s k = att us i q s' k
  | [], _, _, _, _, _, _, h, _ => h
  | u :: r, i, p, q, s, s', k, h, hpq => by
    refine att_congr r (i + 1) p q _ _ k ?_ (fun j hj hn => by have := hpq (j + 1) (Nat.succ_lt_succ hj) hn; rwa [show i + (j + 1) = i + 1 + j by omega] at this)
    cases hu : u k with
    | none =>
      have e : ∀ s : Nat → X, put s u k = s k := fun s => by unfold put; rw [hu]
      split <;> split <;> (try simp only [e]) <;> exact h
    | some x =>
      have e : ∀ s : Nat → X, put s u k = x := fun s => by unfold put; rw [hu]
      have h0 := hpq 0 (Nat.zero_lt_succ _) (by rw [List.getElem_cons_zero, hu]; simp)
      rw [Nat.add_zero] at h0
      rw [h0]
      split
      · rw [e, e]
      · exact h
theorem att_none : ∀ (us : List (Nat → Option X)) (i : Nat) (p : Nat → Bool) (s : Nat → X) (k : Nat), (∀ j (h : j < us.length), us[j] k ≠ none → p (i + j) = false) → att us i p s k = s k
  | [], _, _, _, _, _ => rfl
  | u :: r, i, p, s, k, h => by
    unfold att
    rw [att_none r (i + 1) p _ k (fun j hj hn => by have := h (j + 1) (Nat.succ_lt_succ hj) hn; rwa [show i + (j + 1) = i + 1 + j by omega] at this)]
    cases hu : u k with
    | none => split <;> simp [put, hu]
    | some x =>
      have h0 := h 0 (Nat.zero_lt_succ _) (by rw [List.getElem_cons_zero, hu]; simp)
      rw [Nat.add_zero] at h0
      rw [h0]; rfl
/-- One change more, the last of those that touch k. -/
theorem att_add : ∀ (us : List (Nat → Option X)) (i : Nat) (p : Nat → Bool) (s : Nat → X) (k m : Nat) (hm : m < us.length), (us[m] k ≠ none → ∀ j (h : j < us.length), m < j → us[j] k ≠ none → p (i + j) = false) →
    att us i (fun j => p j || j == i + m) s k = put (att us i p s) us[m] k
  | u :: r, i, p, s, k, 0, hm, h => by
    simp only [Nat.add_zero, List.getElem_cons_zero]
    cases hu : u k with
    | none =>
      have e : ∀ s : Nat → X, put s u k = s k := fun s => by unfold put; rw [hu]
      rw [e]
      refine att_congr (u :: r) i _ p s s k rfl (fun j hj hn => ?_)
      cases j with
      | zero => rw [List.getElem_cons_zero, hu] at hn; exact absurd rfl hn
      | succ j => have : (i + (j + 1) == i) = false := by simp
                  simp [this]
    | some x =>
      have e : ∀ s : Nat → X, put s u k = x := fun s => by unfold put; rw [hu]
      rw [e]
      unfold att
      have h2 : ∀ j (hj : j < r.length), r[j] k ≠ none → p (i + 1 + j) = false := fun j hj hn => by
        have := h (by rw [List.getElem_cons_zero, hu]; simp) (j + 1) (Nat.succ_lt_succ hj) (by omega) hn
        rwa [show i + (j + 1) = i + 1 + j by omega] at this
      rw [att_none r (i + 1) _ _ k (fun j hj hn => by
        have : (i + 1 + j == i) = false := by simp; omega
        simp [h2 j hj hn, this])]
      simp [e]
  | u :: r, i, p, s, k, m + 1, hm, h => by
    have hm' : m < r.length := Nat.lt_of_succ_lt_succ hm
    have e1 : (i == i + (m + 1)) = false := by simp
    unfold att
    have e2 : (fun j => p j || j == i + (m + 1)) = fun j => p j || j == i + 1 + m := by funext j; rw [show i + (m + 1) = i + 1 + m by omega]
    simp only [e1, Bool.or_false, List.getElem_cons_succ]
    rw [e2]
    exact att_add r (i + 1) p _ k m hm' (fun hn j hj hlt hjn => by
      have := h hn (j + 1) (Nat.succ_lt_succ hj) (by omega) hjn
      rwa [show i + (j + 1) = i + 1 + j by omega] at this)
theorem att_all : ∀ (us : List (Nat → Option X)) (i : Nat) (p : Nat → Bool) (s : Nat → X), (∀ j, j < us.length → p (i + j) = true) → att us i p s = us.foldl put s
  | [], _, _, _, _ => rfl
  | u :: r, i, p, s, h => by
    have h0 := h 0 (Nat.zero_lt_succ _)
    rw [Nat.add_zero] at h0
    unfold att
    rw [if_pos h0, att_all r (i + 1) p _ (fun j hj => by have := h (j + 1) (Nat.succ_lt_succ hj); rwa [show i + (j + 1) = i + 1 + j by omega] at this)]
    rfl
theorem att_none_all : ∀ (us : List (Nat → Option X)) (i : Nat) (p : Nat → Bool) (s : Nat → X), (∀ j, j < us.length → p (i + j) = false) → att us i p s = s := fun us i p s h => by
  funext k
  exact att_none us i p s k (fun j hj _ => h j hj)
end
end Go.Proofs.Ytpjmefdpjlhkhaa.Eng

/- The engine, part 15: the region's law. -/
namespace Go.Proofs.Ytpjmefdpjlhkhaa.Eng
open Go.RowKit
set_option linter.unusedVariables false
set_option linter.unusedSimpArgs false
theorem att_lt {X : Type} : ∀ (us : List (Nat → Option X)) (i m : Nat) (s : Nat → X), att us i (fun j => decide (j < i + m)) s = (us.take m).foldl put s
  | [], _, _, _ => by simp [att]
  | u :: r, i, 0, s => by
    rw [att_none_all _ _ _ _ (fun j _ => by simp)]; rfl
  | u :: r, i, m + 1, s => by
    unfold att
    have e : (fun j => decide (j < i + (m + 1))) = fun j => decide (j < i + 1 + m) := by funext j; rw [show i + (m + 1) = i + 1 + m by omega]
    rw [if_pos (by simp), e, att_lt r (i + 1) m]
    rfl
def eU (o : Oper) (I : Inf) (t : Nat) : Option V := match o.dst with
  | some d => bif Nat.beq d t then some I.v else none
  | none => none
def hU (I : Inf) (k : Nat) : Option (Option (List V)) := match hget I.post k with
  | some cs => some (some cs)
  | none => none
def hsets (H : Hp) : Hp → Hp
  | [] => H
  | (k, c) :: r => hset (hsets H r) k c
theorem hget_hsets (H : Hp) : ∀ (p : Hp) (k : Nat), hget (hsets H p) k = updH (hget H) p k
  | [], k => rfl
  | (j, c) :: r, k => by
    rw [hsets, hget_hset, hget_hsets H r k]
    by_cases e : j = k
    · subst e; simp [updH, hget]
    · simp [updH, hget, nbeq e, e]
theorem put_hU (h : Nat → Option (List V)) (I : Inf) : put h (hU I) = updH h I.post := by
  funext k
  unfold put hU updH
  cases hget I.post k <;> rfl
/-- The operations in the text's order. -/
def reg (P : Program) (ops : Array Oper) (kb : Nat) : List Oper → Nat → List Hint → (Nat → V) → Hp → Option ((Nat → V) × Hp × List Inf)
  | [], _, _, e, H => some (e, H, [])
  | o :: os, i, hs, e, H => match sop P ops (kb + i) o e (hget H) (hs.headD .no) with
    | some I => match reg P ops kb os (i + 1) hs.tail (put e (eU o I)) (hsets H I.post) with
      | some (e', H', r) => some (e', H', I :: r)
      | none => none
    | none => none
/-- What each operation met, and the end. -/
theorem reg_at {P : Program} {ops : Array Oper} {kb : Nat} : ∀ (os : List Oper) (i : Nat) (hs : List Hint) (e : Nat → V) (H : Hp) (e' : Nat → V) (H' : Hp) (Is : List Inf), reg P ops kb os i hs e H = some (e', H', Is) →
    Is.length = os.length ∧ e' = ((os.zip Is).map fun p => eU p.1 p.2).foldl put e ∧ hget H' = (Is.map hU).foldl put (hget H) ∧
    ∀ j (h1 : j < os.length) (h2 : j < Is.length), ∃ hint, sop P ops (kb + i + j) os[j] ((((os.zip Is).map fun p => eU p.1 p.2).take j).foldl put e) (((Is.map hU).take j).foldl put (hget H)) hint = some Is[j]
  | [], i, hs, e, H, e', H', Is, h => by
    simp only [reg, Option.some.injEq, Prod.mk.injEq] at h
    obtain ⟨rfl, rfl, rfl⟩ := h
    exact ⟨rfl, rfl, rfl, fun j h1 => absurd h1 (by simp)⟩
  | o :: os, i, hs, e, H, e', H', Is, h => by
    simp only [reg] at h
    split at h
    · rename_i I hI
      split at h
      · rename_i e1 H1 r hr
        simp only [Option.some.injEq, Prod.mk.injEq] at h
        obtain ⟨rfl, rfl, rfl⟩ := h
        obtain ⟨a1, a2, a3, a4⟩ := reg_at os (i + 1) hs.tail _ _ _ _ _ hr
        have hH : hget (hsets H I.post) = put (hget H) (hU I) := by
          rw [put_hU]; funext k; exact hget_hsets H I.post k
        refine ⟨by simp [a1], a2, by rw [a3, hH]; rfl, fun j h1 h2 => ?_⟩
        cases j with
        | zero => exact ⟨_, hI⟩
        | succ j =>
          obtain ⟨hint, h3⟩ := a4 j (Nat.lt_of_succ_lt_succ h1) (Nat.lt_of_succ_lt_succ h2)
          rw [hH] at h3
          exact ⟨hint, by rw [show kb + i + (j + 1) = kb + (i + 1) + j by omega]; exact h3⟩
      · cases h
    · cases h
theorem Frz.congr {H H' : Nat → Option (List V)} {tb : Bool} {bor : List Nat} {v v' : V} (h : Frz H tb bor v v') (hh : ∀ k, k ∈ bor → H' k = H k) : Frz H' tb bor v v' := by
  induction h with
  | s => exact .s
  | nil => exact .nil
  | sl hl ht _ ih => exact .sl hl ht ih
  | ip hl ht _ ih => exact .ip hl ht ih
  | rf hm hk hH ht hb hl _ ih => exact .rf hm hk ((hh _ hk).trans hH) ht hb hl ih
  | ag hl _ ih => exact .ag hl ih
  | un => exact .un
  | on => exact .on
  | rfN hk hko hH ht hb hl _ hN ih => exact .rfN hk hko ((hh _ hk).trans hH) ht hb hl ih hN
theorem Cnv.congr {H H' : Nat → Option (List V)} {tb : Bool} {bor : List Nat} {km : List (Nat × Nat)} {v v' : V} (h : Cnv H tb bor km v v') (hh : ∀ k, k ∈ bor → H' k = H k) (hh2 : ∀ k k', (k, k') ∈ km → H' k = H k) : Cnv H' tb bor km v v' := by
  induction h with
  | z h => exact .z (h.congr hh)
  | pt h => exact .pt h
  | rf h => exact .rf h
  | nl h hH => exact .nl h (by rw [hh2 _ _ h]; exact hH)
  | ag hl _ ih => exact .ag hl ih
  | tp hl _ ih => exact .tp hl ih
  | fn h1 h2 _ _ i1 i2 => exact .fn h1 h2 i1 i2
theorem COK.congr {H H' : Nat → Option (List V)} {A : List V} {C : Cal} (h : COK H A C) (hh : ∀ k, k ∈ C.bor ++ C.km'.map (·.1) → H' k = H k) : COK H' A C := by
  have hb : ∀ k, k ∈ C.bor → H' k = H k := fun k hk => hh k (List.mem_append_left _ hk)
  have hm : ∀ k k', (k, k') ∈ C.km' → H' k = H k := fun k k' hk => hh k (List.mem_append_right _ (List.mem_map.2 ⟨_, hk, rfl⟩))
  refine { h with args := fun i h1 h2 => (h.args i h1 h2).congr hb (fun k k' hk => hm k k' (h.up _ hk)), dom := fun k k' hk => ?_, new := fun k k' hk => ?_ }
  · obtain ⟨cs, cs', h1, h2, h3, h4⟩ := h.dom k k' hk
    exact ⟨cs, cs', (hm k k' (h.up _ hk)).trans h1, h2, h3, fun i a b => (h4 i a b).congr hb (fun k k' hk => hm k k' (h.up _ hk))⟩
  · rcases h.new k k' hk with h1 | h1
    · exact .inl h1
    · exact .inr ((hm k k' hk).trans h1)
section
variable {P : Program} {ops : Array Oper} {key : Nat} {o : Oper}
theorem sop_local {e e' : Nat → V} {h h' : Nat → Option (List V)} {hint : Hint} {I : Inf} (hI : sop P ops key o e h hint = some I) (he : ∀ t, t ∈ o.looksAt ops → e' t = e t) (hh : ∀ k, k ∈ I.touch → h' k = h k) :
    ∃ I', sop P ops key o e' h' hint = some I' ∧ I'.v = I.v ∧ I'.post = I.post ∧ I'.cal = I.cal ∧ (AllP I.ob → AllP I'.ob) := by
  have hop : ∀ x, x ∈ o.op.operands → ev e' x = ev e x := by
    intro x hx
    cases x with
    | tmp t => exact he t (List.mem_append_left _ (List.mem_filterMap.2 ⟨.tmp t, by simpa using hx, rfl⟩))
    | _ => rfl
  have hg : gdOf ops e' o = gdOf ops e o := by
    unfold gdOf
    cases hgd : o.guard with
    | none => rfl
    | some jw =>
      obtain ⟨j, want⟩ := jw
      simp only
      cases ht : (ops[j]?).bind (·.dst) with
      | none => rfl
      | some t => simp only; rw [he t (by simp [Oper.looksAt, hgd, ht])]
  unfold sop at hI ⊢
  rw [hg]
  cases hgd : gdOf ops e o with
  | none => rw [hgd] at hI; cases hI
  | some b =>
    rw [hgd] at hI
    cases b with
    | false => exact ⟨I, hI, rfl, rfl, rfl, id⟩
    | true =>
      simp only at hI ⊢
      cases hint with
      | no =>
        simp only at hI ⊢
        split at hI
        · rename_i r hr
          simp only [Option.some.injEq] at hI
          subst hI
          rw [aop_local hr hop hh]
          exact ⟨_, rfl, rfl, rfl, rfl, id⟩
        · cases hI
      | v v' =>
        simp only at hI ⊢
        split at hI
        · rename_i r hr
          simp only [Option.some.injEq] at hI
          subst hI
          rw [aop_local hr hop hh]
          exact ⟨_, rfl, rfl, rfl, rfl, id⟩
        · cases hI
      | w v' cs' =>
        simp only at hI ⊢
        split at hI
        · rename_i r hr
          split at hI
          · rename_i k cs hp
            simp only [Option.some.injEq] at hI
            subst hI
            rw [aop_local hr hop hh]
            simp only [hp]
            exact ⟨_, rfl, rfl, rfl, rfl, id⟩
          · cases hI
        · cases hI
      | c C =>
        simp only at hI ⊢
        split at hI
        · rename_i f args ts hopp
          rw [hopp] at hop
          have h1 : ev e' f = ev e f := hop f (by simp [Op.operands, Call.operands])
          have h2 : args.toList.map (ev e') = args.toList.map (ev e) := List.map_congr_left fun x hx => hop x (by simp only [Op.operands, Call.operands]; simp [Array.mem_toList_iff.1 hx])
          rw [h1, h2]
          split at hI
          · rename_i fid first caps hf
            cases hb : (Nat.beq fid C.f && cbl P C.f) with
            | false => rw [hb] at hI; cases hI
            | true =>
              rw [hb] at hI
              simp only [cond_true, Option.some.injEq] at hI ⊢
              subst hI
              exact ⟨_, rfl, rfl, rfl, rfl, fun (hc : COK h _ C) => (hc.congr hh : COK h' _ C)⟩
          · cases hI
        · cases hI
end
end Go.Proofs.Ytpjmefdpjlhkhaa.Eng

