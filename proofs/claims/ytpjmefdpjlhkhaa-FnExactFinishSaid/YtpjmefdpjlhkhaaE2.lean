/- The engine: a checked abstract machine for the functions of the program (2 of 5). -/
import Derived.Laws.BytesString
import Derived.Laws.StructEq
import Derived.WideKeyArr
import Derived.WideKeyElems
import Derived.Test.YtpjmefdpjlhkhaaE1
/- The engine, part 8: literals, makes, cuts, sums, appends; all operations in one law. -/
namespace Go.Proofs.Ytpjmefdpjlhkhaa.Eng
open Go.RowKit
set_option linter.unusedVariables false
set_option linter.unusedSimpArgs false
section
variable {P : Program} {c : Cx} {h : Nat → Option (List V)} {w : World} {Ow : Nat → Nat → Prop} {key : Nat} {ρ : Operand → V} {σ : Operand → Value} {r : Res}
theorem parts_rel {ps : Array (Nat × Operand)} {L : Nat → Option Nat} (hv : ∀ x, x ∈ (ps.toList.map (·.2)).toArray → R c L w (ρ x) (σ x)) :
    ((ps.map fun p => (p.1, σ p.2)).toList.length = (ps.toList.map fun p => (p.1, ρ p.2)).length) ∧ ∀ i (h : i < (ps.toList.map fun p => (p.1, ρ p.2)).length) (h' : i < (ps.map fun p => (p.1, σ p.2)).toList.length), ((ps.map fun p => (p.1, σ p.2)).toList[i]'h').1 = ((ps.toList.map fun p => (p.1, ρ p.2))[i]'h).1 ∧ R c L w ((ps.toList.map fun p => (p.1, ρ p.2))[i]'h).2 ((ps.map fun p => (p.1, σ p.2)).toList[i]'h').2 := by
  refine ⟨by simp, fun i hi hi' => ?_⟩
  have h1 : i < ps.size := by simpa using hi
  simp only [Array.toList_map, List.getElem_map, Array.getElem_toList]
  refine ⟨trivial, hv _ ?_⟩
  simp only [List.mem_toArray, List.mem_map]
  exact ⟨ps[i], by simp, rfl⟩
theorem build_sound {t : TypeId} {parts : Array (Nat × Operand)} {o : Oper} (ho : o.op = .build t parts) (hs : Sim c h w Ow) (hv : ∀ x, x ∈ o.op.operands → R c (ln h) w (ρ x) (σ x)) (hr : aop P ρ h key o = some r) : GoesAny P (execOp σ o) c h w Ow r := by
  rw [ho] at hv
  simp only [Op.operands] at hv
  simp only [aop, ho] at hr
  split at hr
  · rename_i fs z hu hz
    split at hr
    · rename_i pl hpl
      split at hr
      · rename_i cs hf
        simp only [Option.some.injEq] at hr
        subst hr
        obtain ⟨i, zv, h1, h2, h3, h4, h5⟩ := cl_zeros (c := c) (w := w) hz
        obtain ⟨p1, p2⟩ := parts_rel (c := c) (L := ln h) hv
        obtain ⟨arr, f1, f2, f3⟩ := fill_sound _ _ (h5 (ln h)) (by rw [h3]; simp) p1 p2 hf
        refine goes_val hs (x := .agg arr) ?_ (.ag f3 f2.one f2.rel)
        have hb : P.built t (parts.map fun p => (p.1, σ p.2)).toList = some arr := by
          unfold Program.built
          simp only [h1, hu, h2, hpl]
          exact f1
        simp only [execOp, ho, Sem.run_bind, run_build w t _ arr hb, Result.andThen_ok]
        rfl
      · cases hr
    · cases hr
  · cases hr
theorem rept_length {n : Nat} {z : List V} : (rept n z).length = n * z.length := by
  unfold rept
  split
  · simp
  · rw [List.length_flatten]; simp
theorem rept_get {n : Nat} {z : List V} (hz : 0 < z.length) (i : Nat) (hi : i < (rept n z).length) : (rept n z)[i] = z[i % z.length]'(Nat.mod_lt _ hz) := by
  have key : ∀ (n i : Nat) (hi : i < ((List.replicate n z).flatten).length), ((List.replicate n z).flatten)[i] = z[i % z.length]'(Nat.mod_lt _ hz) := by
    intro n
    induction n with
    | zero => intro i hi; simp at hi
    | succ n ih =>
      intro i hi
      simp only [List.replicate_succ, List.flatten_cons]
      rw [List.getElem_append]
      split
      · rename_i hlt
        congr 1
        exact (Nat.mod_eq_of_lt hlt).symm
      · rename_i hge
        have hge : z.length ≤ i := by omega
        have hm : (i - z.length) % z.length = i % z.length := (Nat.mod_eq_sub_mod hge).symm
        rw [ih]
        congr 1
  unfold rept at hi ⊢
  split
  · rename_i x
    simp [Nat.mod_one]
  · exact key n i _
theorem cl_rept {t : TypeId} {z : List V} {zv : Value} {n : Nat} {L : Nat → Option Nat} (hcl : Cl c L w z zv.cells) (hz : z.length = zv.cells.size) (hp : 0 < z.length) :
    Cl c L w (rept n z) ((Array.range (n * z.length)).map fun i => zv.cells[i % zv.cells.size]!) := by
  have hg : ∀ i, i < n * z.length → ((Array.range (n * z.length)).map fun i => zv.cells[i % zv.cells.size]!).getD i undef = zv.cells.getD (i % z.length) undef := by
    intro i hi
    have hm : i % z.length < zv.cells.size := by rw [← hz]; exact Nat.mod_lt _ hp
    simp [Array.getD_eq_getD_getElem?, hi, ← hz]
    rw [getElem!_pos zv.cells _ hm]
    simp [hm]
  refine ⟨by rw [rept_length]; simp, fun i hi => ?_, fun i hi => ?_⟩
  · rw [rept_length] at hi
    rw [hg i hi]
    exact hcl.one _ (Nat.mod_lt _ hp)
  · have hi' := hi
    rw [rept_length] at hi'
    rw [hg i hi', rept_get hp]
    exact hcl.rel _ (Nat.mod_lt _ hp)
theorem elem_under {t e : TypeId} (h : elemOf? P t = some e) : P.underlying t = some (.slice e) := by
  unfold elemOf? at h
  split at h
  · rename_i e' hu; injection h with h; subst h; exact hu
  · cases h
theorem cells_info {t : TypeId} {i : TypeInfo} (h : P.info? t = some i) : P.cellsOf t = i.size := by simp [Program.cellsOf, h]
theorem run_size' {t : TypeId} {i : TypeInfo} (h : P.info? t = some i) (w : World) : (sizeOf t).run P w = .ok (P.cellsOf t) w := by simp [sizeOf, run_info h, Program.cellsOf, h]
theorem buildSlice_sound {t : TypeId} {n : Nat} {parts : Array (Nat × Operand)} {o : Oper} (ho : o.op = .buildSlice t n parts) (hs : Sim c h w Ow) (hv : ∀ x, x ∈ o.op.operands → R c (ln h) w (ρ x) (σ x)) (hr : aop P ρ h key o = some r) : GoesAny P (execOp σ o) c h w Ow r := by
  rw [ho] at hv
  simp only [Op.operands] at hv
  simp only [aop, ho] at hr
  split at hr
  · rename_i e he
    split at hr
    · rename_i z hz
      cases hb : (Nat.ble (n * P.cellsOf e) 16777216 && !Nat.beq (P.cellsOf e) 0) with
      | false => rw [hb] at hr; cases hr
      | true =>
        rw [hb] at hr
        simp only [cond_true] at hr
        rw [Bool.and_eq_true] at hb
        have b1 := Nat.le_of_ble_eq_true hb.1
        have b2 : P.cellsOf e ≠ 0 := fun e0 => by rw [e0] at hb; simp at hb
        split at hr
        · rename_i cs hf
          obtain ⟨hk, rfl⟩ := new_some hr
          obtain ⟨i, zv, h1, h2, h3, h4, h5⟩ := cl_zeros (c := c) (w := w) hz
          have hzl : z.length = zv.cells.size := by rw [h3]; simp
          have hsz : P.cellsOf e = z.length := by rw [cells_info h1, hzl, h4]
          obtain ⟨p1, p2⟩ := parts_rel (c := c) (L := ln h) hv
          have hcl := cl_rept (t := e) (n := n) (h5 (ln h)) hzl (by omega)
          obtain ⟨arr, f1, f2, f3⟩ := fill_sound _ _ hcl (by rw [rept_length]; simp) p1 p2 hf
          have hlen : cs.length = n * P.cellsOf e := by
            have : ∀ (place : Nat → Option (Nat × Nat)) (ps : List (Nat × V)) (a b : List V), fills place a ps = some b → b.length = a.length := by
              intro place ps
              induction ps with
              | nil => intro a b h; simp only [fills, Option.some.injEq] at h; rw [h]
              | cons p ps ih =>
                intro a b h
                obtain ⟨k, v⟩ := p
                simp only [fills] at h
                split at h
                · rename_i off sz vs _ _
                  cases hq : (Nat.beq vs.length sz && Nat.ble (off + sz) a.length) with
                  | false => rw [hq] at h; cases h
                  | true => rw [hq] at h; rw [ih _ _ h, spl_length]
                · cases h
            rw [this _ _ _ _ hf, rept_length, hsz]
          refine goes_new' (x := .slice (some ⟨w.heap.size, 0, none⟩) n n) (arr := arr) (ty := e) hs hk ?_ f2 (fun e1 e2 e3 => .rf e3 (by omega) (Nat.le_refl _) (fun _ => ⟨e1, by rw [e2]; omega⟩))
          by_cases h0 : n * P.cellsOf e = 0
          · have hfill : Instr.fill (fun i => some (i * P.cellsOf e, P.cellsOf e)) ((Array.range (n * P.cellsOf e)).map fun x => (#[] : Array Value)[x % (#[] : Array Value).size]!) (parts.map fun p => (p.1, σ p.2)).toList = some arr := by
              have e0 : (Array.range (n * P.cellsOf e)).map (fun x => (#[] : Array Value)[x % (#[] : Array Value).size]!) = (Array.range (n * z.length)).map fun i => zv.cells[i % zv.cells.size]! := by rw [← hsz, h0]; simp
              rw [e0]; exact f1
            simp only [execOp, ho, Instr.buildSlice, Sem.run_bind, run_underlying (elem_under he), Result.andThen_ok, run_size' h1, if_neg (show ¬ n * P.cellsOf e > 2 ^ 24 by omega), if_pos h0, Sem.run_pure, hfill, newRow, run_newObj]
            rfl
          · have hfill : Instr.fill (fun i => some (i * P.cellsOf e, P.cellsOf e)) ((Array.range (n * P.cellsOf e)).map fun x => zv.cells[x % zv.cells.size]!) (parts.map fun p => (p.1, σ p.2)).toList = some arr := by rw [hsz] at *; exact f1
            have hz0 : (zeroValue e).run P w = .ok zv w := by simp [zeroValue, run_info h1, h2]
            simp only [execOp, ho, Instr.buildSlice, Sem.run_bind, run_underlying (elem_under he), Result.andThen_ok, run_size' h1, if_neg (show ¬ n * P.cellsOf e > 2 ^ 24 by omega), if_neg h0, Sem.run_pure, hz0, hfill, newRow, run_newObj]
            rfl
        · cases hr
    · cases hr
  · cases hr
end
end Go.Proofs.Ytpjmefdpjlhkhaa.Eng

/- The engine, part 8b: makes, cuts. -/
namespace Go.Proofs.Ytpjmefdpjlhkhaa.Eng
open Go.RowKit
set_option linter.unusedVariables false
set_option linter.unusedSimpArgs false
section
variable {P : Program} {c : Cx} {h : Nat → Option (List V)} {w : World} {Ow : Nat → Nat → Prop} {key : Nat} {ρ : Operand → V} {σ : Operand → Value} {r : Res}
theorem i64w (n : Int) : IntKind.i64.wrap n = wrap64 n := IntWalk.i64_left n
theorem makeSlice_sound {t : TypeId} {l cp : Operand} {o : Oper} (ho : o.op = .makeSlice t l cp) (hs : Sim c h w Ow) (hv1 : R c (ln h) w (ρ l) (σ l)) (hv2 : R c (ln h) w (ρ cp) (σ cp)) (hr : aop P ρ h key o = some r) (hob : AllP r.ob) : GoesAny P (execOp σ o) c h w Ow r := by
  simp only [aop, ho] at hr
  split at hr
  · rename_i e n n' he e1 e2
    split at hr
    · rename_i z hz
      cases hb : Nat.beq (P.cellsOf e) 0 with
      | true => rw [hb] at hr; cases hr
      | false =>
        rw [hb] at hr
        simp only [Bool.not_false, cond_true] at hr
        have b2 : P.cellsOf e ≠ 0 := fun e0 => by rw [e0] at hb; simp at hb
        obtain ⟨hk, rfl⟩ := new_some hr
        obtain ⟨q1, q2, q3, q4⟩ := hob
        subst q1
        rw [e1] at hv1
        rw [e2] at hv2
        have s1 := hv1.s_inv.1
        have s2 := hv2.s_inv.1
        obtain ⟨i, zv, h1, h2, h3, h4, h5⟩ := cl_zeros (c := c) (w := w) hz
        have hzl : z.length = zv.cells.size := by rw [h3]; simp
        have hsz : P.cellsOf e = z.length := by rw [cells_info h1, hzl, h4]
        have hcl := cl_rept (t := e) (n := n'.toNat) (h5 (ln h)) hzl (by omega)
        have hby : P.bytesOf e = i.bytes := by simp [Program.bytesOf, h1]
        have hw : IntKind.i64.wrap n' = n' := IntWalk.i64_in _ (by omega)
        refine goes_new' (x := .slice (some ⟨w.heap.size, 0, none⟩) n'.toNat n'.toNat) (arr := (Array.range (n'.toNat * z.length)).map fun i => zv.cells[i % zv.cells.size]!) (ty := e) hs hk ?_ hcl (fun e1 e2 e3 => .rf e3 (by rw [rept_length, hsz]; exact Nat.le_refl _) (Nat.le_refl _) (fun _ => ⟨e1, by rw [e2, hsz]; simp⟩))
        have hz0 : ∀ w, (zeroValue e).run P w = .ok zv w := fun w => by simp [zeroValue, run_info h1, h2]
        have hlow : ¬ (decide ((i.bytes : Int) * n' > 2 ^ 48) = true) := by
          rw [decide_eq_true_eq]
          rw [hby, Int.mul_comm] at q3
          omega
        have ht : (decide (n' < 0) || decide ((i.bytes : Int) * n' > 2 ^ 48) || decide (n' < 0) || decide (n' > n')) = false := by
          simp only [Bool.or_eq_false_iff, decide_eq_false_iff_not]
          refine ⟨⟨⟨by omega, fun h => hlow (decide_eq_true h)⟩, by omega⟩, by omega⟩
        by_cases h0 : n'.toNat * P.cellsOf e = 0
        · have harr : ((Array.range (n'.toNat * P.cellsOf e)).map fun x => (#[] : Array Value)[x % (#[] : Array Value).size]!) = (Array.range (n'.toNat * z.length)).map fun i => zv.cells[i % zv.cells.size]! := by rw [← hsz, h0]; simp
          simp only [execOp, ho, Instr.makeSlice, Sem.run_bind, run_underlying (elem_under he), Result.andThen_ok, s1, s2, asInt, as_int, Sem.run_pure, run_info h1, hw, ht, Bool.false_eq_true, if_false, run_askRoom, run_size' h1, if_pos h0, harr, newRow, run_newObj]
          rfl
        · have harr : ((Array.range (n'.toNat * P.cellsOf e)).map fun x => zv.cells[x % zv.cells.size]!) = (Array.range (n'.toNat * z.length)).map fun i => zv.cells[i % zv.cells.size]! := by rw [← hsz]
          simp only [execOp, ho, Instr.makeSlice, Sem.run_bind, run_underlying (elem_under he), Result.andThen_ok, s1, s2, asInt, as_int, Sem.run_pure, run_info h1, hw, ht, Bool.false_eq_true, if_false, run_askRoom, run_size' h1, if_neg h0, hz0, harr, newRow, run_newObj]
          rfl
    · cases hr
  · cases hr
theorem optInt_some {d i : Int} {x : Option Operand} {L : Nat → Option Nat} (hv : ∀ y, x = some y → R c L w (ρ y) (σ y)) (h : optInt d (x.map ρ) = some i) : (x = none ∧ i = d) ∨ ∃ y k, x = some y ∧ σ y = .int k i := by
  cases x with
  | none => simp only [Option.map_none, optInt, Option.some.injEq] at h; exact .inl ⟨rfl, h.symm⟩
  | some y =>
    simp only [Option.map_some] at h
    unfold optInt at h
    split at h
    · cases ‹some (ρ y) = none›
    · rename_i k n e
      injection e with e
      injection h with h
      subst h
      have := hv y rfl
      rw [e] at this
      exact .inr ⟨y, k, rfl, this.s_inv.1⟩
    · cases h
theorem run_bound {k : IntKind} {i : Int} {y : Nat} {code : BoundsCode} (h0 : 0 ≤ i) (h1 : i ≤ y) (w : World) : (Instr.sliceBound (.int k i) y code).run P w = .ok i.toNat w := by
  simp [Instr.sliceBound, as_int, h0, h1]
theorem run_bounds {is : Bool} {len cap : Nat} {lo hi : Option Operand} {l hh : Int} {w : World} (hl : (lo = none ∧ l = 0) ∨ ∃ y k, lo = some y ∧ σ y = .int k l) (hh' : (hi = none ∧ hh = len) ∨ ∃ y k, hi = some y ∧ σ y = .int k hh) (h0 : 0 ≤ l) (h1 : l ≤ hh) (h2 : hh ≤ cap) :
    (Instr.sliceBounds is len cap (lo.map σ) (hi.map σ) none).run P w = .ok (l.toNat, hh.toNat, cap) w := by
  have hb : ∀ {k : IntKind} {code : BoundsCode} {y : Nat}, hh ≤ y → (Instr.sliceBound (.int k hh) y code).run P w = .ok hh.toNat w := fun hy => run_bound (by omega) hy w
  have hl' : ∀ {k : IntKind} {code : BoundsCode} {y : Nat}, l ≤ y → (Instr.sliceBound (.int k l) y code).run P w = .ok l.toNat w := fun hy => run_bound h0 hy w
  have e0 : l ≤ (hh.toNat : Nat) := by omega
  unfold Instr.sliceBounds
  rcases hl with ⟨rfl, rfl⟩ | ⟨y, k, rfl, e⟩ <;> rcases hh' with ⟨rfl, rfl⟩ | ⟨y', k', rfl, e'⟩
  · simp
  · simp [e', hb h2]
  · simp only [Option.map_none, Option.map_some, Sem.run_bind, Sem.run_pure, Result.andThen_ok, e, hl' h1] <;> rfl
  · simp only [Option.map_none, Option.map_some, Sem.run_bind, Sem.run_pure, Result.andThen_ok, e, e', hb h2, hl' e0] <;> rfl
theorem slice_sound {t : TypeId} {x : Operand} {lo hi : Option Operand} {o : Oper} (ho : o.op = .slice t x lo hi none) (hs : Sim c h w Ow) (hv : ∀ x, x ∈ o.op.operands → R c (ln h) w (ρ x) (σ x)) (hr : aop P ρ h key o = some r) (hob : AllP r.ob) : GoesAny P (execOp σ o) c h w Ow r := by
  rw [ho] at hv
  have hx := hv x (by simp [Op.operands])
  have hlo : ∀ y, lo = some y → R c (ln h) w (ρ y) (σ y) := fun y hy => hv y (by subst hy; simp [Op.operands])
  have hhi : ∀ y, hi = some y → R c (ln h) w (ρ y) (σ y) := fun y hy => hv y (by subst hy; cases lo <;> simp [Op.operands])
  simp only [aop, ho] at hr
  split at hr
  · rename_i s hu e1
    split at hr
    · rename_i l hh q1 q2
      simp only [Option.some.injEq] at hr
      subst hr
      obtain ⟨o1, o2, o3⟩ := hob
      rw [e1] at hx
      have ex := hx.s_inv.1
      have hb := run_bounds (P := P) (σ := σ) (is := false) (len := s.size) (cap := s.size) (w := w) (optInt_some hlo q1) (optInt_some hhi q2) o1 o2 o3
      refine goes_val hs (x := .string (s.extract l.toNat hh.toNat)) ?_ (.i (.s rfl))
      simp [execOp, ho, Instr.sliceAt, run_underlying hu, ex, Instr.slice, hb]
    · cases hr
  · rename_i e tg n sz cs hu e1
    split at hr
    · rename_i l hh q1 q2
      cases hb : (Nat.beq sz (P.cellsOf e) && (P.underlying e).isSome) with
      | false => rw [hb] at hr; cases hr
      | true =>
        rw [hb] at hr
        simp only [cond_true, Option.some.injEq] at hr
        subst hr
        obtain ⟨o1, o2, o3⟩ := hob
        rw [Bool.and_eq_true] at hb
        have hsz := Nat.eq_of_beq_eq_true hb.1
        rw [e1] at hx
        have run : ∀ a cap, σ x = .slice a n cap → (n : Int) ≤ cap → (execOp σ o).run P w = .ok (.value (.slice (if cap = l.toNat then a else a.map (·.add (l.toNat * P.cellsOf e))) (hh.toNat - l.toNat) (cap - l.toNat))) w := by
          intro a cap ex hc
          have hbn := run_bounds (P := P) (σ := σ) (is := true) (len := n) (cap := cap) (w := w) (optInt_some hlo q1) (optInt_some hhi q2) o1 o2 (by omega)
          simp [execOp, ho, Instr.sliceAt, run_underlying hu, ex, Instr.slice, hbn, run_size hb.2]
        rcases hx.sl_inv with ⟨hn0, hcs, a, cap, ex⟩ | ⟨u, b, off, cap, ex, hok, hn, hl, hc, ho1, hrel⟩
        · subst hn0
          have hz : hh.toNat - l.toNat = 0 := by omega
          refine goes_val hs (run a cap ex (by omega)) ?_
          rw [hz, hcs]
          simp only [List.drop_nil, List.take_nil]
          exact .i .sl0
        · refine goes_val hs (run _ cap ex (by omega)) ?_
          by_cases he : cap = l.toNat
          · have hz : hh.toNat - l.toNat = 0 := by omega
            rw [hz, Nat.zero_mul, List.take_zero]
            exact .i .sl0
          · rw [if_neg he]
            simp only [Option.map_some, add_at, ← hsz]
            have hle : hh.toNat * sz ≤ n * sz := Nat.mul_le_mul_right _ (by omega)
            have hsub : (hh.toNat - l.toNat) * sz = hh.toNat * sz - l.toNat * sz := Nat.sub_mul _ _ _
            have hlen : ((cs.drop (l.toNat * sz)).take ((hh.toNat - l.toNat) * sz)).length = (hh.toNat - l.toNat) * sz := by
              rw [List.length_take, List.length_drop, hl, hsub]; omega
            refine .i (.sl (fun i => u (l.toNat * sz + i)) hok (by omega) hlen (fun i hi => ?_) (fun i hi => ?_) (fun i hi => ?_))
            · rw [Nat.add_assoc]; exact hc _ (by rw [hlen] at hi; omega)
            · exact ho1 _ (by rw [hlen] at hi; omega)
            · rw [List.getElem_take, List.getElem_drop]; exact hrel _ (by rw [hlen] at hi; omega)
    · cases hr
  · rename_i e k off n sz tot hu e1
    split at hr
    · rename_i l hh q1 q2
      cases hb : (Nat.beq sz (P.cellsOf e) && (P.underlying e).isSome) with
      | false => rw [hb] at hr; cases hr
      | true =>
        rw [hb] at hr
        simp only [cond_true, Option.some.injEq] at hr
        subst hr
        obtain ⟨o1, o2, o3, o4⟩ := hob
        rw [Bool.and_eq_true] at hb
        have hsz := Nat.eq_of_beq_eq_true hb.1
        rw [e1] at hx
        rcases hx.rf_inv with ⟨ex, z1, z2, z3, lL, hl⟩ | ⟨b, cap, lL, ex, hl, ht, hn, hφ⟩
        · subst z1 z2 z3
          have hl0 : l = 0 := by omega
          have hh0 : hh = 0 := by omega
          subst hl0 hh0
          have hbn := run_bounds (P := P) (σ := σ) (is := true) (len := 0) (cap := 0) (w := w) (optInt_some hlo q1) (optInt_some hhi q2) o1 o2 (by omega)
          have hz : R c (ln h) w (.rf k (0 + (0 : Int).toNat * sz) ((0 : Int).toNat - (0 : Int).toNat) sz 0) (.slice none 0 0) := by
            have : 0 + (0 : Int).toNat * sz = 0 := by simp
            rw [this]; exact .rf0 hl
          refine goes_val hs (x := .slice none 0 0) ?_ hz
          simp only [execOp, ho, Instr.sliceAt, Sem.run_bind, run_underlying hu, Result.andThen_ok, ex, Instr.slice, Option.map_none, hbn, run_size hb.2]
          rfl
        have hbn := run_bounds (P := P) (σ := σ) (is := true) (len := n) (cap := cap) (w := w) (optInt_some hlo q1) (optInt_some hhi q2) o1 o2 (by omega)
        have ha : (if cap = l.toNat then some (⟨b, off, none⟩ : Addr) else (some (⟨b, off, none⟩ : Addr)).map (·.add (l.toNat * P.cellsOf e))) = some ⟨b, off + l.toNat * sz, none⟩ := by
          by_cases he : cap = l.toNat
          · have h0 : l.toNat = 0 := by omega
            rw [if_pos he, h0]; simp
          · rw [if_neg he]; simp only [Option.map_some, add_at, ← hsz]
        refine goes_val hs (x := .slice (some ⟨b, off + l.toNat * sz, none⟩) (hh.toNat - l.toNat) (cap - l.toNat)) ?_ (.rf hl ht (by omega) (fun e => ⟨(hφ e).1, ?_⟩))
        · simp only [execOp, ho, Instr.sliceAt, Sem.run_bind, run_underlying hu, Result.andThen_ok, ex, Instr.slice, Option.map_none, hbn, run_size hb.2, ha]
          rfl
        · have h1 := (hφ e).2
          have h2 : l.toNat * sz ≤ cap * sz := Nat.mul_le_mul_right _ (by omega)
          have h3 : (cap - l.toNat) * sz = cap * sz - l.toNat * sz := Nat.sub_mul _ _ _
          omega
    · cases hr
  · cases hr
theorem index_sound {t : TypeId} {x ix : Operand} {o : Oper} (ho : o.op = .index t x ix) (hs : Sim c h w Ow) (hv : ∀ x, x ∈ o.op.operands → R c (ln h) w (ρ x) (σ x)) (hr : aop P ρ h key o = some r) (hob : AllP r.ob) : GoesAny P (execOp σ o) c h w Ow r := by
  have hx := hv x (by rw [ho]; simp [Op.operands])
  have hi := hv ix (by rw [ho]; simp [Op.operands])
  simp only [aop, ho] at hr
  split at hr
  · rename_i s k i e1 e2
    split at hr
    · rename_i hu
      simp only [Option.some.injEq] at hr
      subst hr
      obtain ⟨o1, o2⟩ := hob
      rw [e1] at hx
      rw [e2] at hi
      have hlt : i.toNat < s.size := by omega
      refine goes_val hs (x := .int .u8 ((s[i.toNat]'hlt).toNat : Int)) ?_ (by simp only [dif_pos hlt]; exact .i (.s rfl))
      have hg : s[i.toNat]? = some (s[i.toNat]'hlt) := by simp [hlt]
      simp [execOp, ho, Instr.index, hi.s_inv.1, hx.s_inv.1, as_int, run_underlying hu, o1, hg]
    · cases hr
  · rename_i cs k i e1 e2
    split at hr
    · rename_i n e hu
      cases hb : ((P.underlying e).isSome && !isAg P e && Nat.beq (P.cellsOf e) 1) with
      | false => rw [hb] at hr; cases hr
      | true =>
        rw [hb] at hr
        simp only [cond_true, Option.some.injEq] at hr
        subst hr
        obtain ⟨o1, o2, o3⟩ := hob
        rw [Bool.and_eq_true, Bool.and_eq_true] at hb
        obtain ⟨⟨b1, b2⟩, b3⟩ := hb
        have b2' : isAg P e = false := by simpa using b2
        rw [e1] at hx
        rw [e2] at hi
        obtain ⟨us, ex, hsz, h1, h2⟩ := hx.ag_inv
        have hlt : i.toNat < us.size := by omega
        have hlt2 : i.toNat < cs.length := by omega
        have h1e := Nat.eq_of_beq_eq_true b3
        have hge : us.getD i.toNat undef = us[i.toNat] := by simp [Array.getD_eq_getD_getElem?, hlt]
        have hge' : us[i.toNat]? = some us[i.toNat] := by simp [hlt]
        refine goes_val hs (x := us[i.toNat]) ?_ ?_
        · simp [execOp, ho, Instr.index, hi.s_inv.1, ex, as_int, run_underlying hu, o1, o2, part, run_agg b1, b2', run_size b1, h1e, hge']
        · have : cs.getD i.toNat .un = cs[i.toNat] := by rw [List.getD_eq_getElem?_getD, List.getElem?_eq_getElem hlt2]; rfl
          rw [this, ← hge]
          exact h2 _ hlt2
    · cases hr
  · exact raw_sound hs hv hr
theorem bytesV_get : ∀ {cs : List V} {l : List UInt8}, bytesV cs = some l → ∃ ns : List Int, cs = ns.map (fun n => .s (.int .u8 n)) ∧ l = ns.map fun n => UInt8.ofNat n.toNat
  | [], l, h => by simp only [bytesV, Option.some.injEq] at h; subst h; exact ⟨[], rfl, rfl⟩
  | v :: cs, l, h => by
    unfold bytesV at h
    split at h
    · rename_i heq; cases heq
    · rename_i n r heq
      obtain ⟨rfl, rfl⟩ := List.cons.inj heq
      split at h
      · rename_i l' hl
        simp only [Option.some.injEq] at h
        subst h
        obtain ⟨ns, rfl, rfl⟩ := bytesV_get hl
        exact ⟨n :: ns, rfl, rfl⟩
      · cases h
    · cases h
theorem isU8_of {t : TypeId} (h : isU8 P t = true) : ∃ e, P.underlying t = some (.slice e) ∧ P.underlying e = some (.int .u8) := by
  unfold isU8 at h
  split at h
  · rename_i e he
    refine ⟨e, elem_under he, ?_⟩
    split at h
    · assumption
    · cases h
  · cases h
theorem isStr_of {t : TypeId} (h : isStr P t = true) : P.underlying t = some .string := by
  unfold isStr at h
  split at h
  · assumption
  · cases h
theorem fold_push : ∀ (ns : List Int) (s : ByteArray), ns.foldl (fun r n => r.push (UInt8.ofNat n.toNat)) s = ⟨s.data ++ (ns.map fun n => UInt8.ofNat n.toNat).toArray⟩
  | [], s => by simp
  | n :: ns, s => by
    rw [List.foldl_cons, fold_push ns]
    simp [ByteArray.push]
theorem run_bytes {src dst : TypeId} {b off n cap : Nat} {ns : List Int} (h1 : isU8 P src = true) (h2 : isStr P dst = true) (hl : ns.length = n) (hc : ∀ i (h : i < ns.length), w.cell? ⟨b, off + i, none⟩ = some (.int .u8 ns[i])) :
    (convert src dst (.slice (some ⟨b, off, none⟩) n cap)).run P w = .ok (.string ⟨(ns.map fun n => UInt8.ofNat n.toNat).toArray⟩) w := by
  obtain ⟨e, a1, a2⟩ := isU8_of h1
  have hcells : (loadCells ⟨b, off, none⟩ n).run P w = .ok (ns.map (Value.int .u8)).toArray w := by
    rw [run_cells b off n (fun i => .int .u8 (ns.getD i 0)) (fun j hj => by rw [hc j (by omega)]; simp [List.getD_eq_getElem?_getD, List.getElem?_eq_getElem (show j < ns.length by omega)])]
    congr 2
    refine List.ext_getElem (by simp [hl]) fun i q1 q2 => ?_
    simp only [List.getElem_map, List.getElem_range]
    rw [List.getD_eq_getElem?_getD, List.getElem?_eq_getElem (by simpa using q2)]
    rfl
  rw [run_convert_bytes_string w src dst e _ n cap a1 a2 (isStr_of h2), run_bytesToString w _ n cap ns hcells, fold_push]
  simp [ByteArray.empty, ByteArray.emptyWithCapacity]
  rfl
theorem conv_sound {src dst : TypeId} {x : Operand} {o : Oper} (ho : o.op = .convert src dst x) (hs : Sim c h w Ow) (hv : ∀ x, x ∈ o.op.operands → R c (ln h) w (ρ x) (σ x)) (hr : aop P ρ h key o = some r) (hob : AllP r.ob) : GoesAny P (execOp σ o) c h w Ow r := by
  have hx := hv x (by rw [ho]; simp [Op.operands])
  simp only [aop, ho] at hr
  have run : ∀ (b off n cap : Nat) (ns : List Int), σ x = .slice (some ⟨b, off, none⟩) n cap → isU8 P src = true → isStr P dst = true → ns.length = n → (∀ i (h : i < ns.length), w.cell? ⟨b, off + i, none⟩ = some (.int .u8 ns[i])) →
      (execOp σ o).run P w = .ok (.value (.string ⟨(ns.map fun n => UInt8.ofNat n.toNat).toArray⟩)) w := by
    intro b off n cap ns e a1 a2 a3 a4
    simp only [execOp, ho, Sem.run_bind, e, run_bytes a1 a2 a3 a4, Result.andThen_ok, Sem.run_pure]
  have nil : ∀ (a : Option Addr) (cap : Nat), σ x = .slice a 0 cap → isU8 P src = true → isStr P dst = true → (execOp σ o).run P w = .ok (.value (.string ⟨([] : List UInt8).toArray⟩)) w := by
    intro a cap e a1 a2
    obtain ⟨el, b1, b2⟩ := isU8_of a1
    have : (Conv.bytesToString (.slice a 0 cap)).run P w = .ok (.string ⟨([] : List UInt8).toArray⟩) w := by
      cases a with
      | none =>
        simp [Conv.bytesToString, ByteArray.empty, ByteArray.emptyWithCapacity]
        rfl
      | some ad =>
        have h0 : (loadCells ad 0).run P w = .ok (([] : List Int).map (Value.int .u8)).toArray w := by simpa using run_loadCells w ad 0 (fun _ => undef) (fun j hj => absurd hj (by omega))
        rw [run_bytesToString w ad 0 cap [] h0]
        rfl
    simp only [execOp, ho, Sem.run_bind, e, run_convert_bytes_string w src dst el a 0 cap b1 b2 (isStr_of a2), this, Result.andThen_ok, Sem.run_pure]
  split at hr
  · rename_i t n sz cs e1
    rw [e1] at hx
    split at hr
    · rename_i bs hb
      cases hc : (isU8 P src && isStr P dst && Nat.beq sz 1) with
      | false => rw [hc] at hr; cases hr
      | true =>
        rw [hc] at hr
        simp only [cond_true, Option.some.injEq] at hr
        subst hr
        simp only [Bool.and_eq_true] at hc
        obtain ⟨⟨c1, c2⟩, c3⟩ := hc
        obtain rfl := Nat.eq_of_beq_eq_true c3
        obtain ⟨ns, rfl, rfl⟩ := bytesV_get hb
        rcases hx.sl_inv with ⟨h0, h3, a, cap, e⟩ | ⟨u, b, off, cap, e, hok, hn, hlen, hcell, ho1, hrel⟩
        · have : ns = [] := by simpa using h3
          subst this
          subst h0
          exact goes_val hs (nil a cap e c1 c2) (.i (.s rfl))
        · refine goes_val hs (run b off n cap ns e c1 c2 (by simpa using hlen) (fun i hi => ?_)) (.i (.s rfl))
          have := hrel i (by simpa using hi)
          rw [List.getElem_map] at this
          rw [hcell i (by simpa using hi)]
          have := (R.i this : R c (ln h) w _ _).s_inv.1
          rw [this]
    · cases hr
  · rename_i k off n sz tot e1
    obtain ⟨hm, hr⟩ := gd hr
    rw [e1] at hx
    cases hk : h k with
    | none => simp [hk] at hr
    | some cs =>
      simp only [hk] at hr
      split at hr
      · rename_i bs hb
        cases hc : (isU8 P src && isStr P dst && Nat.beq sz 1) with
        | false => rw [hc] at hr; cases hr
        | true =>
          rw [hc] at hr
          simp only [cond_true, Option.some.injEq] at hr
          subst hr
          simp only [Bool.and_eq_true] at hc
          obtain ⟨⟨c1, c2⟩, c3⟩ := hc
          obtain rfl := Nat.eq_of_beq_eq_true c3
          obtain ⟨o1, o2⟩ := hob
          obtain ⟨ns, e2, rfl⟩ := bytesV_get hb
          have hl : ns.length = n := by
            have := congrArg List.length e2
            rw [List.length_take, List.length_drop, List.length_map] at this
            omega
          rcases hx.rf_inv with ⟨e, z1, z2, z3, _⟩ | ⟨b, cap, l, e, hL, htl, hn, hφ⟩
          · subst z2
            have : ns = [] := List.eq_nil_of_length_eq_zero hl
            subst this
            exact goes_val hs (nil none 0 e c1 c2) (.i (.s rfl))
          · rw [ln_some hk] at hL
            injection hL with hL
            obtain ⟨u, hcell, ho1, hrel⟩ := own_cells hs hm hk (hφ (by omega)).1 off
            refine goes_val hs (run b off n cap ns e c1 c2 hl (fun i hi => ?_)) (.i (.s rfl))
            have hi2 : i < (cs.drop off).length := by rw [List.length_drop]; omega
            have h1 := hrel i hi2
            have h2 : (cs.drop off)[i] = .s (.int .u8 ns[i]) := by
              have h3 : ((cs.drop off).take n)[i]'(by rw [List.length_take]; omega) = .s (.int .u8 ns[i]) := by simp only [e2, List.getElem_map]
              rw [← h3, List.getElem_take]
            rw [h2] at h1
            rw [hcell i hi2, h1.s_inv.1]
      · cases hr
  · exact raw_sound hs hv hr
theorem field_sound {t : TypeId} {x : Operand} {f : Nat} {o : Oper} (ho : o.op = .field t x f) (hs : Sim c h w Ow) (hv : R c (ln h) w (ρ x) (σ x)) (hr : aop P ρ h key o = some r) (hob : AllP r.ob) : GoesAny P (execOp σ o) c h w Ow r := by
  simp only [aop, ho] at hr
  split at hr
  · rename_i fd cs hf e1
    have hu : ∃ fs : Array Field, P.underlying t = some (.struct fs) ∧ fs[f]? = some fd := by
      unfold fieldOf? at hf
      split at hf
      · rename_i fs hu; exact ⟨fs, hu, hf⟩
      · cases hf
    obtain ⟨fs, hu, hfs⟩ := hu
    cases hb : ((P.underlying fd.type).isSome && (isAg P fd.type || Nat.blt fd.offset cs.length)) with
    | false => rw [hb] at hr; cases hr
    | true =>
      rw [hb] at hr
      simp only [cond_true, Option.some.injEq] at hr
      subst hr
      rw [Bool.and_eq_true] at hb
      rw [e1] at hv
      obtain ⟨us, ex, hsz, h1, h2⟩ := hv.ag_inv
      have hob' : fd.offset + P.cellsOf fd.type ≤ cs.length := hob
      have hg : ∀ i, i < us.size → us[i]? = some (us.getD i undef) := fun i hi => by simp [Array.getD_eq_getD_getElem?, hi]
      cases ha : isAg P fd.type with
      | true =>
        refine goes_val hs (x := .agg (us.extract fd.offset (fd.offset + P.cellsOf fd.type))) ?_ ?_
        · simp [execOp, ho, Instr.field, run_underlying hu, hfs, ex, asAgg, part, run_agg hb.1, ha, run_size hb.1]
        · have hge : ∀ i, i < P.cellsOf fd.type → (us.extract fd.offset (fd.offset + P.cellsOf fd.type)).getD i undef = us.getD (fd.offset + i) undef := by
            intro i hi
            have hlt : i < min (fd.offset + P.cellsOf fd.type) us.size - fd.offset := by rw [Nat.min_eq_left (by omega)]; omega
            have hlt2 : fd.offset + i < us.size := by omega
            simp [Array.getD_eq_getD_getElem?, Array.getElem?_extract, hlt, hlt2]
          simp only [cond_true]
          refine .ag (by simp; omega) (fun i hi => ?_) (fun i hi => ?_)
          · have hi' : i < P.cellsOf fd.type := by simp at hi; omega
            rw [hge i hi']; exact h1 _ (by omega)
          · have hi' : i < P.cellsOf fd.type := by simp at hi; omega
            rw [hge i hi', List.getElem_take, List.getElem_drop]; exact h2 _ (by omega)
      | false =>
        rw [ha, Bool.false_or] at hb
        have hlt : fd.offset < cs.length := Nat.le_of_ble_eq_true hb.2
        have hlt' : fd.offset < us.size := by omega
        have hge : us.getD fd.offset undef = us[fd.offset] := by simp [Array.getD_eq_getD_getElem?, hlt']
        have hge' : us[fd.offset]? = some us[fd.offset] := by simp [hlt']
        refine goes_val hs (x := us[fd.offset]) ?_ ?_
        · simp only [execOp, ho, Instr.field, Sem.run_bind, run_underlying hu, hfs, ex, asAgg, part, run_agg hb.1, ha, hge', Result.andThen_ok, Sem.run_pure, Bool.false_eq_true, if_false]
        · have : (cs.drop fd.offset).headD .un = cs[fd.offset] := by
            rw [List.drop_eq_getElem_cons hlt]; rfl
          simp only [cond_false, this]
          rw [← hge]
          exact h2 _ hlt
  · cases hr
theorem eqInts_sound {L : Nat → Option Nat} {as bs : List V} {us vs : Array Value} (hu : us.size = as.length) (hv : vs.size = bs.length) (h1 : ∀ i (h : i < as.length), R c L w as[i] (us.getD i undef)) (h2 : ∀ i (h : i < bs.length), R c L w bs[i] (vs.getD i undef)) (d : Nat) : ∀ (fs : List Field) (r : Bool), eqInts P as bs fs = some r → (Op.eqFields (d + 1) us vs fs).run P w = .ok r w
  | [], r, h => by
    simp only [eqInts, Option.some.injEq] at h
    subst h
    simp [Op.eqFields]
  | f :: fs, r, h => by
    simp only [eqInts] at h
    split at h
    · rename_i k a b e1 e2 e3
      cases hn : (f.name == "_") with
      | true => rw [hn] at h; cases h
      | false =>
        rw [hn] at h
        simp only [cond_false] at h
        split at h
        · rename_i r' hr'
          simp only [Option.some.injEq] at h
          subst h
          have ih := eqInts_sound hu hv h1 h2 d fs r' hr'
          obtain ⟨l1, g1⟩ := List.getElem?_eq_some_iff.1 e2
          obtain ⟨l2, g2⟩ := List.getElem?_eq_some_iff.1 e3
          have q1 := h1 f.offset l1
          have q2 := h2 f.offset l2
          rw [g1] at q1
          rw [g2] at q2
          have v1 := q1.s_inv.1
          have v2 := q2.s_inv.1
          have m1 : us[f.offset]? = some (.int .i64 a) := by
            have : us.getD f.offset undef = us[f.offset] := by simp [Array.getD_eq_getD_getElem?, show f.offset < us.size by omega]
            rw [← v1, this]; simp [show f.offset < us.size by omega]
          have m2 : vs[f.offset]? = some (.int .i64 b) := by
            have : vs.getD f.offset undef = vs[f.offset] := by simp [Array.getD_eq_getD_getElem?, show f.offset < vs.size by omega]
            rw [← v2, this]; simp [show f.offset < vs.size by omega]
          have ha : isAg P f.type = false := by unfold isAg; rw [e1]
          have hs : (P.underlying f.type).isSome = true := by rw [e1]; rfl
          have p1 : (part f.type us f.offset).run P w = .ok (.int .i64 a) w := by
            simp only [part, Sem.run_bind, run_agg hs, ha, m1, Result.andThen_ok, Sem.run_pure, Bool.false_eq_true, if_false]
          have p2 : (part f.type vs f.offset).run P w = .ok (.int .i64 b) w := by
            simp only [part, Sem.run_bind, run_agg hs, ha, m2, Result.andThen_ok, Sem.run_pure, Bool.false_eq_true, if_false]
          have he := run_equalIn_int w d f.type .i64 k a b e1
          have hn' : f.name ≠ "_" := by simpa using hn
          rw [Op.eqFields]
          simp only [if_pos hn', Sem.run_bind, p1, p2, he, Result.andThen_ok]
          cases hab : (a == b) with
          | false => simp
          | true => simpa using ih
        · cases h
    · cases h
theorem eqSt_sound {L : Nat → Option Nat} {t : TypeId} {as bs : List V} {x y : Value} {r : Bool} (hx : R c L w (.ag as) x) (hy : R c L w (.ag bs) y) (h : eqSt P t as bs = some r) : (binOp .eql t x y).run P w = .ok (.bool r) w ∧ (binOp .neq t x y).run P w = .ok (.bool (!r)) w ∧ ∀ op o1 o2, (eqGuard op t o1 o2 x y).run P w = .ok () w := by
  unfold eqSt at h
  obtain ⟨us, rfl, hu, _, h1⟩ := hx.ag_inv
  obtain ⟨vs, rfl, hv, _, h2⟩ := hy.ag_inv
  split at h
  · rename_i fs hfs
    cases hb : (P.stoodInHeld t || P.eqGuardType P.depth t) with
    | true => rw [hb] at h; cases h
    | false =>
      rw [hb] at h
      simp only [cond_false] at h
      rw [Bool.or_eq_false_iff] at hb
      have hf : P.fieldsOf t = fs := by simp [Program.fieldsOf, hfs]
      have hE := eqInts_sound hu hv h1 h2 9998 fs.toList r h
      have hq : (Op.equalIn 10000 t (.agg us) (.agg vs)).run P w = .ok r w := by
        rw [run_equalIn_struct (P := P) w 9999 t us vs (by rw [hf]; exact hfs) hb.1, hf]
        exact hE
      exact ⟨by rw [run_eql_struct, hq]; rfl, by rw [run_neq_struct, hq]; rfl, fun op o1 o2 => run_eqGuard_agg w op t o1 o2 us vs hb.2⟩
  · cases h
theorem bin_sound {op : BinOp} {t t' : TypeId} {x y : Operand} {o : Oper} (ho : o.op = .binOp op t x y t') (hs : Sim c h w Ow) (hv : ∀ x, x ∈ o.op.operands → R c (ln h) w (ρ x) (σ x)) (hr : aop P ρ h key o = some r) (hob : AllP r.ob) : GoesAny P (execOp σ o) c h w Ow r := by
  have hx := hv x (by rw [ho]; simp [Op.operands])
  have hy := hv y (by rw [ho]; simp [Op.operands])
  simp only [aop, ho] at hr
  have fin : ∀ (v : Value), v.oneCell' = true → (binOp op t (σ x) (σ y)).run P w = .ok v w → (eqGuard op t x y (σ x) (σ y)).run P w = .ok () w → ∀ ob : List Prop, GoesAny P (execOp σ o) c h w Ow ⟨.s v, [], none, ob⟩ := by
    intro v h1 h2 h3 ob
    exact goes_val hs (x := v) (by simp [execOp, ho, h2, h3]) (.i (.s h1))
  have two : ∀ {a b : Value}, ρ x = .s a → ρ y = .s b → σ x = a ∧ σ y = b := by
    intro a b e1 e2
    rw [e1] at hx
    rw [e2] at hy
    exact ⟨hx.s_inv.1, hy.s_inv.1⟩
  split at hr
  · rename_i a b e1 e2
    obtain ⟨s1, s2⟩ := two e1 e2
    simp only [Option.some.injEq] at hr
    subst hr
    exact fin _ rfl (by simp [binOp, s1, s2, Op.intArith, i64w]) (by simp [eqGuard]) _
  · rename_i a b e1 e2
    obtain ⟨s1, s2⟩ := two e1 e2
    simp only [Option.some.injEq] at hr
    subst hr
    exact fin _ rfl (by simp [binOp, s1, s2, Op.intArith, i64w]) (by simp [eqGuard]) _
  · rename_i a b e1 e2
    obtain ⟨s1, s2⟩ := two e1 e2
    simp only [Option.some.injEq] at hr
    subst hr
    exact fin _ rfl (by simp [binOp, s1, s2, Op.intArith, i64w]) (by simp [eqGuard]) _
  · rename_i a b e1 e2
    obtain ⟨s1, s2⟩ := two e1 e2
    simp only [Option.some.injEq] at hr
    subst hr
    have hb : b ≠ 0 := hob
    exact fin _ rfl (by simp [binOp, s1, s2, Op.intDiv, i64w, hb]) (by simp [eqGuard]) _
  · rename_i a b e1 e2
    obtain ⟨s1, s2⟩ := two e1 e2
    simp only [Option.some.injEq] at hr
    subst hr
    have hb : b ≠ 0 := hob
    exact fin _ rfl (by simp [binOp, s1, s2, Op.intDiv, i64w, hb]) (by simp [eqGuard]) _
  · rename_i a b e1 e2
    obtain ⟨s1, s2⟩ := two e1 e2
    simp only [Option.some.injEq] at hr
    subst hr
    have hb : a.size + b.size ≤ 9223372036854775807 := hob
    have hc : ¬ ((a.size + b.size : Nat) : Int) > IntKind.i64.max := by
      have : IntKind.i64.max = 9223372036854775807 := by decide
      omega
    have hrun : (Op.stringOp .add a b).run P w = .ok (.string (a ++ b)) w := by
      unfold Op.stringOp
      simp only [if_neg hc]
      rfl
    refine fin _ rfl ?_ (by simp [eqGuard]) _
    rw [s1, s2]
    exact hrun
  · rename_i as bs e1 e2
    rw [e1] at hx
    rw [e2] at hy
    split at hr
    · rename_i b hb
      simp only [Option.some.injEq] at hr
      subst hr
      have q := eqSt_sound (P := P) hx hy hb
      exact fin _ rfl q.1 (q.2.2 _ _ _) _
    · cases hr
  · rename_i as bs e1 e2
    rw [e1] at hx
    rw [e2] at hy
    split at hr
    · rename_i b hb
      simp only [Option.some.injEq] at hr
      subst hr
      have q := eqSt_sound (P := P) hx hy hb
      exact fin _ rfl q.2.1 (q.2.2 _ _ _) _
    · cases hr
  · exact raw_sound hs hv hr
end
end Go.Proofs.Ytpjmefdpjlhkhaa.Eng

/- The engine, part 9: append. -/
namespace Go.Proofs.Ytpjmefdpjlhkhaa.Eng
open Go.RowKit
set_option linter.unusedVariables false
set_option linter.unusedSimpArgs false
section
variable {P : Program} {c : Cx} {h : Nat → Option (List V)} {w : World} {Ow : Nat → Nat → Prop} {key : Nat} {ρ : Operand → V} {σ : Operand → Value} {r : Res}
theorem cap_le (need cap : Nat) (h : cap < need) : Builtin.nextslicecap need cap ≤ 2 * need + 192 := by
  have grow : ∀ r cc, cc ≤ need + (need + 768) / 4 → Builtin.growBy need r cc ≤ need + (need + 768) / 4 := by
    intro r
    induction r with
    | zero => intro cc hc; exact hc
    | succ r ih =>
      intro cc hc
      unfold Builtin.growBy
      split
      · exact hc
      · exact ih _ (by omega)
  unfold Builtin.nextslicecap
  split
  · omega
  · split
    · omega
    · have := grow 4 cap (by omega); omega
/-- The second operand's cells, as the machine reads them. -/
theorem src_sound {sz : Nat} {v : V} {x : Value} {s : Src} (hs : Sim c h w Ow) (hsz : sz ≠ 0) (hx : R c (ln h) w v x) (hf : srcOf h sz v = some s) (hob : s.ob) :
    ∃ us : Array Value, us.size = s.cs.length ∧ s.cs.length = s.n * sz ∧ (Builtin.lenOf x).run P w = .ok s.n w ∧ (∀ W : World, W.heap = w.heap → (Builtin.firstCells sz s.n x).run P W = .ok us W) ∧ (∀ i, i < s.cs.length → (us.getD i undef).oneCell' = true) ∧ ∀ i (hi : i < s.cs.length), R c (ln h) w s.cs[i] (us.getD i undef) := by
  have cells : ∀ (b off m : Nat) (u : Nat → Value), (∀ i, i < m → w.cell? ⟨b, off + i, none⟩ = some (u i)) → ∀ W : World, W.heap = w.heap → (loadCells ⟨b, off, none⟩ m).run P W = .ok ((List.range m).map u).toArray W := by
    intro b off m u hu W hW
    exact run_cells b off m u (fun i hi => by rw [← hu i hi]; simp [World.cell?, hW])
  have get : ∀ (m : Nat) (u : Nat → Value) i, i < m → (((List.range m).map u).toArray).getD i undef = u i := fun m u i hi => by simp [Array.getD_eq_getD_getElem?, hi]
  unfold srcOf at hf
  split at hf
  · rename_i tg n z cs
    cases hb : Nat.beq z sz with
    | false => rw [hb] at hf; cases hf
    | true =>
      rw [hb] at hf
      simp only [cond_true, Option.some.injEq] at hf
      subst hf
      have := Nat.eq_of_beq_eq_true hb
      subst this
      rcases hx.sl_inv with ⟨h0, h1, a, cap, ex⟩ | ⟨u, b, off, cap, ex, hok, hn, hl, hc, ho, hr⟩
      · subst h0 h1 ex
        refine ⟨#[], rfl, by simp, rfl, fun W _ => ?_, fun i hi => absurd hi (by simp), fun i hi => absurd hi (by simp)⟩
        cases a with
        | none => rfl
        | some a => simp [Builtin.firstCells, loadCells, loadCellsFrom]
      · subst ex
        refine ⟨((List.range (n * z)).map u).toArray, by simp [hl], hl, rfl, fun W hW => cells b off (n * z) u (fun i hi => hc i (by omega)) W hW, fun i hi => ?_, fun i hi => ?_⟩
        · have hi' : i < n * z := by simpa [hl] using hi
          rw [get _ _ _ hi']; exact ho i hi
        · have hi' : i < n * z := by simpa [hl] using hi
          rw [get _ _ _ hi']; exact .i (hr i hi)
  · rename_i k off n z tot
    obtain ⟨hm, hf⟩ := gd hf
    cases hb : Nat.beq z sz with
    | false => rw [hb] at hf; cases hf
    | true =>
      rw [hb] at hf
      simp only [cond_true] at hf
      have := Nat.eq_of_beq_eq_true hb
      subst this
      cases hk : h k with
      | none => simp [hk] at hf
      | some cs =>
        simp only [hk, Option.some.injEq] at hf
        subst hf
        obtain ⟨o1, o2⟩ := hob
        rcases hx.rf_inv with ⟨ex, z1, z2, z3, _⟩ | ⟨b, cap, l, ex, hl, ht, hn, hφ⟩
        · subst ex z1 z2 z3
          exact ⟨#[], by simp, by simp, rfl, fun W _ => rfl, fun i hi => absurd hi (by simp), fun i hi => absurd hi (by simp)⟩
        rw [ln_some hk] at hl
        injection hl with hl
        subst ex
        obtain ⟨u, hc, ho, hr⟩ := own_cells hs hm hk (hφ (by omega)).1 off
        have hlen : ((cs.drop off).take (n * z)).length = n * z := by rw [List.length_take, List.length_drop]; omega
        refine ⟨((List.range (n * z)).map u).toArray, by simp [hlen], hlen, rfl, fun W hW => cells b off (n * z) u (fun i hi => hc i (by rw [List.length_drop]; omega)) W hW, fun i hi => ?_, fun i hi => ?_⟩
        · have hi' : i < n * z := by rw [hlen] at hi; exact hi
          rw [get _ _ _ hi']; exact ho i (by rw [List.length_drop]; omega)
        · have hi' : i < n * z := by rw [hlen] at hi; exact hi
          rw [get _ _ _ hi', List.getElem_take]; exact hr i (by rw [List.length_drop]; omega)
  · simp only [Option.some.injEq] at hf
    subst hf
    have ex := hx.s_inv.1
    subst ex
    exact ⟨#[], rfl, by simp, rfl, fun W _ => rfl, fun i hi => absurd hi (by simp), fun i hi => absurd hi (by simp)⟩
  · rename_i str
    cases hb : Nat.beq sz 1 with
    | false => rw [hb] at hf; cases hf
    | true =>
      rw [hb] at hf
      simp only [cond_true, Option.some.injEq] at hf
      subst hf
      have := Nat.eq_of_beq_eq_true hb
      subst this
      have ex := hx.s_inv.1
      subst ex
      have hlen : (str.data.toList.map fun b => V.s (.int .u8 b.toNat)).length = str.size := by simp
      refine ⟨str.data.map fun b => .int .u8 b.toNat, by simp, by rw [hlen]; exact (Nat.mul_one _).symm, rfl, fun W _ => ?_, fun i hi => ?_, fun i hi => ?_⟩
      · have : str.extract 0 str.size = str := by simp
        simp [Builtin.firstCells, this]
      · have hi' : i < str.data.size := by simpa using hi
        rw [Array.getD_eq_getD_getElem?, Array.getElem?_map, Array.getElem?_eq_getElem hi']; rfl
      · have hi' : i < str.data.size := by simpa using hi
        have hg : (str.data.map fun b => Value.int .u8 b.toNat).getD i undef = .int .u8 (str.data[i]'hi').toNat := by rw [Array.getD_eq_getD_getElem?, Array.getElem?_map, Array.getElem?_eq_getElem hi']; rfl
        rw [hg]
        simp only [List.getElem_map, Array.getElem_toList]
        exact .i (.s rfl)
  · cases hf
set_option maxHeartbeats 2000000 in
theorem app_sound {e t t' : TypeId} {rest : List TypeId} {ts : Array TypeId} {ty : TypeId} {a x : V} {av xv : Value} {s : Src} (hs : Sim c h w Ow) (ht : ts.toList = t :: t' :: rest) (hu : P.underlying t = some (.slice e)) (hni : ∀ k, P.underlying t' ≠ some (.int k)) (hu' : (P.underlying t').isSome = true) (hz : (zeros P e).isSome = true) (hsz : P.cellsOf e ≠ 0)
    (ha : R c (ln h) w a av) (hx : R c (ln h) w x xv) (hf : srcOf h (P.cellsOf e) x = some s) (hr : app P h key e a s = some r) (hob : AllP r.ob) :
    ∃ v w' c', (Builtin.append_ ts ty #[av, xv]).run P w = .ok v w' ∧ R c' (ln (upd h r.post)) w' r.v v ∧ Ext c (ln h) w c' (ln (upd h r.post)) w' ∧ Sim c' (upd h r.post) w' Ow ∧ Keep Ow w w' ∧ c'.ok = c.ok := by
  obtain ⟨z, hz⟩ := Option.isSome_iff_exists.1 hz
  obtain ⟨i, zv, i1, i2, i3, i4, i5⟩ := cl_zeros (c := c) (w := w) hz
  obtain ⟨d, hd⟩ := Option.isSome_iff_exists.1 hu'
  have hnd : ∀ k, d ≠ .int k := fun k e => hni k (by rw [hd, e])
  have t0 : ts[0]? = some t := by rw [← Array.getElem?_toList, ht]; rfl
  have t1 : ts[1]? = some t' := by rw [← Array.getElem?_toList, ht]; rfl
  have hzr : ∀ W : World, (zeroValue e).run P W = .ok zv W := fun W => by simp [zeroValue, run_info i1, i2]
  have hbs : P.bytesOf e = i.bytes := by simp [Program.bytesOf, i1]
  unfold app at hr
  cases hb : (Nat.ble 1 (P.bytesOf e) && Nat.ble (P.bytesOf e) 1048576) with
  | false => rw [hb] at hr; cases hr
  | true =>
    rw [hb] at hr
    simp only [cond_true] at hr
    rw [Bool.and_eq_true] at hb
    have b1 := Nat.le_of_ble_eq_true hb.1
    have b2 := Nat.le_of_ble_eq_true hb.2
    -- the run, by the two ways
    have way1 : ∀ (A : Option Addr) (m cap : Nat) (us : Array Value) (w1 : World), av = .slice A m cap → m + s.n ≤ cap → (Builtin.lenOf xv).run P w = .ok s.n w → (Builtin.firstCells (P.cellsOf e) s.n xv).run P w = .ok us w →
        ((match A with | some a => storeCells (a.add (m * P.cellsOf e)) us.toList | none => pure ()) : Sem Unit).run P w = .ok () w1 → (Builtin.append_ ts ty #[av, xv]).run P w = .ok (.slice A (m + s.n) cap) w1 := by
      intro A m cap us w1 e1 h1 h2 h3 h4
      subst e1
      unfold Builtin.append_
      cases d with
      | int k => exact absurd rfl (hnd k)
      | _ =>
       simp only [t0, t1, List.getElem?_toArray, List.getElem?_cons_zero, List.getElem?_cons_succ, Sem.run_bind, Sem.run_pure, run_underlying hu, run_underlying hd, Result.andThen_ok, run_size' i1, Bool.false_eq_true, if_false, h2, Bool.not_false, if_true, if_pos h1, h3]
       cases A with
       | none =>
        simp only [Sem.run_pure, Result.ok.injEq, true_and] at h4
        subst h4
        rfl
       | some ad =>
        simp only at h4 ⊢
        simp only [Sem.run_bind, h4, Result.andThen_ok]
        rfl
    have way2 : ∀ (A : Option Addr) (m cap : Nat) (us old : Array Value), av = .slice A m cap → ¬ m + s.n ≤ cap → (m + s.n) * P.bytesOf e ≤ 70368744177664 → (Builtin.lenOf xv).run P w = .ok s.n w → (∀ W : World, W.heap = w.heap → (Builtin.firstCells (P.cellsOf e) s.n xv).run P W = .ok us W) →
        (∀ W : World, W.heap = w.heap → (Builtin.firstCells (P.cellsOf e) m av).run P W = .ok old W) → ∃ nc, m + s.n ≤ nc ∧ (Builtin.append_ ts ty #[av, xv]).run P w = .ok (.slice (some ⟨w.heap.size, 0, none⟩) (m + s.n) nc) (w.drew.alloc (.cells (old ++ us ++ Builtin.zeroCells zv.cells (nc - (m + s.n))) e)) := by
      intro A m cap us old e1 h1 hbd h2 h3 h4
      subst e1
      have hneed : m + s.n ≤ 70368744177664 := Nat.le_trans (Nat.le_mul_of_pos_right _ b1) hbd
      have hcap := cap_le (m + s.n) cap (by omega)
      have hover : ¬ Builtin.nextslicecap (m + s.n) cap * i.bytes > 2 ^ 48 := by
        rw [← hbs]
        have e1 : Builtin.nextslicecap (m + s.n) cap * P.bytesOf e ≤ (2 * (m + s.n) + 192) * P.bytesOf e := Nat.mul_le_mul_right _ hcap
        have e2 : (2 * (m + s.n) + 192) * P.bytesOf e = 2 * ((m + s.n) * P.bytesOf e) + 192 * P.bytesOf e := by rw [Nat.add_mul, Nat.mul_assoc]
        omega
      have hmax : ¬ (((m + s.n : Nat) : Int) > IntKind.i64.max ∧ (False ∨ i.bytes = 0)) := by
        have : IntKind.i64.max = 9223372036854775807 := by decide
        omega
      refine ⟨(Question.appendCap (m + s.n) cap e).cut (w.tape w.drawn (.appendCap (m + s.n) cap e)), by simp [Question.cut], ?_⟩
      unfold Builtin.append_
      cases d with
      | int k => exact absurd rfl (hnd k)
      | _ =>
       simp only [t0, t1, List.getElem?_toArray, List.getElem?_cons_zero, List.getElem?_cons_succ, Sem.run_bind, Sem.run_pure, run_underlying hu, run_underlying hd, Result.andThen_ok, run_size' i1, Bool.false_eq_true, if_false, h2, Bool.not_false, if_true, if_neg h1, run_info i1, if_neg hmax, if_neg hover, run_choose, Question.forced, run_askRoom, World.drew_eq, h4 w.drew rfl, h3 w.drew rfl, hzr, newRow, run_newObj]
       rfl
    split at hr
    · rename_i k m z' tot
      obtain ⟨hm, hr⟩ := gd hr
      cases hbz : Nat.beq z' (P.cellsOf e) with
      | false => rw [hbz] at hr; cases hr
      | true =>
        rw [hbz] at hr
        simp only [cond_true] at hr
        have ez := Nat.eq_of_beq_eq_true hbz
        subst ez
        cases hk : h k with
        | none => simp [hk] at hr
        | some cs =>
          simp only [hk] at hr
          cases hon : (owk k && !noOn s.cs) with
          | true => rw [hon] at hr; cases hr
          | false =>
          rw [hon] at hr
          simp only [cond_false, Option.some.injEq] at hr
          have hon : owk k = true → noOn s.cs = true := by
            intro g
            rw [g] at hon
            simpa using hon
          subst hr
          obtain ⟨o0, o1, o2, o3⟩ := hob
          obtain ⟨us, u1, u2, u3, u4, u5, u6⟩ := src_sound hs hsz hx hf o0
          rcases ha.rf_inv with ⟨ex, z1, z2, z3, lN, hlN⟩ | ⟨b, cap, l, ex, hl, htl, hn, hφ⟩
          · subst z2 z3
            have hcs : cs = [] := List.eq_nil_of_length_eq_zero o1.symm
            subst hcs
            by_cases hn0 : s.n = 0
            · have hsc : s.cs = [] := List.eq_nil_of_length_eq_zero (by rw [u2, hn0, Nat.zero_mul])
              have hrun := way1 none 0 0 us w ex (by omega) u3 (u4 w rfl) (by
                have : us.size = 0 := by rw [u1, u2, hn0, Nat.zero_mul]
                have : us = #[] := Array.eq_empty_of_size_eq_zero this
                subst this; rfl)
              rw [hn0] at hrun
              have hup : upd h (some (k, [] ++ s.cs)) = h := by
                funext j
                by_cases e : k = j
                · subst e; simp [upd, hk, hsc]
                · simp [upd, e]
              refine ⟨_, w, c, hrun, ?_, ?_, ?_, Keep.refl _ _, rfl⟩
              · show R c (ln (upd h (some (k, [] ++ s.cs)))) w (.rf k 0 (0 + s.n) (P.cellsOf e) (0 + s.n * P.cellsOf e)) _
                rw [hup, hn0, Nat.zero_mul]; exact .rf0 hlN
              · show Ext c (ln h) w c (ln (upd h (some (k, [] ++ s.cs)))) w
                rw [hup]; exact Ext.refl _ _ _
              · show Sim c (upd h (some (k, [] ++ s.cs))) w Ow
                rw [hup]; exact hs
            · have hpos : 0 < s.n := Nat.pos_of_ne_zero hn0
              obtain ⟨nc, n1, n2⟩ := way2 none 0 0 us #[] ex (by omega) (by simpa using o3) u3 u4 (fun W _ => by rw [ex]; rfl)
              simp only [Nat.zero_add] at n1 n2
              have hnpos : 0 < s.n * P.cellsOf e := Nat.mul_pos hpos (by omega)
              have hzc : (Builtin.zeroCells zv.cells (nc - s.n)).size = (nc - s.n) * P.cellsOf e := by
                unfold Builtin.zeroCells
                rw [Array.size_map, Array.size_range, i4, cells_info i1]
              have harr : ∀ i, i < s.cs.length → ((#[] : Array Value) ++ us ++ Builtin.zeroCells zv.cells (nc - s.n)).getD i undef = us.getD i undef := by
                intro i hi
                rw [Array.getD_eq_getD_getElem?, Array.getElem?_append_left (by simp; omega), Array.getElem?_append_right (by simp), Array.getD_eq_getD_getElem?]
                rfl
              obtain ⟨g1, g2⟩ := hs.set (k := k) (bn := w.heap.size) (cs' := s.cs) (w' := w.drew.alloc (.cells (#[] ++ us ++ Builtin.zeroCells zv.cells (nc - s.n)) e)) (arr := #[] ++ us ++ Builtin.zeroCells zv.cells (nc - s.n)) (ty := e)
                (fun cs0 h0 => by rw [hk] at h0; injection h0 with h0; subst h0; exact ⟨by simp, fun e0 => by rw [u2] at e0; simp at e0; omega⟩)
                (.inl (Nat.le_refl _)) (fun j _ hj => Below.heap_alloc w.drew _ j hj) (by simp) (.inl ⟨hm, by show (w.heap.push _)[w.heap.size]? = _; simp⟩)
                (by rw [Array.size_append, Array.size_append]; simp; omega)
                (fun i hi => by rw [harr i hi]; exact u5 i hi) (fun i hi => by rw [harr i hi]; exact u6 i hi)
                (fun g i n sz ds hi => absurd (List.mem_of_getElem? hi) (noOn_mem (hon g) _ _ _))
              refine ⟨_, _, _, n2, ?_, g1, g2, ⟨rfl, rfl, rfl, by simp, fun j hj => Below.heap_alloc w.drew _ j (by
                    rcases Nat.lt_or_ge j w.heap.size with hlt | hge
                    · exact hlt
                    · exact absurd (hs.fresh 0 j hge) (hj 0))⟩, rfl⟩
              show R _ _ _ (.rf k 0 (0 + s.n) (P.cellsOf e) (0 + s.n * P.cellsOf e)) _
              rw [Nat.zero_add, Nat.zero_add]
              refine .rf (l := s.cs.length) (by simp [ln, upd]) (by omega) n1 (fun _ => ⟨by simp [Cx.set], ?_⟩)
              simp only [Cx.set, if_true, Array.size_append, hzc]
              have e3 : (nc - s.n) * P.cellsOf e = nc * P.cellsOf e - s.n * P.cellsOf e := Nat.sub_mul _ _ _
              have e4 : s.n * P.cellsOf e ≤ nc * P.cellsOf e := Nat.mul_le_mul_right _ n1
              simp
              omega
          rw [ln_some hk] at hl
          injection hl with hl
          obtain ⟨hφb, hφc⟩ := hφ (by omega)
          obtain ⟨b', arr, ty', hO⟩ := (hs.obj k cs hk).resolve_left (fun e => by rw [e.2] at hφb; cases hφb)
          obtain rfl : b' = b := by have := hO.at_; rw [hφb] at this; exact (Option.some.inj this).symm
          have hph := hO.ph
          have hlen := hO.len
          have hmul : (m + s.n) * P.cellsOf e = m * P.cellsOf e + s.n * P.cellsOf e := Nat.add_mul _ _ _
          have hus : us.toList.length = s.n * P.cellsOf e := by rw [Array.length_toList, u1, u2]
          by_cases hcap : m + s.n ≤ cap
          · have hle : (m + s.n) * P.cellsOf e ≤ cap * P.cellsOf e := Nat.mul_le_mul_right _ hcap
            have hone : ∀ u ∈ us.toList, u.oneCell' = true := by
              intro u hu
              obtain ⟨i, hi, rfl⟩ := List.getElem_of_mem hu
              have := u5 i (by rw [← u1]; simpa using hi)
              have hi' : i < us.size := by simpa using hi
              rw [Array.getD_eq_getD_getElem?, Array.getElem?_eq_getElem hi'] at this
              simpa using this
            obtain ⟨w', r1, r2, r3, r4, r5, r6, r7⟩ := run_stores (P := P) (b := b') (off := 0 + m * P.cellsOf e) us.toList 0 arr w (hO.blk.cells hm) (by omega) hone
            have hg : ∀ i, us.toList.getD i undef = us.getD i undef := fun i => by simp [List.getD_eq_getElem?_getD, Array.getD_eq_getD_getElem?]
            have hst : ∀ i, (sta arr (m * P.cellsOf e) us.toList).getD i undef = if m * P.cellsOf e ≤ i ∧ i < m * P.cellsOf e + us.toList.length then us.getD (i - m * P.cellsOf e) undef else arr.getD i undef := by
              intro i
              rw [sta_get _ _ _ _ (by omega)]
              simp only [hg]
            obtain ⟨g1, g2⟩ := hs.set (k := k) (bn := b') (cs' := cs ++ s.cs) (w' := w') (arr := sta arr (m * P.cellsOf e) us.toList) (ty := ty')
              (fun cs0 h0 => by rw [hk] at h0; injection h0 with h0; subst h0; exact ⟨by simp, fun _ => ⟨hφb, by rw [sta_size]; exact hph.symm⟩⟩)
              (.inr ⟨cs, hk, hφb⟩) (fun j hj _ => r3 j hj) (by omega) (.inl ⟨hm, by simpa using r2⟩) (by rw [List.length_append, sta_size]; omega)
              (fun i hi => by
                rw [List.length_append] at hi
                rw [hst i]
                split
                · exact u5 _ (by omega)
                · exact hO.one _ (by omega))
              (fun i hi => by
                have hi' := hi
                rw [List.length_append] at hi'
                rw [hst i]
                split
                · rw [List.getElem_append_right (by omega)]
                  have e1 : i - cs.length = i - m * P.cellsOf e := by omega
                  have := u6 (i - cs.length) (by omega)
                  rw [← e1]; exact this
                · rw [List.getElem_append_left (by omega)]; exact hO.rel _ (by omega))
              (fun g i n sz ds hi => by
                by_cases q : i < cs.length
                · rw [List.getElem?_append_left q] at hi
                  exact ⟨cs, b', arr, ty', hk, hi, hφb, hO.blk.cells hm, by rw [hst i, if_neg (by omega)]⟩
                · rw [List.getElem?_append_right (by omega)] at hi
                  exact absurd (List.mem_of_getElem? hi) (noOn_mem (hon g) _ _ _))
            refine ⟨_, w', _, way1 _ m cap us w' ex hcap u3 (u4 w rfl) (by simp only [add_at]; exact r1), ?_, g1, g2, ⟨r5, r6, r7, by omega, fun j hj => r3 j (fun ej => hj k (ej ▸ (hs.own k cs b' hk hφb).1))⟩, rfl⟩
            · refine .rf (l := (cs ++ s.cs).length) (by simp [ln, upd]) (by rw [List.length_append]; omega) hcap (fun _ => ⟨by simp [Cx.set], ?_⟩)
              simp only [Cx.set, if_true, sta_size]
              omega
          · obtain ⟨uo, c1, c2, c3⟩ := own_cells hs hm hk hφb 0
            have hold : ∀ W : World, W.heap = w.heap → (Builtin.firstCells (P.cellsOf e) m av).run P W = .ok ((List.range (m * P.cellsOf e)).map uo).toArray W := by
              intro W hW
              rw [ex]
              simp only [Builtin.firstCells]
              exact run_cells b' 0 (m * P.cellsOf e) uo (fun i hi => by rw [← c1 i (by rw [List.drop_zero]; omega)]; simp [World.cell?, hW])
            obtain ⟨nc, n1, n2⟩ := way2 _ m cap us _ ex hcap o3 u3 u4 hold
            have hnpos : 0 < s.n * P.cellsOf e := Nat.mul_pos (by omega) (by omega)
            have hsz0 : (((List.range (m * P.cellsOf e)).map uo).toArray).size = cs.length := by simp; omega
            have hzc : (Builtin.zeroCells zv.cells (nc - (m + s.n))).size = (nc - (m + s.n)) * P.cellsOf e := by
              unfold Builtin.zeroCells
              rw [Array.size_map, Array.size_range, i4, cells_info i1]
            have harr : ∀ i, i < cs.length + s.cs.length → (((List.range (m * P.cellsOf e)).map uo).toArray ++ us ++ Builtin.zeroCells zv.cells (nc - (m + s.n))).getD i undef = if i < cs.length then uo i else us.getD (i - cs.length) undef := by
              intro i hi
              have hi2 : i < (((List.range (m * P.cellsOf e)).map uo).toArray ++ us).size := by rw [Array.size_append, hsz0]; omega
              rw [Array.getD_eq_getD_getElem?, Array.getElem?_append_left hi2]
              split
              · rw [Array.getElem?_append_left (by rw [hsz0]; omega)]
                have : i < m * P.cellsOf e := by omega
                simp [this]
              · rw [Array.getElem?_append_right (by rw [hsz0]; omega), hsz0, Array.getD_eq_getD_getElem?]
            obtain ⟨g1, g2⟩ := hs.set (k := k) (bn := w.heap.size) (cs' := cs ++ s.cs) (w' := w.drew.alloc (.cells (((List.range (m * P.cellsOf e)).map uo).toArray ++ us ++ Builtin.zeroCells zv.cells (nc - (m + s.n))) e)) (arr := ((List.range (m * P.cellsOf e)).map uo).toArray ++ us ++ Builtin.zeroCells zv.cells (nc - (m + s.n))) (ty := e)
              (fun cs0 h0 => by rw [hk] at h0; injection h0 with h0; subst h0; exact ⟨by simp, fun e0 => by rw [List.length_append] at e0; omega⟩)
              (.inl (Nat.le_refl _)) (fun j _ hj => Below.heap_alloc w.drew _ j hj) (by simp) (.inl ⟨hm, by show (w.heap.push _)[w.heap.size]? = _; simp⟩)
              (by rw [List.length_append, Array.size_append, Array.size_append, hsz0]; omega)
              (fun i hi => by
                rw [List.length_append] at hi
                rw [harr i hi]
                split
                · exact c2 i (by simpa)
                · exact u5 _ (by omega))
              (fun i hi => by
                have hi' := hi
                rw [List.length_append] at hi'
                rw [harr i hi']
                split
                · rw [List.getElem_append_left (by omega)]; exact c3 i (by simpa)
                · rw [List.getElem_append_right (by omega)]; exact u6 _ (by omega))
              (fun g i n sz ds hi => by
                by_cases q : i < cs.length
                · rw [List.getElem?_append_left q] at hi
                  refine ⟨cs, b', arr, ty', hk, hi, hφb, hO.blk.cells hm, ?_⟩
                  rw [harr i (by omega), if_pos q]
                  have e0 := c1 i (by rw [List.drop_zero]; exact q)
                  have hia : i < arr.size := by have := hO.len; omega
                  unfold World.cell? at e0
                  rw [show (⟨b', 0 + i, none⟩ : Addr).block = b' from rfl, hO.blk.cells hm] at e0
                  simp [hia] at e0
                  rw [Array.getD_eq_getD_getElem?, Array.getElem?_eq_getElem hia]
                  exact e0.symm
                · rw [List.getElem?_append_right (by omega)] at hi
                  exact absurd (List.mem_of_getElem? hi) (noOn_mem (hon g) _ _ _))
            refine ⟨_, _, _, n2, ?_, g1, g2, ⟨rfl, rfl, rfl, by simp, fun j hj => Below.heap_alloc w.drew _ j (by
                rcases Nat.lt_or_ge j w.heap.size with hlt | hge
                · exact hlt
                · exact absurd (hs.fresh 0 j hge) (hj 0))⟩, rfl⟩
            refine .rf (l := (cs ++ s.cs).length) (by simp [ln, upd]) (by rw [List.length_append]; omega) n1 (fun _ => ⟨by simp [Cx.set], ?_⟩)
            simp only [Cx.set, if_true, Array.size_append, hsz0, hzc]
            have e3 : (nc - (m + s.n)) * P.cellsOf e = nc * P.cellsOf e - (m + s.n) * P.cellsOf e := Nat.sub_mul _ _ _
            have e4 : (m + s.n) * P.cellsOf e ≤ nc * P.cellsOf e := Nat.mul_le_mul_right _ n1
            omega
    · have ex := ha.s_inv.1
      · cases hk : h key with
        | some q => simp [hk] at hr
        | none =>
          simp only [hk] at hr
          cases hon : (owk key || mpk key) with
          | true => rw [hon] at hr; cases hr
          | false =>
          rw [hon] at hr
          simp only [cond_false, Option.some.injEq] at hr
          subst hr
          rw [Bool.or_eq_false_iff] at hon
          obtain ⟨hon, hm⟩ := hon
          obtain ⟨o0, o2⟩ := hob
          obtain ⟨us, u1, u2, u3, u4, u5, u6⟩ := src_sound hs hsz hx hf o0
          by_cases hn0 : s.n = 0
          · have hsc : s.cs = [] := List.eq_nil_of_length_eq_zero (by rw [u2, hn0, Nat.zero_mul])
            have hrun := way1 none 0 0 us w ex (by omega) u3 (u4 w rfl) rfl
            rw [hn0] at hrun
            obtain ⟨c2, g1, g2, g3⟩ := hs.nl hk
            refine ⟨_, w, c2, hrun, ?_, ?_, ?_, Keep.refl _ _, g3⟩
            · show R c2 (ln (upd h (some (key, s.cs)))) w (.rf key 0 s.n (P.cellsOf e) (s.n * P.cellsOf e)) _
              rw [hsc, hn0, Nat.zero_mul]
              exact .rf0 (l := 0) (by simp [ln, upd])
            · show Ext c (ln h) w c2 (ln (upd h (some (key, s.cs)))) w
              rw [hsc]; exact g1
            · show Sim c2 (upd h (some (key, s.cs))) w Ow
              rw [hsc]; exact g2
          have o1 : 0 < s.n := Nat.pos_of_ne_zero hn0
          obtain ⟨nc, n1, n2⟩ := way2 none 0 0 us #[] ex (by omega) (by simpa using o2) u3 u4 (fun W _ => by rw [ex]; rfl)
          simp only [Nat.zero_add] at n1 n2
          have hzc : (Builtin.zeroCells zv.cells (nc - s.n)).size = (nc - s.n) * P.cellsOf e := by
            unfold Builtin.zeroCells
            rw [Array.size_map, Array.size_range, i4, cells_info i1]
          have harr : ∀ i, i < s.cs.length → ((#[] : Array Value) ++ us ++ Builtin.zeroCells zv.cells (nc - s.n)).getD i undef = us.getD i undef := by
            intro i hi
            rw [Array.getD_eq_getD_getElem?, Array.getElem?_append_left (by simp; omega), Array.getElem?_append_right (by simp), Array.getD_eq_getD_getElem?]
            rfl
          obtain ⟨g1, g2⟩ := hs.set (k := key) (bn := w.heap.size) (cs' := s.cs) (w' := w.drew.alloc (.cells (#[] ++ us ++ Builtin.zeroCells zv.cells (nc - s.n)) e)) (arr := #[] ++ us ++ Builtin.zeroCells zv.cells (nc - s.n)) (ty := e)
            (fun cs0 h0 => by rw [hk] at h0; cases h0)
            (.inl (Nat.le_refl _)) (fun j _ hj => Below.heap_alloc w.drew _ j hj) (by simp) (.inl ⟨hm, by show (w.heap.push _)[w.heap.size]? = _; simp⟩)
            (by rw [Array.size_append, Array.size_append]; simp; omega)
            (fun i hi => by rw [harr i hi]; exact u5 i hi) (fun i hi => by rw [harr i hi]; exact u6 i hi)
            (fun g => by rw [hon] at g; cases g)
          refine ⟨_, _, _, n2, ?_, g1, g2, ⟨rfl, rfl, rfl, by simp, fun j hj => Below.heap_alloc w.drew _ j (by
                rcases Nat.lt_or_ge j w.heap.size with hlt | hge
                · exact hlt
                · exact absurd (hs.fresh 0 j hge) (hj 0))⟩, rfl⟩
          refine .rf (l := s.cs.length) (by simp [ln, upd]) (by omega) n1 (fun _ => ⟨by simp [Cx.set], ?_⟩)
          simp only [Cx.set, if_true, Array.size_append, hzc]
          have e3 : (nc - s.n) * P.cellsOf e = nc * P.cellsOf e - s.n * P.cellsOf e := Nat.sub_mul _ _ _
          have e4 : s.n * P.cellsOf e ≤ nc * P.cellsOf e := Nat.mul_le_mul_right _ n1
          simp
          omega
    · cases hr
end
end Go.Proofs.Ytpjmefdpjlhkhaa.Eng

/- The engine, part 9b: maps whose keys are arrays of numbers: made, looked up, set (to true). -/
namespace Go.Proofs.Ytpjmefdpjlhkhaa.Eng
open Go.RowKit
set_option linter.unusedVariables false
set_option linter.unusedSimpArgs false
def keyVal (ns : List Int) : Value := .agg (ns.map (Value.int .i64)).toArray
theorem keyVal_inj {a b : List Int} (h : keyVal a = keyVal b) : a = b := by
  unfold keyVal at h
  injection h with h
  have h2 : a.map (Value.int .i64) = b.map (Value.int .i64) := by simpa using congrArg Array.toList h
  exact List.map_inj_right (f := Value.int .i64) (fun x y e => by injection e) |>.1 h2
theorem mapM_some {α β : Type} {f : α → Option β} {g : α → β} : ∀ (l : List α), (∀ x, x ∈ l → f x = some (g x)) → l.mapM f = some (l.map g)
  | [], _ => rfl
  | x :: r, h => by
    rw [List.mapM_cons, h x (by simp), mapM_some r (fun y hy => h y (List.mem_cons_of_mem _ hy))]
    rfl
structure MapT (P : Program) (t k e v : TypeId) (m : Nat) : Prop where
  ht : P.underlying t = some (.map k v)
  arr : Go.WideMaps.ArrKey P k e m
  he : P.underlying e = some (.int .i64)
  hz : ∀ w : World, (zeroValue v).run P w = .ok (.bool false) w
  sz : ∃ n, P.types.size = n + 2
theorem mapArr_spec {P : Program} {t : TypeId} {q : TypeId × TypeId × TypeId × Nat} (h : mapArr P t = some q) : MapT P t q.1 q.2.1 q.2.2.1 q.2.2.2 := by
  unfold mapArr at h
  split at h
  · rename_i k v h1
    split at h
    · rename_i m e h2 h3
      split at h
      · rename_i i h4 h5
        split at h
        · rename_i h6
          cases hb : (Nat.beq (P.cellsOf e) 1 && Nat.beq (P.cellsOf k) m && Nat.ble 2 P.types.size) with
          | false => rw [hb] at h; cases h
          | true =>
            rw [hb] at h
            simp only [cond_true, Option.some.injEq] at h
            subst h
            rw [Bool.and_eq_true, Bool.and_eq_true] at hb
            obtain ⟨⟨b1, b2⟩, b3⟩ := hb
            have c1 := Nat.eq_of_beq_eq_true b1
            have c2 := Nat.eq_of_beq_eq_true b2
            refine ⟨h1, ⟨h2, ?_, c1, c2⟩, h4, fun w => ?_, ?_⟩
            · unfold Program.plainKey
              rw [h4]
            · simp [zeroValue, run_info h5, h6]
            · have := Nat.le_of_ble_eq_true b3
              exact ⟨P.types.size - 2, by omega⟩
        · cases h
      · cases h
    · cases h
  · cases h
theorem key_of {P : Program} {t k e v : TypeId} {m : Nat} (M : MapT P t k e v m) {ns : List Int} (hl : ns.length = m) (hw : ∀ n, n ∈ ns → (Lit.int .i64 n).wf = true) : ∃ l, keyOf P k (keyVal ns) = some l := by
  obtain ⟨d, hd⟩ := M.sz
  have hkt := M.arr.keyType ⟨d + 1, hd⟩
  have hcell : (List.range m).mapM (fun i => P.keyLits (d + 2) e (((ns.map (Value.int .i64)).drop (i * P.cellsOf e)).take (P.cellsOf e))) = some ((List.range m).map fun i => [Lit.int .i64 (ns.getD i 0)]) := by
    refine mapM_some _ (fun i hi => ?_)
    have hi' : i < ns.length := by rw [hl]; exact List.mem_range.1 hi
    rw [M.arr.one, Nat.mul_one, List.drop_eq_getElem_cons (by simpa using hi')]
    simp only [List.take_succ_cons, List.take_zero, List.getElem_map]
    unfold Program.keyLits
    simp only [M.he]
    rw [if_pos ⟨trivial, hw _ (List.getElem_mem hi')⟩, List.getD_eq_getElem?_getD, List.getElem?_eq_getElem hi']
    rfl
  unfold keyOf
  simp only [M.arr.hu]
  rw [if_pos (by simp [hkt, Value.formed, keyVal, M.arr.hu, M.arr.size, hl]), hd]
  unfold Program.keyLits
  simp only [M.arr.hu, keyVal, Value.cells]
  rw [if_pos (by rw [M.arr.size]; simpa using hl), hcell]
  exact ⟨_, rfl⟩
section
variable {P : Program} {c : Cx} {h : Nat → Option (List V)} {w : World} {Ow : Nat → Nat → Prop} {key : Nat} {ρ : Operand → V} {σ : Operand → Value} {r : Res}
theorem key_val {L : Nat → Option Nat} {ns : List Int} {x : Value} (hx : R c L w (.ag (ns.map fun n => .s (.int .i64 n))) x) : x = keyVal ns := by
  obtain ⟨us, rfl, hs, ho, hr⟩ := hx.ag_inv
  unfold keyVal
  congr 1
  apply Array.ext
  · simpa using hs
  · intro i h1 h2
    have h3 : i < ns.length := by simpa using h2
    have h4 := hr i (by simpa using h3)
    rw [List.getElem_map] at h4
    have h5 := h4.s_inv.1
    rw [Array.getD_eq_getD_getElem?, Array.getElem?_eq_getElem h1] at h5
    simpa using h5
theorem intsV_map : ∀ ns : List Int, intsV (ns.map fun n => V.s (.int .i64 n)) = some ns
  | [] => rfl
  | n :: r => by
    simp only [List.map_cons, intsV, intsV_map r]
theorem sameK_key (a b : List Int) : sameK (a.map fun n => .s (.int .i64 n)) (.ag (b.map fun n => .s (.int .i64 n))) = decide (a = b) := by
  simp only [sameK, intsV_map]
/-- What a map's row tells of the map. -/
theorem map_row {q : Nat} {f : Fn} {fi ks : List V} {x : Value} {m : Nat} (hs : Sim c h w Ow) (hm : mpk q = true) (hk : h q = some [.fn f fi ks]) (hx : R c (ln h) w (.pt q 0 1) x) (hK : ∀ v, v ∈ ks → KeyP m v) :
    ∃ b es clock, x = .map (some b) ∧ c.φ q = some b ∧ c.ph q = 1 ∧ w.heap[b]? = some (.map es clock) ∧ (∀ e, e ∈ es.toList → e.val = .bool true) ∧ f = .func 0 ∧ fi = [] ∧ ks.length = es.size ∧
      (∀ i (h1 : i < ks.length) (h2 : i < es.size), R c (ln h) w ks[i] es[i].key ∧ ∃ ns : List Int, ks[i] = .ag (ns.map fun n => .s (.int .i64 n)) ∧ ns.length = m ∧ (∀ n, n ∈ ns → (Lit.int .i64 n).wf = true) ∧ es[i].key = keyVal ns) := by
  obtain ⟨b, l, e1, hl, ht, hφ⟩ := hx.pt_inv
  rw [ln_some hk] at hl
  injection hl with hl
  have hb := hφ (by simpa using hl)
  obtain ⟨b', arr, ty, hO⟩ := (hs.obj q _ hk).resolve_left (fun e => by rw [e.2] at hb; cases hb)
  obtain rfl : b' = b := by have := hO.at_; rw [hb] at this; exact (Option.some.inj this).symm
  rcases hO.blk with ⟨g, _⟩ | ⟨_, es, clock, g1, g2, g3⟩
  · rw [hm] at g; cases g
  subst g2
  have hr := hO.rel 0 (by simp)
  obtain ⟨fa, ca, q1, q2, q3, q4, q5⟩ := hr.fn_inv
  have q1' : keysV es = .func f fa ca := q1
  unfold keysV at q1'
  injection q1' with z1 z2 z3
  subst z1 z2 z3
  refine ⟨b', es, clock, e1.trans (ptv_m hm), hb, by have := hO.ph; simpa using this.symm, g1, g3, rfl, List.eq_nil_of_length_eq_zero (by simpa using q2.symm), by simpa using q3.symm, fun i h1 h2 => ?_⟩
  have h3 := q5 i h1
  rw [Array.getD_eq_getD_getElem?, Array.getElem?_map, Array.getElem?_eq_getElem h2] at h3
  have h3' : R c (ln h) w ks[i] es[i].key := h3
  obtain ⟨ns, n1, n2, n3⟩ := hK _ (List.getElem_mem h1)
  refine ⟨h3', ns, n1, n2, n3, ?_⟩
  rw [n1] at h3'
  exact key_val h3'
theorem hasK_iff {m : Nat} {ks : List V} {es : Array MapEntry} {ns : List Int} (hl : ks.length = es.size)
    (hr : ∀ i (h1 : i < ks.length) (h2 : i < es.size), ∃ ms : List Int, ks[i] = .ag (ms.map fun n => .s (.int .i64 n)) ∧ es[i].key = keyVal ms) :
    hasK ks (ns.map fun n => .s (.int .i64 n)) = true ↔ ∃ e, e ∈ es.toList ∧ e.key = keyVal ns := by
  unfold hasK
  rw [List.any_eq_true]
  constructor
  · rintro ⟨v, hv, hs⟩
    obtain ⟨i, hi, rfl⟩ := List.getElem_of_mem hv
    obtain ⟨ms, e1, e2⟩ := hr i hi (by omega)
    rw [e1, sameK_key, decide_eq_true_eq] at hs
    subst hs
    exact ⟨es[i], by simp, e2⟩
  · rintro ⟨e, he, hk⟩
    obtain ⟨i, hi, rfl⟩ := List.getElem_of_mem he
    have hi' : i < es.size := by simpa using hi
    obtain ⟨ms, e1, e2⟩ := hr i (by omega) hi'
    refine ⟨ks[i]'(by omega), List.getElem_mem _, ?_⟩
    have : ms = ns := keyVal_inj (e2.symm.trans (by simpa using hk))
    rw [e1, sameK_key, this, decide_eq_true_eq]
theorem lookup_sound {t : TypeId} {x ix : Operand} {o : Oper} (ho : o.op = .lookup t x ix false) (hs : Sim c h w Ow) (hv : ∀ x, x ∈ o.op.operands → R c (ln h) w (ρ x) (σ x)) (hr : aop P ρ h key o = some r) (hob : AllP r.ob) : GoesAny P (execOp σ o) c h w Ow r := by
  have hx := hv x (by rw [ho]; simp [Op.operands])
  have hi := hv ix (by rw [ho]; simp [Op.operands])
  simp only [aop, ho] at hr
  split at hr
  · rename_i m q cs hm ex ei
    have M := mapArr_spec hm
    cases hq : mpk q with
    | false => rw [hq] at hr; cases hr
    | true =>
      rw [hq] at hr
      simp only [cond_true] at hr
      split at hr
      · rename_i f fi ks hk
        simp only [Option.some.injEq] at hr
        subst hr
        obtain ⟨o1, ns, n1, n2, n3⟩ := hob
        injection n1 with n1
        subst n1
        rw [ex] at hx
        rw [ei] at hi
        obtain ⟨b, es, clock, g1, g2, g2p, g3, g4, _, _, g5, g6⟩ := map_row hs hq hk hx o1
        have kx := key_val hi
        have K := M.arr.law
        obtain ⟨l, hl⟩ := key_of M n2 n3
        have hes : ∀ e, e ∈ es.toList → ∃ l, keyOf P m.1 e.key = some l := by
          intro e he
          obtain ⟨i, hi, rfl⟩ := List.getElem_of_mem he
          have hi' : i < es.size := by simpa using hi
          obtain ⟨_, ms, _, m2, m3, m4⟩ := g6 i (by omega) hi'
          have := key_of M m2 m3
          rw [← m4] at this
          simpa using this
        have hiff := hasK_iff (m := m.2.2.2) (ns := ns) g5 (fun i h1 h2 => by
          obtain ⟨_, ms, m1, _, _, m4⟩ := g6 i h1 h2
          exact ⟨ms, m1, m4⟩)
        rcases K.find w hl es.toList hes with ⟨h1, h2⟩ | ⟨j, e0, h1, h2, h3⟩
        · have hf : hasK ks (ns.map fun n => .s (.int .i64 n)) = false := by
            cases hh : hasK ks (ns.map fun n => .s (.int .i64 n)) with
            | false => rfl
            | true =>
              obtain ⟨e, he, hek⟩ := hiff.1 hh
              exact absurd hek (h2 e he)
          rw [hf]
          refine goes_val hs (x := .bool false) ?_ (.i (.s rfl))
          simp [execOp, ho, Instr.lookup, run_underlying M.ht, g1, kx, Go.MapKept.run_getObj_map g3, K.check w _ hl, h1, M.hz, Result.andThen]
        · have hm0 : e0 ∈ es.toList := List.mem_of_getElem? h2
          have ht : hasK ks (ns.map fun n => .s (.int .i64 n)) = true := hiff.2 ⟨e0, hm0, h3⟩
          rw [ht]
          refine goes_val hs (x := .bool true) ?_ (.i (.s rfl))
          simp [execOp, ho, Instr.lookup, run_underlying M.ht, g1, kx, Go.MapKept.run_getObj_map g3, K.check w _ hl, h1, g4 e0 hm0, Result.andThen]
      · cases hr
  · exact raw_sound hs hv hr
theorem makeMap_sound {t : TypeId} {o : Oper} (ho : o.op = .makeMap t none) (hs : Sim c h w Ow) (hr : aop P ρ h key o = some r) : GoesAny P (execOp σ o) c h w Ow r := by
  simp only [aop, ho] at hr
  split at hr
  · rename_i m hm hk
    obtain ⟨q, hq0⟩ : ∃ q, q = key + 2000000000 := ⟨_, rfl⟩
    rw [← hq0] at hr hk
    cases hq : mpk q with
    | false => rw [hq] at hr; cases hr
    | true =>
      rw [hq] at hr
      simp only [cond_true, Option.some.injEq] at hr
      subst hr
      have hoq : owk q = false := by
        cases hh : owk q with
        | false => rfl
        | true => rw [mpk_ow hh] at hq; cases hq
      obtain ⟨g1, g2⟩ := hs.set (k := q) (bn := w.heap.size) (cs' := [.fn (.func 0) [] []]) (w' := w.alloc (.map #[] 0)) (arr := #[keysV #[]]) (ty := 0)
        (fun cs0 h0 => by rw [hk] at h0; cases h0) (.inl (Nat.le_refl _)) (fun b _ hb => Below.heap_alloc w _ b hb) (by simp)
        (.inr ⟨hq, #[], 0, by show (w.heap.push _)[_]? = _; simp, rfl, fun e he => by simp at he⟩) (by simp)
        (fun i hi => by
          have : i = 0 := by simpa using hi
          subst this; rfl)
        (fun i hi => by
          have : i = 0 := by simpa using hi
          subst this
          exact .fn (by simp) (by simp) (fun i hi => absurd hi (by simp)) (fun i hi => absurd hi (by simp)))
        (fun g => by rw [hoq] at g; cases g)
      refine ⟨.value (.map (some w.heap.size)), w.alloc (.map #[] 0), _, ?_, .inl ⟨_, rfl, ?_⟩, g1, g2, ⟨rfl, rfl, rfl, by simp, fun b hb => ?_⟩, rfl⟩
      · simp [execOp, ho, Instr.makeMap]
      · rw [← ptv_m (b := w.heap.size) (off := 0) hq]
        exact .pt (l := 1) (by simp [ln, upd]) (Nat.le_refl _) (fun _ => by simp [Cx.set])
      · rcases Nat.lt_or_ge b w.heap.size with hlt | hge
        · exact Below.heap_alloc w _ b hlt
        · exact absurd (hs.fresh 0 b hge) (hb 0)
  · cases hr
theorem mapUpdate_sound {t : TypeId} {x ix y : Operand} {o : Oper} (ho : o.op = .mapUpdate t x ix y) (hs : Sim c h w Ow) (hv : ∀ x, x ∈ o.op.operands → R c (ln h) w (ρ x) (σ x)) (hr : aop P ρ h key o = some r) (hob : AllP r.ob) : GoesAny P (execOp σ o) c h w Ow r := by
  have hx := hv x (by rw [ho]; simp [Op.operands])
  have hi := hv ix (by rw [ho]; simp [Op.operands])
  have hy := hv y (by rw [ho]; simp [Op.operands])
  simp only [aop, ho] at hr
  split at hr
  · rename_i m q cs hm ex ei ey
    have M := mapArr_spec hm
    cases hq : mpk q with
    | false => rw [hq] at hr; cases hr
    | true =>
      rw [hq] at hr
      simp only [cond_true] at hr
      split at hr
      · rename_i f fi ks hk
        simp only [Option.some.injEq] at hr
        subst hr
        obtain ⟨o1, ns, n1, n2, n3⟩ := hob
        injection n1 with n1
        subst n1
        rw [ex] at hx
        rw [ei] at hi
        rw [ey] at hy
        have hoq : owk q = false := by
          cases hh : owk q with
          | false => rfl
          | true => rw [mpk_ow hh] at hq; cases hq
        obtain ⟨b, es, clock, g1, g2, g2p, g3, g4, rfl, rfl, g5, g6⟩ := map_row hs hq hk hx o1
        have kx := key_val hi
        have ky := hy.s_inv.1
        have K := M.arr.law
        obtain ⟨l, hl⟩ := key_of M n2 n3
        have hes : ∀ e, e ∈ es.toList → ∃ l, keyOf P m.1 e.key = some l := by
          intro e he
          obtain ⟨i, hi, rfl⟩ := List.getElem_of_mem he
          have hi' : i < es.size := by simpa using hi
          obtain ⟨_, ms, _, m2, m3, m4⟩ := g6 i (by omega) hi'
          have := key_of M m2 m3
          rw [← m4] at this
          simpa using this
        have hiff := hasK_iff (m := m.2.2.2) (ns := ns) g5 (fun i h1 h2 => by
          obtain ⟨_, ms, m1, _, _, m4⟩ := g6 i h1 h2
          exact ⟨ms, m1, m4⟩)
        -- the map goes on in its block
        have fin : ∀ (es' : Array MapEntry) (clock' : Nat) (ks' : List V), (∀ e, e ∈ es'.toList → e.val = .bool true) → ks'.length = es'.size →
            (∀ i (h1 : i < ks'.length) (h2 : i < es'.size), R c (ln h) w ks'[i] es'[i].key) →
            (execOp σ o).run P w = .ok .skip (Go.ChangeMaps.setBlock w b (.map es' clock')) →
            GoesAny P (execOp σ o) c h w Ow ⟨.un, [q], some (q, [.fn (.func 0) [] ks']), [(∀ v, v ∈ ks → KeyP m.2.2.2 v) ∧ KeyP m.2.2.2 (.ag (ns.map fun n => .s (.int .i64 n)))]⟩ := by
          intro es' clock' ks' c1 c2 c3 hrun
          have hbl := (Array.getElem?_eq_some_iff.1 g3).1
          obtain ⟨s1, s2⟩ := hs.set (k := q) (bn := b) (cs' := [.fn (.func 0) [] ks']) (w' := Go.ChangeMaps.setBlock w b (.map es' clock')) (arr := #[keysV es']) (ty := 0)
            (fun cs0 h0 => by rw [hk] at h0; injection h0 with h0; subst h0; exact ⟨by simp, fun _ => ⟨g2, g2p⟩⟩) (.inr ⟨_, hk, g2⟩)
            (fun j hj _ => Go.ChangeMaps.heap_setBlock_other g3 _ hj) (by simp [Go.ChangeMaps.setBlock])
            (.inr ⟨hq, es', clock', Go.ChangeMaps.heap_setBlock_same g3 _, rfl, c1⟩) (by simp)
            (fun i hi => by
              have : i = 0 := by simpa using hi
              subst this; rfl)
            (fun i hi => by
              have : i = 0 := by simpa using hi
              subst this
              refine .fn (by simp) (by simp [c2]) (fun i hi => absurd hi (by simp)) (fun i hi => ?_)
              have h2 : i < es'.size := by omega
              rw [Array.getD_eq_getD_getElem?, Array.getElem?_map, Array.getElem?_eq_getElem h2]
              exact c3 i hi h2)
            (fun g => by rw [hoq] at g; cases g)
          refine ⟨.skip, _, _, hrun, .inr ⟨rfl, rfl⟩, s1, s2, ⟨rfl, rfl, rfl, by simp [Go.ChangeMaps.setBlock], fun j hj => ?_⟩, rfl⟩
          exact Go.ChangeMaps.heap_setBlock_other g3 _ (fun e => hj q (by rw [e]; exact (hs.own q _ b hk g2).1))
        rcases K.find w hl es.toList hes with ⟨h1, h2⟩ | ⟨j, e0, h1, h2, h3⟩
        · have hf : hasK ks (ns.map fun n => .s (.int .i64 n)) = false := by
            cases hh : hasK ks (ns.map fun n => .s (.int .i64 n)) with
            | false => rfl
            | true =>
              obtain ⟨e, he, hek⟩ := hiff.1 hh
              exact absurd hek (h2 e he)
          rw [hf]
          refine fin (es.push ⟨keyVal ns, .bool true, clock⟩) (clock + 1) _ (fun e he => ?_) (by simp [g5]) (fun i i1 i2 => ?_) ?_
          · simp only [Array.toList_push, List.mem_append, List.mem_singleton] at he
            rcases he with he | rfl
            · exact g4 e he
            · rfl
          · simp only [cond_false] at i1 ⊢
            by_cases hlt : i < ks.length
            · have hlt2 : i < es.size := by omega
              rw [List.getElem_append_left hlt, Array.getElem_push_lt hlt2]
              exact (g6 i hlt hlt2).1
            · have hie : i = es.size := by simp at i2; omega
              subst hie
              rw [List.getElem_append_right (by omega), Array.getElem_push_eq]
              have : σ ix = keyVal ns := kx
              simp only [List.getElem_singleton]
              rw [← this]
              exact hi
          · simp [execOp, ho, Instr.mapUpdate, run_underlying M.ht, g1, kx, ky, Go.MapKept.run_getObj_map g3, K.check w false hl, h1, Go.MapKept.run_setObj_map _ g3, Result.andThen, Go.ChangeMaps.setBlock]
        · have hm0 : e0 ∈ es.toList := List.mem_of_getElem? h2
          have ht : hasK ks (ns.map fun n => .s (.int .i64 n)) = true := hiff.2 ⟨e0, hm0, h3⟩
          have hj : es[j]? = some e0 := by simpa using h2
          rw [ht]
          refine fin (es.modify j (fun e' => { e' with key := keyVal ns, val := .bool true })) clock _ (fun e he => ?_) (by simpa using g5) (fun i i1 i2 => ?_) ?_
          · rcases Go.MapFrom.mem_modify he with he | ⟨e', _, rfl⟩
            · exact g4 e he
            · rfl
          · simp only [cond_true] at i1 ⊢
            have i2' : i < es.size := by simpa using i2
            have := (g6 i i1 i2').1
            rw [Array.getElem_modify]
            split
            · rename_i e
              subst e
              rw [Array.getElem?_eq_getElem i2'] at hj
              injection hj with hj
              rw [hj, h3] at this
              exact this
            · exact this
          · simp [execOp, ho, Instr.mapUpdate, run_underlying M.ht, g1, kx, ky, Go.MapKept.run_getObj_map g3, K.check w false hl, h1, hj, h3, K.stays w hl, Go.MapKept.run_setObj_map _ g3, Result.andThen, Go.ChangeMaps.setBlock]
      · cases hr
  · cases hr
end
end Go.Proofs.Ytpjmefdpjlhkhaa.Eng

