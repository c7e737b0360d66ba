/- The functions that the law FnExactDrive reaches, by the engine. Printed by a program of this seat. -/
import Derived.Test.YtjfjifnmfnlfoaaE5
import Derived.Test.YtjfjifnmfnlfoaaProg
namespace Go.Proofs.Ytjfjifnmfnlfoaa.Fns
open Go.Proofs.Try Go.Proofs.Ytjfjifnmfnlfoaa.Eng Go.RowKit
set_option maxRecDepth 100000
set_option linter.unusedVariables false
set_option linter.unusedSimpArgs false
structure S117 where
  f0 : Int
  f1 : Int
  deriving Inhabited
def e117 (x : S117) : List V := [I x.f0, I x.f1]
theorem e117_ok : Enc (e117) 2 where
  len := fun _ => rfl
  self := fun x v h H tb bor => by
    simp only [e117, List.mem_cons, List.not_mem_nil, or_false] at h
    rcases h with h | h
    · subst h; exact .s
    · subst h; exact .s
  cln := fun x v h => by
    simp only [e117, List.mem_cons, List.not_mem_nil, or_false] at h
    rcases h with h | h
    · subst h; exact .s
    · subst h; exact .s
theorem e117_c {b : Bool} : EncC b e117 := by
  intro x v h
  simp only [e117, List.mem_cons, List.not_mem_nil, or_false] at h
  rcases h with h | h
  · subst h; exact .s
  · subst h; exact .s
/-! laws_szSpanS: function 35 -/
def laws_szSpanS.f (a0 : (List S117)) (a1 : Int) : Option Int := (if (wrap64 (a1 - (a0.length : Int))) < 0 then (some (-1)) else (some (wrap64 (a1 - (a0.length : Int)))))
theorem laws_szSpanS.J (a0 : (List S117)) (a1 : Int) (r : Int) (h : laws_szSpanS.f a0 a1 = some r) : J prog (.call 35 [(.sl true a0.length 2 (a0.flatMap e117)), (I a1)] [] (I r) []) := by
  unfold laws_szSpanS.f at h
  refine .call' [c_ 2, c_ 3] ?_
  refine .reg' [0, 1] [] ⟨[(0, (.sl true a0.length 2 (a0.flatMap e117))), (1, (I a1))], [], [], []⟩ [c_ 6, c_ 7] aln nocal ?_
  refine .reg' [1] [] ⟨[(1, (I (wrap64 (a1 - (a0.length : Int)))))], [], [], []⟩ [c_ 28, c_ 29, c_ 15] aln nocal ?_
  refine .reg' [1, 10] [] ⟨[(1, (I (wrap64 (a1 - (a0.length : Int))))), (10, (B (decide ((wrap64 (a1 - (a0.length : Int))) < 0))))], [], [], []⟩ [c_ 29, c_ 15] aln nocal ?_
  by_cases c1 : (wrap64 (a1 - (a0.length : Int))) < 0
  · rw [if_pos c1] at h
    refine .cond' (.tmp 10) true [c_ 116, c_ 117, c_ 15] (bT (dT c1)) ?_
    refine .reg' [4] [] ⟨[(4, (I (-1)))], [], [], []⟩ [c_ 117, c_ 15] aln nocal ?_
    have h := Option.some.inj h
    subst h
    exact .fin0 [] (I (-1)) [] aln (.z .s)
  · rw [if_neg c1] at h
    refine .cond' (.tmp 10) false [c_ 30, c_ 31] (bF (dF c1)) ?_
    refine .reg' [4] [] ⟨[(4, (I (wrap64 (a1 - (a0.length : Int)))))], [], [], []⟩ [c_ 31] aln nocal ?_
    have h := Option.some.inj h
    subst h
    exact .fin0 [] (I (wrap64 (a1 - (a0.length : Int)))) [] aln (.z .s)
/-! laws_toSpan: function 85 -/
def laws_toSpan.f (a0 : S117) : Option S117 := (some a0)
theorem laws_toSpan.J (a0 : S117) (r : S117) (h : laws_toSpan.f a0 = some r) : J prog (.call 85 [(.ag [(I a0.f0), (I a0.f1)])] [] (.ag [(I r.f0), (I r.f1)]) []) := by
  unfold laws_toSpan.f at h
  refine .call' [c_ 2, c_ 3] ?_
  refine .reg' [1, 2] [] ⟨[(1, (.pt 256 0 2)), (2, (.pt 257 0 2))], [(256, [(I a0.f0), (I a0.f1)]), (257, [(I 0), (I 0)])], [], []⟩ [c_ 6, c_ 7] aln nocal ?_
  refine .reg' [1, 2, 3] [] ⟨[(1, (.pt 256 0 2)), (2, (.pt 257 0 2)), (3, (.pt 512 0 2))], [(256, [(I a0.f0), (I a0.f1)]), (257, [(I 0), (I 0)]), (512, [(I 0), (I 0)])], [], []⟩ [c_ 14, c_ 15] aln nocal ?_
  refine .reg' [1, 2, 3] [] ⟨[(1, (.pt 256 0 2)), (2, (.pt 257 0 2)), (3, (.pt 512 0 2))], [(256, [(I a0.f0), (I a0.f1)]), (257, [(I 0), (I 0)]), (512, [(I a0.f0), (I 0)])], [2 = 2 ∧ 0 + 1 ≤ 2, 2 = 2 ∧ 0 + 1 ≤ 2], []⟩ [c_ 30, c_ 31] (alc ⟨rfl, by decide⟩ (alc ⟨rfl, by decide⟩ aln)) nocal ?_
  refine .reg' [2, 3] [] ⟨[(2, (.pt 257 0 2)), (3, (.pt 512 0 2))], [(256, [(I a0.f0), (I a0.f1)]), (257, [(I 0), (I 0)]), (512, [(I a0.f0), (I a0.f1)])], [2 = 2 ∧ 1 + 1 ≤ 2, 2 = 2 ∧ 1 + 1 ≤ 2], []⟩ [c_ 62, c_ 63] (alc ⟨rfl, by decide⟩ (alc ⟨rfl, by decide⟩ aln)) nocal ?_
  refine .reg' [2] [] ⟨[(2, (.pt 257 0 2))], [(256, [(I a0.f0), (I a0.f1)]), (257, [(I a0.f0), (I a0.f1)]), (512, [(I a0.f0), (I a0.f1)])], [2 = 2 ∧ 0 + 2 ≤ 2, 2 = 2 ∧ 0 + 2 ≤ 2], []⟩ [c_ 63] (alc ⟨rfl, by decide⟩ (alc ⟨rfl, by decide⟩ aln)) nocal ?_
  have h := Option.some.inj h
  subst h
  exact .fin0 [] (.ag [(I a0.f0), (I a0.f1)]) [2 = 2 ∧ 0 + 2 ≤ 2] (alc ⟨rfl, by decide⟩ aln) (.z (frz_ag (a2c .s (a2c .s a2n))))
/-! laws_toSpanS: function 37 -/
def laws_toSpanS.l0 : Nat → (List S117) → (List S117) → Int → Option (List S117)
 | 0, _, _, _ => none
 | k + 1, a0, x1, x2 => (if x2 < (a0.length : Int) then (if 0 ≤ x2 then ((laws_toSpan.f (at_ a0 x2)).bind fun x3 => (if x2 < (x1.length : Int) then (laws_toSpanS.l0 k a0 (x1.set x2.toNat x3) (wrap64 (x2 + 1))) else none)) else none) else (some x1))
def laws_toSpanS.f (k : Nat) (a0 : (List S117)) : Option (List S117) := (if 0 ≤ (a0.length : Int) then (if (a0.length : Int) * 16 ≤ 281474976710656 then (laws_toSpanS.l0 k a0 (List.replicate (a0.length : Int).toNat (⟨0, 0⟩ : S117)) 0) else none) else none)
theorem laws_toSpanS.lab : ∀ k, (∀ (a0 : (List S117)) (x1 : (List S117)) (x2 : Int) (r : (List S117)), laws_toSpanS.l0 k a0 x1 x2 = some r → J prog (.run 37 [] [l_ 58, b_ 0, c_ 15] [(0, (.sl true a0.length 2 (a0.flatMap e117))), (3, (.rf 514 0 x1.length 2 (x1.length * 2))), (4, (I x2))] [(514, (x1.flatMap e117))] (.rf 514 0 r.length 2 (r.length * 2)) [(514, (r.flatMap e117))]))
 | 0 => (by intro a0 x1 x2 r h; unfold laws_toSpanS.l0 at h; cases h)
 | k + 1 => by
  have ih := laws_toSpanS.lab k
  have ih0 := ih
  · intro a0 x1 x2 r h
    unfold laws_toSpanS.l0 at h
    refine .loop' [c_ 464, c_ 465, c_ 233, l_ 58, b_ 0, c_ 15] ?_
    refine .reg' [0, 3, 4, 11] [] ⟨[(0, (.sl true a0.length 2 (a0.flatMap e117))), (3, (.rf 514 0 x1.length 2 (x1.length * 2))), (4, (I x2)), (11, (B (decide (x2 < (a0.length : Int)))))], [(514, (x1.flatMap e117))], [], []⟩ [c_ 465, c_ 233, l_ 58, b_ 0, c_ 15] aln nocal ?_
    by_cases c3 : x2 < (a0.length : Int)
    · rw [if_pos c3] at h
      refine .cond' (.tmp 11) true [c_ 932, b_ 1, c_ 467, l_ 58, b_ 0, c_ 15] (bT (dT c3)) ?_
      by_cases c4 : 0 ≤ x2
      · rw [if_pos c4] at h
        obtain ⟨x3, hx3, h⟩ := Option.bind_eq_some_iff.mp h
        by_cases c5 : x2 < (x1.length : Int)
        · rw [if_pos c5] at h
          refine .reg' [0, 3, 4] [.no, .no, .no, .no, .no, .v (.ag [(I (at_ a0 x2).f0), (I (at_ a0 x2).f1)]), .c ⟨85, [(.ag [(I (at_ a0 x2).f0), (I (at_ a0 x2).f1)])], [], (.ag [(I x3.f0), (I x3.f1)]), [], [], [], [], (.ag [(I x3.f0), (I x3.f1)]), []⟩, .no, .w .un ((x1.set x2.toNat x3).flatMap e117)] ⟨[(0, (.sl true a0.length 2 (a0.flatMap e117))), (3, (.rf 514 0 x1.length 2 (x1.length * 2))), (4, (I x2))], [(514, ((x1.set x2.toNat x3).flatMap e117))], [(0 : Int) ≤ x2 ∧ x2 < (a0.length : Int), rdC prog 123 ((a0.flatMap e117).drop (x2.toNat * 2)) = (.ag [(I (at_ a0 x2).f0), (I (at_ a0 x2).f1)]), 2 ≤ ((a0.flatMap e117).drop (x2.toNat * 2)).length, COK (hget [(514, (x1.flatMap e117))]) [(.ag [(I (at_ a0 x2).f0), (I (at_ a0 x2).f1)])] ⟨85, [(.ag [(I (at_ a0 x2).f0), (I (at_ a0 x2).f1)])], [], (.ag [(I x3.f0), (I x3.f1)]), [], [], [], [], (.ag [(I x3.f0), (I x3.f1)]), []⟩, (0 : Int) ≤ x2 ∧ x2 < (x1.length : Int), V.un = V.un, spl (x1.flatMap e117) (0 + x2.toNat * 2) [(I x3.f0), (I x3.f1)] = ((x1.set x2.toNat x3).flatMap e117), x1.length * 2 = (x1.flatMap e117).length ∧ 0 + x2.toNat * 2 + 2 ≤ (x1.flatMap e117).length], [⟨85, [(.ag [(I (at_ a0 x2).f0), (I (at_ a0 x2).f1)])], [], (.ag [(I x3.f0), (I x3.f1)]), [], [], [], [], (.ag [(I x3.f0), (I x3.f1)]), []⟩]⟩ [c_ 467, l_ 58, b_ 0, c_ 15] (alc ⟨c4, c3⟩ (alc (ldA e117_ok rfl rfl c4 c3) (alc (okI e117_ok c4 c3 (by decide)) (alc (cok0 false (a2c (.z (frz_ag (a2c .s (a2c .s a2n)))) a2n) (.z (cln_ag (alc1 .s (alc1 .s aln1)))) (fun h => absurd h (by decide))) (alc ⟨c4, c5⟩ (alc rfl (alc (st_row e117_ok 0 c4 c5 (Nat.le_of_ble_eq_true rfl) rfl) (alc (okA0 e117_ok c4 c5 (by decide)) aln)))))))) (acal (laws_toSpan.J (at_ a0 x2) _ hx3) nocal) ?_
          refine .eqs (env2 := [(0, (.sl true a0.length 2 (a0.flatMap e117))), (3, (.rf 514 0 ((x1.set x2.toNat x3).length) 2 ((x1.set x2.toNat x3).length * 2))), (4, (I x2))]) (H2 := [(514, ((x1.set x2.toNat x3).flatMap e117))]) (by first | (simp only [List.length_set]; done) | simp) (by first | rfl | (simp only [List.length_set]; done) | simp) ?_
          refine .reg' [0, 3, 4] [] ⟨[(0, (.sl true a0.length 2 (a0.flatMap e117))), (3, (.rf 514 0 ((x1.set x2.toNat x3).length) 2 ((x1.set x2.toNat x3).length * 2))), (4, (I (wrap64 (x2 + 1))))], [(514, ((x1.set x2.toNat x3).flatMap e117))], [], []⟩ [l_ 58, b_ 0, c_ 15] aln nocal ?_
          exact ih0 a0 (x1.set x2.toNat x3) (wrap64 (x2 + 1)) _ h
        · rw [if_neg c5] at h
          cases h
      · rw [if_neg c4] at h
        cases h
    · rw [if_neg c3] at h
      refine .cond' (.tmp 11) false [c_ 30, c_ 31] (bF (dF c3)) ?_
      refine .reg' [2] [] ⟨[(2, (.rf 514 0 x1.length 2 (x1.length * 2)))], [(514, (x1.flatMap e117))], [], []⟩ [c_ 31] aln nocal ?_
      have h := Option.some.inj h
      subst h
      exact .fin' [] [(514, 514)] (.rf 514 0 x1.length 2 (x1.length * 2)) [] aln (shc 514 (rowF e117_ok _) shn) (.rf (memP_mem (p := (514, 514)) rfl))
theorem laws_toSpanS.J (k : Nat) (a0 : (List S117)) (r : (List S117)) (h : laws_toSpanS.f k a0 = some r) : J prog (.call 37 [(.sl true a0.length 2 (a0.flatMap e117))] [] (.rf 514 0 r.length 2 (r.length * 2)) [(514, (r.flatMap e117))]) := by
  unfold laws_toSpanS.f at h
  have ih0 := laws_toSpanS.lab k
  refine .call' [c_ 2, c_ 3] ?_
  refine .reg' [0] [] ⟨[(0, (.sl true a0.length 2 (a0.flatMap e117)))], [], [], []⟩ [c_ 6, c_ 7] aln nocal ?_
  by_cases c1 : 0 ≤ (a0.length : Int)
  · rw [if_pos c1] at h
    by_cases c2 : (a0.length : Int) * 16 ≤ 281474976710656
    · rw [if_pos c2] at h
      refine .reg' [0, 3] [.no, .no, .w (.rf 514 0 ((List.replicate (a0.length : Int).toNat (⟨0, 0⟩ : S117)).length) 2 ((List.replicate (a0.length : Int).toNat (⟨0, 0⟩ : S117)).length * 2)) ((List.replicate (a0.length : Int).toNat (⟨0, 0⟩ : S117)).flatMap e117)] ⟨[(0, (.sl true a0.length 2 (a0.flatMap e117))), (3, (.rf 514 0 ((List.replicate (a0.length : Int).toNat (⟨0, 0⟩ : S117)).length) 2 ((List.replicate (a0.length : Int).toNat (⟨0, 0⟩ : S117)).length * 2)))], [(514, ((List.replicate (a0.length : Int).toNat (⟨0, 0⟩ : S117)).flatMap e117))], [V.rf 514 0 (a0.length : Int).toNat 2 ((a0.length : Int).toNat * 2) = (.rf 514 0 ((List.replicate (a0.length : Int).toNat (⟨0, 0⟩ : S117)).length) 2 ((List.replicate (a0.length : Int).toNat (⟨0, 0⟩ : S117)).length * 2)), rept (a0.length : Int).toNat [(I 0), (I 0)] = (List.replicate (a0.length : Int).toNat (⟨0, 0⟩ : S117)).flatMap e117, (a0.length : Int) = (a0.length : Int) ∧ 0 ≤ (a0.length : Int) ∧ (a0.length : Int) * 16 ≤ 281474976710656 ∧ (a0.length : Int) ≤ 9223372036854775807], []⟩ [c_ 28, c_ 29, c_ 15] (alc mkV (alc (row_rept (enc := e117) (x := (⟨0, 0⟩ : S117)) (by decide) _) (alc ⟨rfl, c1, c2, by omega⟩ aln))) nocal ?_
      refine .reg' [0, 3, 4] [] ⟨[(0, (.sl true a0.length 2 (a0.flatMap e117))), (3, (.rf 514 0 ((List.replicate (a0.length : Int).toNat (⟨0, 0⟩ : S117)).length) 2 ((List.replicate (a0.length : Int).toNat (⟨0, 0⟩ : S117)).length * 2))), (4, (I 0))], [(514, ((List.replicate (a0.length : Int).toNat (⟨0, 0⟩ : S117)).flatMap e117))], [], []⟩ [l_ 58, b_ 0, c_ 15] aln nocal ?_
      exact ih0 a0 (List.replicate (a0.length : Int).toNat (⟨0, 0⟩ : S117)) 0 _ h
    · rw [if_neg c2] at h
      cases h
  · rw [if_neg c1] at h
    cases h
/-! laws_toIntS: function 38 -/
def laws_toIntS.l0 : Nat → (List Int) → (List Int) → Int → Option (List Int)
 | 0, _, _, _ => none
 | k + 1, a0, x1, x2 => (if x2 < (a0.length : Int) then (if 0 ≤ x2 then (if x2 < (x1.length : Int) then (laws_toIntS.l0 k a0 (x1.set x2.toNat (at_ a0 x2)) (wrap64 (x2 + 1))) else none) else none) else (some x1))
def laws_toIntS.f (k : Nat) (a0 : (List Int)) : Option (List Int) := (if 0 ≤ (a0.length : Int) then (if (a0.length : Int) * 8 ≤ 281474976710656 then (laws_toIntS.l0 k a0 (List.replicate (a0.length : Int).toNat (0 : Int)) 0) else none) else none)
theorem laws_toIntS.lab : ∀ k, (∀ (a0 : (List Int)) (x1 : (List Int)) (x2 : Int) (r : (List Int)), laws_toIntS.l0 k a0 x1 x2 = some r → J prog (.run 38 [] [l_ 58, b_ 0, c_ 15] [(0, (.sl true a0.length 1 (a0.flatMap encI))), (3, (.rf 514 0 x1.length 1 (x1.length * 1))), (4, (I x2))] [(514, (x1.flatMap encI))] (.rf 514 0 r.length 1 (r.length * 1)) [(514, (r.flatMap encI))]))
 | 0 => (by intro a0 x1 x2 r h; unfold laws_toIntS.l0 at h; cases h)
 | k + 1 => by
  have ih := laws_toIntS.lab k
  have ih0 := ih
  · intro a0 x1 x2 r h
    unfold laws_toIntS.l0 at h
    refine .loop' [c_ 464, c_ 465, c_ 233, l_ 58, b_ 0, c_ 15] ?_
    refine .reg' [0, 3, 4, 11] [] ⟨[(0, (.sl true a0.length 1 (a0.flatMap encI))), (3, (.rf 514 0 x1.length 1 (x1.length * 1))), (4, (I x2)), (11, (B (decide (x2 < (a0.length : Int)))))], [(514, (x1.flatMap encI))], [], []⟩ [c_ 465, c_ 233, l_ 58, b_ 0, c_ 15] aln nocal ?_
    by_cases c3 : x2 < (a0.length : Int)
    · rw [if_pos c3] at h
      refine .cond' (.tmp 11) true [c_ 932, b_ 1, c_ 467, l_ 58, b_ 0, c_ 15] (bT (dT c3)) ?_
      by_cases c4 : 0 ≤ x2
      · rw [if_pos c4] at h
        by_cases c5 : x2 < (x1.length : Int)
        · rw [if_pos c5] at h
          refine .reg' [0, 3, 4] [.no, .no, .no, .no, .no, .v (I (at_ a0 x2)), .no, .w .un ((x1.set x2.toNat (at_ a0 x2)).flatMap encI)] ⟨[(0, (.sl true a0.length 1 (a0.flatMap encI))), (3, (.rf 514 0 x1.length 1 (x1.length * 1))), (4, (I x2))], [(514, ((x1.set x2.toNat (at_ a0 x2)).flatMap encI))], [(0 : Int) ≤ x2 ∧ x2 < (a0.length : Int), rdC prog 3 ((a0.flatMap encI).drop (x2.toNat * 1)) = (I (at_ a0 x2)), 1 ≤ ((a0.flatMap encI).drop (x2.toNat * 1)).length, (0 : Int) ≤ x2 ∧ x2 < (x1.length : Int), V.un = V.un, spl (x1.flatMap encI) (0 + x2.toNat * 1) [(I (at_ a0 x2))] = ((x1.set x2.toNat (at_ a0 x2)).flatMap encI), x1.length * 1 = (x1.flatMap encI).length ∧ 0 + x2.toNat * 1 + 1 ≤ (x1.flatMap encI).length], []⟩ [c_ 467, l_ 58, b_ 0, c_ 15] (alc ⟨c4, c3⟩ (alc (ldC1 encI_ok rfl c4 c3) (alc (okI encI_ok c4 c3 (by decide)) (alc ⟨c4, c5⟩ (alc rfl (alc (st_row1 encI_ok c4 c5 (I (at_ a0 x2)) rfl) (alc (okA0 encI_ok c4 c5 (by decide)) aln))))))) nocal ?_
          refine .eqs (env2 := [(0, (.sl true a0.length 1 (a0.flatMap encI))), (3, (.rf 514 0 ((x1.set x2.toNat (at_ a0 x2)).length) 1 ((x1.set x2.toNat (at_ a0 x2)).length * 1))), (4, (I x2))]) (H2 := [(514, ((x1.set x2.toNat (at_ a0 x2)).flatMap encI))]) (by first | (simp only [List.length_set]; done) | simp) (by first | rfl | (simp only [List.length_set]; done) | simp) ?_
          refine .reg' [0, 3, 4] [] ⟨[(0, (.sl true a0.length 1 (a0.flatMap encI))), (3, (.rf 514 0 ((x1.set x2.toNat (at_ a0 x2)).length) 1 ((x1.set x2.toNat (at_ a0 x2)).length * 1))), (4, (I (wrap64 (x2 + 1))))], [(514, ((x1.set x2.toNat (at_ a0 x2)).flatMap encI))], [], []⟩ [l_ 58, b_ 0, c_ 15] aln nocal ?_
          exact ih0 a0 (x1.set x2.toNat (at_ a0 x2)) (wrap64 (x2 + 1)) _ h
        · rw [if_neg c5] at h
          cases h
      · rw [if_neg c4] at h
        cases h
    · rw [if_neg c3] at h
      refine .cond' (.tmp 11) false [c_ 30, c_ 31] (bF (dF c3)) ?_
      refine .reg' [2] [] ⟨[(2, (.rf 514 0 x1.length 1 (x1.length * 1)))], [(514, (x1.flatMap encI))], [], []⟩ [c_ 31] aln nocal ?_
      have h := Option.some.inj h
      subst h
      exact .fin' [] [(514, 514)] (.rf 514 0 x1.length 1 (x1.length * 1)) [] aln (shc 514 (rowF encI_ok _) shn) (.rf (memP_mem (p := (514, 514)) rfl))
theorem laws_toIntS.J (k : Nat) (a0 : (List Int)) (r : (List Int)) (h : laws_toIntS.f k a0 = some r) : J prog (.call 38 [(.sl true a0.length 1 (a0.flatMap encI))] [] (.rf 514 0 r.length 1 (r.length * 1)) [(514, (r.flatMap encI))]) := by
  unfold laws_toIntS.f at h
  have ih0 := laws_toIntS.lab k
  refine .call' [c_ 2, c_ 3] ?_
  refine .reg' [0] [] ⟨[(0, (.sl true a0.length 1 (a0.flatMap encI)))], [], [], []⟩ [c_ 6, c_ 7] aln nocal ?_
  by_cases c1 : 0 ≤ (a0.length : Int)
  · rw [if_pos c1] at h
    by_cases c2 : (a0.length : Int) * 8 ≤ 281474976710656
    · rw [if_pos c2] at h
      refine .reg' [0, 3] [.no, .no, .w (.rf 514 0 ((List.replicate (a0.length : Int).toNat (0 : Int)).length) 1 ((List.replicate (a0.length : Int).toNat (0 : Int)).length * 1)) ((List.replicate (a0.length : Int).toNat (0 : Int)).flatMap encI)] ⟨[(0, (.sl true a0.length 1 (a0.flatMap encI))), (3, (.rf 514 0 ((List.replicate (a0.length : Int).toNat (0 : Int)).length) 1 ((List.replicate (a0.length : Int).toNat (0 : Int)).length * 1)))], [(514, ((List.replicate (a0.length : Int).toNat (0 : Int)).flatMap encI))], [V.rf 514 0 (a0.length : Int).toNat 1 ((a0.length : Int).toNat * 1) = (.rf 514 0 ((List.replicate (a0.length : Int).toNat (0 : Int)).length) 1 ((List.replicate (a0.length : Int).toNat (0 : Int)).length * 1)), rept (a0.length : Int).toNat [(I 0)] = (List.replicate (a0.length : Int).toNat (0 : Int)).flatMap encI, (a0.length : Int) = (a0.length : Int) ∧ 0 ≤ (a0.length : Int) ∧ (a0.length : Int) * 8 ≤ 281474976710656 ∧ (a0.length : Int) ≤ 9223372036854775807], []⟩ [c_ 28, c_ 29, c_ 15] (alc mkV (alc (row_rept1 (enc := encI) (x := 0) (v := (I 0)) rfl _) (alc ⟨rfl, c1, c2, by omega⟩ aln))) nocal ?_
      refine .reg' [0, 3, 4] [] ⟨[(0, (.sl true a0.length 1 (a0.flatMap encI))), (3, (.rf 514 0 ((List.replicate (a0.length : Int).toNat (0 : Int)).length) 1 ((List.replicate (a0.length : Int).toNat (0 : Int)).length * 1))), (4, (I 0))], [(514, ((List.replicate (a0.length : Int).toNat (0 : Int)).flatMap encI))], [], []⟩ [l_ 58, b_ 0, c_ 15] aln nocal ?_
      exact ih0 a0 (List.replicate (a0.length : Int).toNat (0 : Int)) 0 _ h
    · rw [if_neg c2] at h
      cases h
  · rw [if_neg c1] at h
    cases h
/-! spec_l01In: function 54 -/
def spec_l01In.f (a0 : Int) (a1 : Int) (a2 : Int) : Option Bool := (if a1 ≤ a0 then (some (decide (a0 ≤ a2))) else (some false))
theorem spec_l01In.J (a0 : Int) (a1 : Int) (a2 : Int) (r : Bool) (h : spec_l01In.f a0 a1 a2 = some r) : J prog (.call 54 [(I a0), (I a1), (I a2)] [] (B r) []) := by
  unfold spec_l01In.f at h
  refine .call' [c_ 2, c_ 3] ?_
  refine .reg' [0, 1, 2] [] ⟨[(0, (I a0)), (1, (I a1)), (2, (I a2))], [], [], []⟩ [c_ 6, c_ 7] aln nocal ?_
  by_cases c1 : a1 ≤ a0
  · rw [if_pos c1] at h
    refine .reg' [6] [.no, .no, .no, .v (B true)] ⟨[(6, (B (decide (a0 ≤ a2))))], [], [(B (decide (a1 ≤ a0)) : V) = B true], []⟩ [c_ 7] (alc (bT (dT c1)) aln) nocal ?_
    have h := Option.some.inj h
    subst h
    exact .fin0 [] (B (decide (a0 ≤ a2))) [] aln (.z .s)
  · rw [if_neg c1] at h
    refine .reg' [6] [.no, .no, .no, .v (B false)] ⟨[(6, (B false))], [], [(B (decide (a1 ≤ a0)) : V) = B false], []⟩ [c_ 7] (alc (bF (dF c1)) aln) nocal ?_
    have h := Option.some.inj h
    subst h
    exact .fin0 [] (B false) [] aln (.z .s)
/-! spec_TrainsOk: function 81 -/
def spec_TrainsOk.l0 : Nat → Int → (List S117) → Int → Int → Option Bool
 | 0, _, _, _, _ => none
 | k + 1, a0, a1, x2, x3 => (if x3 < (a1.length : Int) then (if 0 ≤ x3 then (if (at_ a1 x3).f0 ≤ x2 then (some false) else ((spec_l01In.f ((at_ a1 x3).f0) 0 ((at_ a1 x3).f1)).bind fun x4 => (if x4 = true then (if (at_ a1 x3).f1 ≥ a0 then (some false) else (spec_TrainsOk.l0 k a0 a1 ((at_ a1 x3).f1) (wrap64 (x3 + 1)))) else (some false)))) else none) else (some true))
def spec_TrainsOk.f (k : Nat) (a0 : Int) (a1 : (List S117)) : Option Bool := ((spec_l01In.f a0 1 100).bind fun x1 => (if x1 = true then (if (a1.length : Int) > 12 then (some false) else (spec_TrainsOk.l0 k a0 a1 (-1) 0)) else (some false)))
theorem spec_TrainsOk.lab : ∀ k, (∀ (a0 : Int) (a1 : (List S117)) (x2 : Int) (x3 : Int) (r : Bool), spec_TrainsOk.l0 k a0 a1 x2 x3 = some r → J prog (.run 81 [] [l_ 122, b_ 0, c_ 31] [(0, (I a0)), (1, (.sl true a1.length 2 (a1.flatMap e117))), (5, (I x2)), (6, (I x3))] [] (B r) []))
 | 0 => (by intro a0 a1 x2 x3 r h; unfold spec_TrainsOk.l0 at h; cases h)
 | k + 1 => by
  have ih := spec_TrainsOk.lab k
  have ih0 := ih
  · intro a0 a1 x2 x3 r h
    unfold spec_TrainsOk.l0 at h
    refine .loop' [c_ 976, c_ 977, c_ 489, l_ 122, b_ 0, c_ 31] ?_
    refine .reg' [0, 1, 5, 6, 19] [] ⟨[(0, (I a0)), (1, (.sl true a1.length 2 (a1.flatMap e117))), (5, (I x2)), (6, (I x3)), (19, (B (decide (x3 < (a1.length : Int)))))], [], [], []⟩ [c_ 977, c_ 489, l_ 122, b_ 0, c_ 31] aln nocal ?_
    by_cases c3 : x3 < (a1.length : Int)
    · rw [if_pos c3] at h
      refine .cond' (.tmp 19) true [c_ 3912, c_ 3913, b_ 1, c_ 979, l_ 122, b_ 0, c_ 31] (bT (dT c3)) ?_
      by_cases c4 : 0 ≤ x3
      · rw [if_pos c4] at h
        refine .reg' [0, 1, 5, 6, 7] [.no, .no, .no, .v (.ag [(I (at_ a1 x3).f0), (I (at_ a1 x3).f1)])] ⟨[(0, (I a0)), (1, (.sl true a1.length 2 (a1.flatMap e117))), (5, (I x2)), (6, (I x3)), (7, (.pt 2052 0 2))], [(2052, [(I (at_ a1 x3).f0), (I (at_ a1 x3).f1)])], [(0 : Int) ≤ x3 ∧ x3 < (a1.length : Int), rdC prog 118 ((a1.flatMap e117).drop (x3.toNat * 2)) = (.ag [(I (at_ a1 x3).f0), (I (at_ a1 x3).f1)]), 2 ≤ ((a1.flatMap e117).drop (x3.toNat * 2)).length, 2 = 2 ∧ 0 + 2 ≤ 2], []⟩ [c_ 15652, c_ 15653, c_ 7827, b_ 1, c_ 979, l_ 122, b_ 0, c_ 31] (alc ⟨c4, c3⟩ (alc (ldA e117_ok rfl rfl c4 c3) (alc (okI e117_ok c4 c3 (by decide)) (alc ⟨rfl, by decide⟩ aln)))) nocal ?_
        by_cases c5 : (at_ a1 x3).f0 ≤ x2
        · rw [if_pos c5] at h
          refine .reg' [0, 1, 6, 7, 43] [.no, .no, .no, .no, .v (B true)] ⟨[(0, (I a0)), (1, (.sl true a1.length 2 (a1.flatMap e117))), (6, (I x3)), (7, (.pt 2052 0 2)), (43, (B true))], [(2052, [(I (at_ a1 x3).f0), (I (at_ a1 x3).f1)])], [2 = 2 ∧ 0 + 1 ≤ 2, (B (decide ((at_ a1 x3).f0 ≤ x2)) : V) = B true], []⟩ [c_ 15653, c_ 7827, b_ 1, c_ 979, l_ 122, b_ 0, c_ 31] (alc ⟨rfl, by decide⟩ (alc (bT (dT c5)) aln)) nocal ?_
          refine .cond' (.tmp 43) true [c_ 62612, c_ 62613, c_ 7827, b_ 1, c_ 979, l_ 122, b_ 0, c_ 31] (rfl) ?_
          refine .reg' [4] [] ⟨[(4, (B false))], [(2052, [(I (at_ a1 x3).f0), (I (at_ a1 x3).f1)])], [], []⟩ [c_ 62613, c_ 7827, b_ 1, c_ 979, l_ 122, b_ 0, c_ 31] aln nocal ?_
          have h := Option.some.inj h
          subst h
          exact .fin0 [] (B false) [] aln (.z .s)
        · rw [if_neg c5] at h
          obtain ⟨x4, hx4, h⟩ := Option.bind_eq_some_iff.mp h
          by_cases c6 : x4 = true
          · rw [if_pos c6] at h
            refine .reg' [0, 1, 6, 7, 43] [.no, .no, .no, .no, .v (B false), .no, .no, .no, .no, .c ⟨54, [(I (at_ a1 x3).f0), (I 0), (I (at_ a1 x3).f1)], [], (B x4), [], [], [], [], (B x4), []⟩, .no, .no, .v (B false)] ⟨[(0, (I a0)), (1, (.sl true a1.length 2 (a1.flatMap e117))), (6, (I x3)), (7, (.pt 2052 0 2)), (43, (B (decide ((at_ a1 x3).f1 ≥ a0))))], [(2052, [(I (at_ a1 x3).f0), (I (at_ a1 x3).f1)])], [2 = 2 ∧ 0 + 1 ≤ 2, (B (decide ((at_ a1 x3).f0 ≤ x2)) : V) = B false, 2 = 2 ∧ 0 + 1 ≤ 2, 2 = 2 ∧ 1 + 1 ≤ 2, COK (hget [(2052, [(I (at_ a1 x3).f0), (I (at_ a1 x3).f1)])]) [(I (at_ a1 x3).f0), (I 0), (I (at_ a1 x3).f1)] ⟨54, [(I (at_ a1 x3).f0), (I 0), (I (at_ a1 x3).f1)], [], (B x4), [], [], [], [], (B x4), []⟩, (B (!x4) : V) = B false, 2 = 2 ∧ 1 + 1 ≤ 2], [⟨54, [(I (at_ a1 x3).f0), (I 0), (I (at_ a1 x3).f1)], [], (B x4), [], [], [], [], (B x4), []⟩]⟩ [c_ 15653, c_ 7827, b_ 1, c_ 979, l_ 122, b_ 0, c_ 31] (alc ⟨rfl, by decide⟩ (alc (bF (dF c5)) (alc ⟨rfl, by decide⟩ (alc ⟨rfl, by decide⟩ (alc (cok0 false (a2c (.z .s) (a2c (.z .s) (a2c (.z .s) a2n))) (.z .s) (fun h => absurd h (by decide))) (alc (bF (nF c6)) (alc ⟨rfl, by decide⟩ aln))))))) (acal (spec_l01In.J ((at_ a1 x3).f0) 0 ((at_ a1 x3).f1) _ hx4) nocal) ?_
            by_cases c7 : (at_ a1 x3).f1 ≥ a0
            · rw [if_pos c7] at h
              refine .cond' (.tmp 43) true [c_ 62612, c_ 62613, c_ 7827, b_ 1, c_ 979, l_ 122, b_ 0, c_ 31] (bT (dT c7)) ?_
              refine .reg' [4] [] ⟨[(4, (B false))], [(2052, [(I (at_ a1 x3).f0), (I (at_ a1 x3).f1)])], [], []⟩ [c_ 62613, c_ 7827, b_ 1, c_ 979, l_ 122, b_ 0, c_ 31] aln nocal ?_
              have h := Option.some.inj h
              subst h
              exact .fin0 [] (B false) [] aln (.z .s)
            · rw [if_neg c7] at h
              refine .cond' (.tmp 43) false [c_ 7827, b_ 1, c_ 979, l_ 122, b_ 0, c_ 31] (bF (dF c7)) ?_
              refine .reg' [0, 1, 5, 6] [] ⟨[(0, (I a0)), (1, (.sl true a1.length 2 (a1.flatMap e117))), (5, (I (at_ a1 x3).f1)), (6, (I x3))], [(2052, [(I (at_ a1 x3).f0), (I (at_ a1 x3).f1)])], [2 = 2 ∧ 1 + 1 ≤ 2], []⟩ [c_ 979, l_ 122, b_ 0, c_ 31] (alc ⟨rfl, by decide⟩ aln) nocal ?_
              refine .reg' [0, 1, 5, 6] [] ⟨[(0, (I a0)), (1, (.sl true a1.length 2 (a1.flatMap e117))), (5, (I (at_ a1 x3).f1)), (6, (I (wrap64 (x3 + 1))))], [(2052, [(I (at_ a1 x3).f0), (I (at_ a1 x3).f1)])], [], []⟩ [l_ 122, b_ 0, c_ 31] aln nocal ?_
              refine .wk' [] [] [(0, (I a0)), (1, (.sl true a1.length 2 (a1.flatMap e117))), (5, (I (at_ a1 x3).f1)), (6, (I (wrap64 (x3 + 1))))] [] shn (enc_ (.z .s) (enc_ (.z (frz_sl e117_ok (fun h => h))) (enc_ (.z .s) (enc_ (.z .s) enn)))) ?_
              exact ih0 a0 a1 ((at_ a1 x3).f1) (wrap64 (x3 + 1)) _ h
          · rw [if_neg c6] at h
            refine .reg' [0, 1, 6, 7, 43] [.no, .no, .no, .no, .v (B false), .no, .no, .no, .no, .c ⟨54, [(I (at_ a1 x3).f0), (I 0), (I (at_ a1 x3).f1)], [], (B x4), [], [], [], [], (B x4), []⟩, .no, .no, .v (B true)] ⟨[(0, (I a0)), (1, (.sl true a1.length 2 (a1.flatMap e117))), (6, (I x3)), (7, (.pt 2052 0 2)), (43, (B true))], [(2052, [(I (at_ a1 x3).f0), (I (at_ a1 x3).f1)])], [2 = 2 ∧ 0 + 1 ≤ 2, (B (decide ((at_ a1 x3).f0 ≤ x2)) : V) = B false, 2 = 2 ∧ 0 + 1 ≤ 2, 2 = 2 ∧ 1 + 1 ≤ 2, COK (hget [(2052, [(I (at_ a1 x3).f0), (I (at_ a1 x3).f1)])]) [(I (at_ a1 x3).f0), (I 0), (I (at_ a1 x3).f1)] ⟨54, [(I (at_ a1 x3).f0), (I 0), (I (at_ a1 x3).f1)], [], (B x4), [], [], [], [], (B x4), []⟩, (B (!x4) : V) = B true], [⟨54, [(I (at_ a1 x3).f0), (I 0), (I (at_ a1 x3).f1)], [], (B x4), [], [], [], [], (B x4), []⟩]⟩ [c_ 15653, c_ 7827, b_ 1, c_ 979, l_ 122, b_ 0, c_ 31] (alc ⟨rfl, by decide⟩ (alc (bF (dF c5)) (alc ⟨rfl, by decide⟩ (alc ⟨rfl, by decide⟩ (alc (cok0 false (a2c (.z .s) (a2c (.z .s) (a2c (.z .s) a2n))) (.z .s) (fun h => absurd h (by decide))) (alc (bT (nT (vF c6))) aln)))))) (acal (spec_l01In.J ((at_ a1 x3).f0) 0 ((at_ a1 x3).f1) _ hx4) nocal) ?_
            refine .cond' (.tmp 43) true [c_ 62612, c_ 62613, c_ 7827, b_ 1, c_ 979, l_ 122, b_ 0, c_ 31] (rfl) ?_
            refine .reg' [4] [] ⟨[(4, (B false))], [(2052, [(I (at_ a1 x3).f0), (I (at_ a1 x3).f1)])], [], []⟩ [c_ 62613, c_ 7827, b_ 1, c_ 979, l_ 122, b_ 0, c_ 31] aln nocal ?_
            have h := Option.some.inj h
            subst h
            exact .fin0 [] (B false) [] aln (.z .s)
      · rw [if_neg c4] at h
        cases h
    · rw [if_neg c3] at h
      refine .cond' (.tmp 19) false [c_ 62, c_ 63] (bF (dF c3)) ?_
      refine .reg' [4] [] ⟨[(4, (B true))], [], [], []⟩ [c_ 63] aln nocal ?_
      have h := Option.some.inj h
      subst h
      exact .fin0 [] (B true) [] aln (.z .s)
theorem spec_TrainsOk.J (k : Nat) (a0 : Int) (a1 : (List S117)) (r : Bool) (h : spec_TrainsOk.f k a0 a1 = some r) : J prog (.call 81 [(I a0), (.sl true a1.length 2 (a1.flatMap e117))] [] (B r) []) := by
  unfold spec_TrainsOk.f at h
  have ih0 := spec_TrainsOk.lab k
  refine .call' [c_ 2, c_ 3] ?_
  refine .reg' [0, 1] [] ⟨[(0, (I a0)), (1, (.sl true a1.length 2 (a1.flatMap e117)))], [], [], []⟩ [c_ 12, c_ 13, c_ 7] aln nocal ?_
  obtain ⟨x1, hx1, h⟩ := Option.bind_eq_some_iff.mp h
  by_cases c1 : x1 = true
  · rw [if_pos c1] at h
    refine .reg' [0, 1, 15] [.no, .c ⟨54, [(I a0), (I 1), (I 100)], [], (B x1), [], [], [], [], (B x1), []⟩, .no, .v (B false)] ⟨[(0, (I a0)), (1, (.sl true a1.length 2 (a1.flatMap e117))), (15, (B (decide ((a1.length : Int) > 12))))], [], [COK (hget []) [(I a0), (I 1), (I 100)] ⟨54, [(I a0), (I 1), (I 100)], [], (B x1), [], [], [], [], (B x1), []⟩, (B (!x1) : V) = B false], [⟨54, [(I a0), (I 1), (I 100)], [], (B x1), [], [], [], [], (B x1), []⟩]⟩ [c_ 13, c_ 7] (alc (cok0 false (a2c (.z .s) (a2c (.z .s) (a2c (.z .s) a2n))) (.z .s) (fun h => absurd h (by decide))) (alc (bF (nF c1)) aln)) (acal (spec_l01In.J a0 1 100 _ hx1) nocal) ?_
    by_cases c2 : (a1.length : Int) > 12
    · rw [if_pos c2] at h
      refine .cond' (.tmp 15) true [c_ 52, c_ 53, c_ 7] (bT (dT c2)) ?_
      refine .reg' [4] [] ⟨[(4, (B false))], [], [], []⟩ [c_ 53, c_ 7] aln nocal ?_
      have h := Option.some.inj h
      subst h
      exact .fin0 [] (B false) [] aln (.z .s)
    · rw [if_neg c2] at h
      refine .cond' (.tmp 15) false [c_ 14, c_ 15] (bF (dF c2)) ?_
      refine .reg' [0, 1, 5] [] ⟨[(0, (I a0)), (1, (.sl true a1.length 2 (a1.flatMap e117))), (5, (I (-1)))], [], [], []⟩ [c_ 60, c_ 61, c_ 31] aln nocal ?_
      refine .reg' [0, 1, 5, 6] [] ⟨[(0, (I a0)), (1, (.sl true a1.length 2 (a1.flatMap e117))), (5, (I (-1))), (6, (I 0))], [], [], []⟩ [l_ 122, b_ 0, c_ 31] aln nocal ?_
      exact ih0 a0 a1 (-1) 0 _ h
  · rw [if_neg c1] at h
    refine .reg' [0, 1, 15] [.no, .c ⟨54, [(I a0), (I 1), (I 100)], [], (B x1), [], [], [], [], (B x1), []⟩, .no, .v (B true)] ⟨[(0, (I a0)), (1, (.sl true a1.length 2 (a1.flatMap e117))), (15, (B true))], [], [COK (hget []) [(I a0), (I 1), (I 100)] ⟨54, [(I a0), (I 1), (I 100)], [], (B x1), [], [], [], [], (B x1), []⟩, (B (!x1) : V) = B true], [⟨54, [(I a0), (I 1), (I 100)], [], (B x1), [], [], [], [], (B x1), []⟩]⟩ [c_ 13, c_ 7] (alc (cok0 false (a2c (.z .s) (a2c (.z .s) (a2c (.z .s) a2n))) (.z .s) (fun h => absurd h (by decide))) (alc (bT (nT (vF c1))) aln)) (acal (spec_l01In.J a0 1 100 _ hx1) nocal) ?_
    refine .cond' (.tmp 15) true [c_ 52, c_ 53, c_ 7] (rfl) ?_
    refine .reg' [4] [] ⟨[(4, (B false))], [], [], []⟩ [c_ 53, c_ 7] aln nocal ?_
    have h := Option.some.inj h
    subst h
    exact .fin0 [] (B false) [] aln (.z .s)
/-! spec_l05Put: function 82 -/
def spec_l05Put.l0 : Nat → (List S117) → Int → S117 → Bool → (List S117) → Int → Option (List S117)
 | 0, _, _, _, _, _, _ => none
 | k + 1, a0, a1, a2, a3, x1, x2 => (if x2 < (a0.length : Int) then (if x2 = a1 then (if a3 = true then (spec_l05Put.l0 k a0 a1 a2 a3 x1 (wrap64 (x2 + 1))) else (if (x1.length + ([a2] : List S117).length) * 16 ≤ 70368744177664 then (spec_l05Put.l0 k a0 a1 a2 a3 (x1 ++ ([a2] : List S117)) (wrap64 (x2 + 1))) else none)) else (if 0 ≤ x2 then (if (x1.length + ([(at_ a0 x2)] : List S117).length) * 16 ≤ 70368744177664 then (spec_l05Put.l0 k a0 a1 a2 a3 (x1 ++ ([(at_ a0 x2)] : List S117)) (wrap64 (x2 + 1))) else none) else none)) else (some x1))
def spec_l05Put.f (k : Nat) (a0 : (List S117)) (a1 : Int) (a2 : S117) (a3 : Bool) : Option (List S117) := (spec_l05Put.l0 k a0 a1 a2 a3 ([] : List S117) 0)
theorem spec_l05Put.lab : ∀ k, (∀ (a0 : (List S117)) (a1 : Int) (a2 : S117) (a3 : Bool) (x1 : (List S117)) (x2 : Int) (r : (List S117)), spec_l05Put.l0 k a0 a1 a2 a3 x1 x2 = some r → J prog (.run 82 [] [l_ 58, b_ 0, c_ 15] [(0, (.sl true a0.length 2 (a0.flatMap e117))), (1, (I a1)), (3, (B a3)), (6, (.pt 256 0 2)), (9, (.rf 512 0 x1.length 2 (x1.length * 2))), (10, (I x2))] [(256, [(I a2.f0), (I a2.f1)]), (512, (x1.flatMap e117))] (.rf 512 0 r.length 2 (r.length * 2)) [(512, (r.flatMap e117))]))
 | 0 => (by intro a0 a1 a2 a3 x1 x2 r h; unfold spec_l05Put.l0 at h; cases h)
 | k + 1 => by
  have ih := spec_l05Put.lab k
  have ih0 := ih
  · intro a0 a1 a2 a3 x1 x2 r h
    unfold spec_l05Put.l0 at h
    refine .loop' [c_ 464, c_ 465, c_ 233, l_ 58, b_ 0, c_ 15] ?_
    refine .reg' [0, 1, 3, 6, 9, 10, 15] [] ⟨[(0, (.sl true a0.length 2 (a0.flatMap e117))), (1, (I a1)), (3, (B a3)), (6, (.pt 256 0 2)), (9, (.rf 512 0 x1.length 2 (x1.length * 2))), (10, (I x2)), (15, (B (decide (x2 < (a0.length : Int)))))], [(256, [(I a2.f0), (I a2.f1)]), (512, (x1.flatMap e117))], [], []⟩ [c_ 465, c_ 233, l_ 58, b_ 0, c_ 15] aln nocal ?_
    by_cases c1 : x2 < (a0.length : Int)
    · rw [if_pos c1] at h
      refine .cond' (.tmp 15) true [c_ 1864, c_ 1865, b_ 1, c_ 467, l_ 58, b_ 0, c_ 15] (bT (dT c1)) ?_
      refine .reg' [0, 1, 3, 6, 9, 10, 20] [] ⟨[(0, (.sl true a0.length 2 (a0.flatMap e117))), (1, (I a1)), (3, (B a3)), (6, (.pt 256 0 2)), (9, (.rf 512 0 x1.length 2 (x1.length * 2))), (10, (I x2)), (20, (B (!(x2 == a1))))], [(256, [(I a2.f0), (I a2.f1)]), (512, (x1.flatMap e117))], [], []⟩ [c_ 1865, b_ 1, c_ 467, l_ 58, b_ 0, c_ 15] aln nocal ?_
      by_cases c2 : x2 = a1
      · rw [if_pos c2] at h
        refine .cond' (.tmp 20) false [c_ 7462, c_ 7463, b_ 1, c_ 467, l_ 58, b_ 0, c_ 15] (bF (nF (qT c2))) ?_
        refine .reg' [0, 1, 3, 6, 9, 10, 29] [] ⟨[(0, (.sl true a0.length 2 (a0.flatMap e117))), (1, (I a1)), (3, (B a3)), (6, (.pt 256 0 2)), (9, (.rf 512 0 x1.length 2 (x1.length * 2))), (10, (I x2)), (29, (B (!a3)))], [(256, [(I a2.f0), (I a2.f1)]), (512, (x1.flatMap e117))], [], []⟩ [c_ 7463, b_ 1, c_ 467, l_ 58, b_ 0, c_ 15] aln nocal ?_
        by_cases c3 : a3 = true
        · rw [if_pos c3] at h
          refine .cond' (.tmp 29) false [c_ 467, l_ 58, b_ 0, c_ 15] (bF (nF c3)) ?_
          refine .reg' [0, 1, 3, 6, 9, 10] [] ⟨[(0, (.sl true a0.length 2 (a0.flatMap e117))), (1, (I a1)), (3, (B a3)), (6, (.pt 256 0 2)), (9, (.rf 512 0 x1.length 2 (x1.length * 2))), (10, (I (wrap64 (x2 + 1))))], [(256, [(I a2.f0), (I a2.f1)]), (512, (x1.flatMap e117))], [], []⟩ [l_ 58, b_ 0, c_ 15] aln nocal ?_
          exact ih0 a0 a1 a2 a3 x1 (wrap64 (x2 + 1)) _ h
        · rw [if_neg c3] at h
          refine .cond' (.tmp 29) true [c_ 14926, b_ 1, c_ 467, l_ 58, b_ 0, c_ 15] (bT (nT (vF c3))) ?_
          by_cases c4 : (x1.length + ([a2] : List S117).length) * 16 ≤ 70368744177664
          · rw [if_pos c4] at h
            refine .reg' [0, 1, 3, 6, 9, 10] [.no, .no, .no, .w (.rf 512 0 ((x1 ++ ([a2] : List S117)).length) 2 ((x1 ++ ([a2] : List S117)).length * 2)) ((x1 ++ ([a2] : List S117)).flatMap e117)] ⟨[(0, (.sl true a0.length 2 (a0.flatMap e117))), (1, (I a1)), (3, (B a3)), (6, (.pt 256 0 2)), (9, (.rf 512 0 ((x1 ++ ([a2] : List S117)).length) 2 ((x1 ++ ([a2] : List S117)).length * 2))), (10, (I x2))], [(256, [(I a2.f0), (I a2.f1)]), (512, ((x1 ++ ([a2] : List S117)).flatMap e117)), (2306, (([a2] : List S117).flatMap e117))], [2 = 2 ∧ 0 + 2 ≤ 2, V.rf 512 0 (x1.length + ([a2] : List S117).length) 2 (x1.length * 2 + ([a2] : List S117).length * 2) = (.rf 512 0 ((x1 ++ ([a2] : List S117)).length) 2 ((x1 ++ ([a2] : List S117)).length * 2)), x1.flatMap e117 ++ (((([a2] : List S117).flatMap e117).drop 0).take (([a2] : List S117).length * 2)) = ((x1 ++ ([a2] : List S117)).flatMap e117), (([a2] : List S117).length * 2 = (([a2] : List S117).flatMap e117).length ∧ 0 + ([a2] : List S117).length * 2 ≤ (([a2] : List S117).flatMap e117).length) ∧ x1.length * 2 = (x1.flatMap e117).length ∧ x1.length * 2 = (x1.flatMap e117).length ∧ (x1.length + ([a2] : List S117).length) * 16 ≤ 70368744177664], []⟩ [c_ 467, l_ 58, b_ 0, c_ 15] (alc ⟨rfl, by decide⟩ (alc (apV rfl) (alc (apR e117_ok rfl) (alc (apO e117_ok rfl c4 rfl) aln)))) nocal ?_
            refine .reg' [0, 1, 3, 6, 9, 10] [] ⟨[(0, (.sl true a0.length 2 (a0.flatMap e117))), (1, (I a1)), (3, (B a3)), (6, (.pt 256 0 2)), (9, (.rf 512 0 ((x1 ++ ([a2] : List S117)).length) 2 ((x1 ++ ([a2] : List S117)).length * 2))), (10, (I (wrap64 (x2 + 1))))], [(256, [(I a2.f0), (I a2.f1)]), (512, ((x1 ++ ([a2] : List S117)).flatMap e117)), (2306, (([a2] : List S117).flatMap e117))], [], []⟩ [l_ 58, b_ 0, c_ 15] aln nocal ?_
            refine .wk' [] [(256, 256), (512, 512)] [(0, (.sl true a0.length 2 (a0.flatMap e117))), (1, (I a1)), (3, (B a3)), (6, (.pt 256 0 2)), (9, (.rf 512 0 ((x1 ++ ([a2] : List S117)).length) 2 ((x1 ++ ([a2] : List S117)).length * 2))), (10, (I (wrap64 (x2 + 1))))] [(256, [(I a2.f0), (I a2.f1)]), (512, ((x1 ++ ([a2] : List S117)).flatMap e117))] (shc 256 (a2c (.z .s) (a2c (.z .s) a2n)) (shc 512 (rowF e117_ok _) shn)) (enc_ (.z (frz_sl e117_ok (fun h => h))) (enc_ (.z .s) (enc_ (.z .s) (enc_ (.pt (memP_mem (p := (256, 256)) rfl)) (enc_ (.rf (memP_mem (p := (512, 512)) rfl)) (enc_ (.z .s) enn)))))) ?_
            exact ih0 a0 a1 a2 a3 (x1 ++ ([a2] : List S117)) (wrap64 (x2 + 1)) _ h
          · rw [if_neg c4] at h
            cases h
      · rw [if_neg c2] at h
        refine .cond' (.tmp 20) true [c_ 3730, b_ 1, c_ 467, l_ 58, b_ 0, c_ 15] (bT (nT (qF c2))) ?_
        by_cases c5 : 0 ≤ x2
        · rw [if_pos c5] at h
          by_cases c6 : (x1.length + ([(at_ a0 x2)] : List S117).length) * 16 ≤ 70368744177664
          · rw [if_pos c6] at h
            refine .reg' [0, 1, 3, 6, 9, 10] [.no, .no, .no, .no, .v (.ag [(I (at_ a0 x2).f0), (I (at_ a0 x2).f1)]), .no, .w (.rf 512 0 ((x1 ++ ([(at_ a0 x2)] : List S117)).length) 2 ((x1 ++ ([(at_ a0 x2)] : List S117)).length * 2)) ((x1 ++ ([(at_ a0 x2)] : List S117)).flatMap e117)] ⟨[(0, (.sl true a0.length 2 (a0.flatMap e117))), (1, (I a1)), (3, (B a3)), (6, (.pt 256 0 2)), (9, (.rf 512 0 ((x1 ++ ([(at_ a0 x2)] : List S117)).length) 2 ((x1 ++ ([(at_ a0 x2)] : List S117)).length * 2))), (10, (I x2))], [(256, [(I a2.f0), (I a2.f1)]), (512, ((x1 ++ ([(at_ a0 x2)] : List S117)).flatMap e117)), (1797, (([(at_ a0 x2)] : List S117).flatMap e117))], [(0 : Int) ≤ x2 ∧ x2 < (a0.length : Int), rdC prog 118 ((a0.flatMap e117).drop (x2.toNat * 2)) = (.ag [(I (at_ a0 x2).f0), (I (at_ a0 x2).f1)]), 2 ≤ ((a0.flatMap e117).drop (x2.toNat * 2)).length, V.rf 512 0 (x1.length + ([(at_ a0 x2)] : List S117).length) 2 (x1.length * 2 + ([(at_ a0 x2)] : List S117).length * 2) = (.rf 512 0 ((x1 ++ ([(at_ a0 x2)] : List S117)).length) 2 ((x1 ++ ([(at_ a0 x2)] : List S117)).length * 2)), x1.flatMap e117 ++ (((([(at_ a0 x2)] : List S117).flatMap e117).drop 0).take (([(at_ a0 x2)] : List S117).length * 2)) = ((x1 ++ ([(at_ a0 x2)] : List S117)).flatMap e117), (([(at_ a0 x2)] : List S117).length * 2 = (([(at_ a0 x2)] : List S117).flatMap e117).length ∧ 0 + ([(at_ a0 x2)] : List S117).length * 2 ≤ (([(at_ a0 x2)] : List S117).flatMap e117).length) ∧ x1.length * 2 = (x1.flatMap e117).length ∧ x1.length * 2 = (x1.flatMap e117).length ∧ (x1.length + ([(at_ a0 x2)] : List S117).length) * 16 ≤ 70368744177664], []⟩ [c_ 467, l_ 58, b_ 0, c_ 15] (alc ⟨c5, c1⟩ (alc (ldA e117_ok rfl rfl c5 c1) (alc (okI e117_ok c5 c1 (by decide)) (alc (apV rfl) (alc (apR e117_ok rfl) (alc (apO e117_ok rfl c6 rfl) aln)))))) nocal ?_
            refine .reg' [0, 1, 3, 6, 9, 10] [] ⟨[(0, (.sl true a0.length 2 (a0.flatMap e117))), (1, (I a1)), (3, (B a3)), (6, (.pt 256 0 2)), (9, (.rf 512 0 ((x1 ++ ([(at_ a0 x2)] : List S117)).length) 2 ((x1 ++ ([(at_ a0 x2)] : List S117)).length * 2))), (10, (I (wrap64 (x2 + 1))))], [(256, [(I a2.f0), (I a2.f1)]), (512, ((x1 ++ ([(at_ a0 x2)] : List S117)).flatMap e117)), (1797, (([(at_ a0 x2)] : List S117).flatMap e117))], [], []⟩ [l_ 58, b_ 0, c_ 15] aln nocal ?_
            refine .wk' [] [(256, 256), (512, 512)] [(0, (.sl true a0.length 2 (a0.flatMap e117))), (1, (I a1)), (3, (B a3)), (6, (.pt 256 0 2)), (9, (.rf 512 0 ((x1 ++ ([(at_ a0 x2)] : List S117)).length) 2 ((x1 ++ ([(at_ a0 x2)] : List S117)).length * 2))), (10, (I (wrap64 (x2 + 1))))] [(256, [(I a2.f0), (I a2.f1)]), (512, ((x1 ++ ([(at_ a0 x2)] : List S117)).flatMap e117))] (shc 256 (a2c (.z .s) (a2c (.z .s) a2n)) (shc 512 (rowF e117_ok _) shn)) (enc_ (.z (frz_sl e117_ok (fun h => h))) (enc_ (.z .s) (enc_ (.z .s) (enc_ (.pt (memP_mem (p := (256, 256)) rfl)) (enc_ (.rf (memP_mem (p := (512, 512)) rfl)) (enc_ (.z .s) enn)))))) ?_
            exact ih0 a0 a1 a2 a3 (x1 ++ ([(at_ a0 x2)] : List S117)) (wrap64 (x2 + 1)) _ h
          · rw [if_neg c6] at h
            cases h
        · rw [if_neg c5] at h
          cases h
    · rw [if_neg c1] at h
      refine .cond' (.tmp 15) false [c_ 30, c_ 31] (bF (dF c1)) ?_
      refine .reg' [8] [] ⟨[(8, (.rf 512 0 x1.length 2 (x1.length * 2)))], [(256, [(I a2.f0), (I a2.f1)]), (512, (x1.flatMap e117))], [], []⟩ [c_ 31] aln nocal ?_
      have h := Option.some.inj h
      subst h
      exact .fin' [] [(512, 512)] (.rf 512 0 x1.length 2 (x1.length * 2)) [] aln (shc 512 (rowF e117_ok _) shn) (.rf (memP_mem (p := (512, 512)) rfl))
theorem spec_l05Put.J (k : Nat) (a0 : (List S117)) (a1 : Int) (a2 : S117) (a3 : Bool) (r : (List S117)) (h : spec_l05Put.f k a0 a1 a2 a3 = some r) : J prog (.call 82 [(.sl true a0.length 2 (a0.flatMap e117)), (I a1), (.ag [(I a2.f0), (I a2.f1)]), (B a3)] [] (.rf 512 0 r.length 2 (r.length * 2)) [(512, (r.flatMap e117))]) := by
  unfold spec_l05Put.f at h
  have ih0 := spec_l05Put.lab k
  refine .call' [c_ 2, c_ 3] ?_
  refine .reg' [0, 1, 3, 6] [] ⟨[(0, (.sl true a0.length 2 (a0.flatMap e117))), (1, (I a1)), (3, (B a3)), (6, (.pt 256 0 2))], [(256, [(I a2.f0), (I a2.f1)])], [], []⟩ [c_ 6, c_ 7] aln nocal ?_
  refine .reg' [0, 1, 3, 6, 9] [] ⟨[(0, (.sl true a0.length 2 (a0.flatMap e117))), (1, (I a1)), (3, (B a3)), (6, (.pt 256 0 2)), (9, (.rf 512 0 (([] : List S117).length) 2 (([] : List S117).length * 2)))], [(256, [(I a2.f0), (I a2.f1)]), (512, (([] : List S117).flatMap e117))], [], []⟩ [c_ 28, c_ 29, c_ 15] aln nocal ?_
  refine .reg' [0, 1, 3, 6, 9, 10] [] ⟨[(0, (.sl true a0.length 2 (a0.flatMap e117))), (1, (I a1)), (3, (B a3)), (6, (.pt 256 0 2)), (9, (.rf 512 0 (([] : List S117).length) 2 (([] : List S117).length * 2))), (10, (I 0))], [(256, [(I a2.f0), (I a2.f1)]), (512, (([] : List S117).flatMap e117))], [], []⟩ [l_ 58, b_ 0, c_ 15] aln nocal ?_
  exact ih0 a0 a1 a2 a3 ([] : List S117) 0 _ h
/-! spec_TakenBy: function 110 -/
mutual
def spec_TakenBy.l0 : Nat → Int → (List S117) → (List Bool) → Int → Option (List Bool)
 | 0, _, _, _, _ => none
 | k + 1, a0, a1, x2, x3 => (if x3 < a0 then (spec_TakenBy.l1 k a0 a1 x2 x3 false 0) else (some x2))
def spec_TakenBy.l1 : Nat → Int → (List S117) → (List Bool) → Int → Bool → Int → Option (List Bool)
 | 0, _, _, _, _, _, _ => none
 | k + 1, a0, a1, x2, x3, x4, x5 => (if x5 < (a1.length : Int) then (if 0 ≤ x5 then ((spec_l01In.f x3 ((at_ a1 x5).f0) ((at_ a1 x5).f1)).bind fun x6 => (if x6 = true then (spec_TakenBy.l1 k a0 a1 x2 x3 true (wrap64 (x5 + 1))) else (spec_TakenBy.l1 k a0 a1 x2 x3 x4 (wrap64 (x5 + 1))))) else none) else (if (x2.length + ([x4] : List Bool).length) * 1 ≤ 70368744177664 then (spec_TakenBy.l0 k a0 a1 (x2 ++ ([x4] : List Bool)) (wrap64 (x3 + 1))) else none))
end
def spec_TakenBy.f (k : Nat) (a0 : Int) (a1 : (List S117)) : Option (List Bool) := ((spec_TrainsOk.f k a0 a1).bind fun x1 => (if x1 = true then (spec_TakenBy.l0 k a0 a1 ([] : List Bool) 0) else (some ([] : List Bool))))
theorem spec_TakenBy.lab : ∀ k, (∀ (a0 : Int) (a1 : (List S117)) (x2 : (List Bool)) (x3 : Int) (r : (List Bool)), spec_TakenBy.l0 k a0 a1 x2 x3 = some r → J prog (.run 110 [] [l_ 122, b_ 0, c_ 31] [(0, (I a0)), (1, (.sl true a1.length 2 (a1.flatMap e117))), (5, (.rf 1024 0 x2.length 1 (x2.length * 1))), (6, (I x3))] [(1024, (x2.flatMap encB))] (.rf 1024 0 r.length 1 (r.length * 1)) [(1024, (r.flatMap encB))])) ∧ (∀ (a0 : Int) (a1 : (List S117)) (x2 : (List Bool)) (x3 : Int) (x4 : Bool) (x5 : Int) (r : (List Bool)), spec_TakenBy.l1 k a0 a1 x2 x3 x4 x5 = some r → J prog (.run 110 [] [l_ 31306, b_ 2, c_ 7827, b_ 1, c_ 979, l_ 122, b_ 0, c_ 31] [(0, (I a0)), (1, (.sl true a1.length 2 (a1.flatMap e117))), (5, (.rf 1024 0 x2.length 1 (x2.length * 1))), (6, (I x3)), (7, (B x4)), (8, (I x5))] [(1024, (x2.flatMap encB))] (.rf 1024 0 r.length 1 (r.length * 1)) [(1024, (r.flatMap encB))]))
 | 0 => ⟨(by intro a0 a1 x2 x3 r h; unfold spec_TakenBy.l0 at h; cases h), (by intro a0 a1 x2 x3 x4 x5 r h; unfold spec_TakenBy.l1 at h; cases h)⟩
 | k + 1 => by
  obtain ⟨ih0, ih1⟩ := spec_TakenBy.lab k
  refine ⟨?_, ?_⟩
  · intro a0 a1 x2 x3 r h
    unfold spec_TakenBy.l0 at h
    refine .loop' [c_ 976, c_ 977, c_ 489, l_ 122, b_ 0, c_ 31] ?_
    refine .reg' [0, 1, 5, 6, 16] [] ⟨[(0, (I a0)), (1, (.sl true a1.length 2 (a1.flatMap e117))), (5, (.rf 1024 0 x2.length 1 (x2.length * 1))), (6, (I x3)), (16, (B (decide (x3 < a0))))], [(1024, (x2.flatMap encB))], [], []⟩ [c_ 977, c_ 489, l_ 122, b_ 0, c_ 31] aln nocal ?_
    by_cases c2 : x3 < a0
    · rw [if_pos c2] at h
      refine .cond' (.tmp 16) true [c_ 3912, c_ 3913, b_ 1, c_ 979, l_ 122, b_ 0, c_ 31] (bT (dT c2)) ?_
      refine .reg' [0, 1, 5, 6, 7] [] ⟨[(0, (I a0)), (1, (.sl true a1.length 2 (a1.flatMap e117))), (5, (.rf 1024 0 x2.length 1 (x2.length * 1))), (6, (I x3)), (7, (B false))], [(1024, (x2.flatMap encB))], [], []⟩ [c_ 15652, c_ 15653, c_ 7827, b_ 1, c_ 979, l_ 122, b_ 0, c_ 31] aln nocal ?_
      refine .reg' [0, 1, 5, 6, 7, 8] [] ⟨[(0, (I a0)), (1, (.sl true a1.length 2 (a1.flatMap e117))), (5, (.rf 1024 0 x2.length 1 (x2.length * 1))), (6, (I x3)), (7, (B false)), (8, (I 0))], [(1024, (x2.flatMap encB))], [], []⟩ [l_ 31306, b_ 2, c_ 7827, b_ 1, c_ 979, l_ 122, b_ 0, c_ 31] aln nocal ?_
      exact ih1 a0 a1 x2 x3 false 0 _ h
    · rw [if_neg c2] at h
      refine .cond' (.tmp 16) false [c_ 62, c_ 63] (bF (dF c2)) ?_
      refine .reg' [4] [] ⟨[(4, (.rf 1024 0 x2.length 1 (x2.length * 1)))], [(1024, (x2.flatMap encB))], [], []⟩ [c_ 63] aln nocal ?_
      have h := Option.some.inj h
      subst h
      exact .fin' [] [(1024, 1024)] (.rf 1024 0 x2.length 1 (x2.length * 1)) [] aln (shc 1024 (rowF encB_ok _) shn) (.rf (memP_mem (p := (1024, 1024)) rfl))
  · intro a0 a1 x2 x3 x4 x5 r h
    unfold spec_TakenBy.l1 at h
    refine .loop' [c_ 250448, c_ 250449, c_ 125225, l_ 31306, b_ 2, c_ 7827, b_ 1, c_ 979, l_ 122, b_ 0, c_ 31] ?_
    refine .reg' [0, 1, 5, 6, 7, 8, 22] [] ⟨[(0, (I a0)), (1, (.sl true a1.length 2 (a1.flatMap e117))), (5, (.rf 1024 0 x2.length 1 (x2.length * 1))), (6, (I x3)), (7, (B x4)), (8, (I x5)), (22, (B (decide (x5 < (a1.length : Int)))))], [(1024, (x2.flatMap encB))], [], []⟩ [c_ 250449, c_ 125225, l_ 31306, b_ 2, c_ 7827, b_ 1, c_ 979, l_ 122, b_ 0, c_ 31] aln nocal ?_
    by_cases c3 : x5 < (a1.length : Int)
    · rw [if_pos c3] at h
      refine .cond' (.tmp 22) true [c_ 1001800, c_ 1001801, b_ 3, c_ 250451, l_ 31306, b_ 2, c_ 7827, b_ 1, c_ 979, l_ 122, b_ 0, c_ 31] (bT (dT c3)) ?_
      by_cases c4 : 0 ≤ x5
      · rw [if_pos c4] at h
        obtain ⟨x6, hx6, h⟩ := Option.bind_eq_some_iff.mp h
        refine .reg' [0, 1, 5, 6, 7, 8, 36] [.no, .no, .no, .no, .no, .v (I (at_ a1 x5).f0), .no, .no, .no, .no, .v (I (at_ a1 x5).f1), .c ⟨54, [(I x3), (I (at_ a1 x5).f0), (I (at_ a1 x5).f1)], [], (B x6), [], [], [], [], (B x6), []⟩] ⟨[(0, (I a0)), (1, (.sl true a1.length 2 (a1.flatMap e117))), (5, (.rf 1024 0 x2.length 1 (x2.length * 1))), (6, (I x3)), (7, (B x4)), (8, (I x5)), (36, (B x6))], [(1024, (x2.flatMap encB))], [(0 : Int) ≤ x5 ∧ x5 < (a1.length : Int), rdC prog 3 (((a1.flatMap e117).drop (x5.toNat * 2)).drop 0) = (I (at_ a1 x5).f0), 1 ≤ (((a1.flatMap e117).drop (x5.toNat * 2)).drop 0).length, (0 : Int) ≤ x5 ∧ x5 < (a1.length : Int), rdC prog 3 (((a1.flatMap e117).drop (x5.toNat * 2)).drop 1) = (I (at_ a1 x5).f1), 1 ≤ (((a1.flatMap e117).drop (x5.toNat * 2)).drop 1).length, COK (hget [(1024, (x2.flatMap encB))]) [(I x3), (I (at_ a1 x5).f0), (I (at_ a1 x5).f1)] ⟨54, [(I x3), (I (at_ a1 x5).f0), (I (at_ a1 x5).f1)], [], (B x6), [], [], [], [], (B x6), []⟩], [⟨54, [(I x3), (I (at_ a1 x5).f0), (I (at_ a1 x5).f1)], [], (B x6), [], [], [], [], (B x6), []⟩]⟩ [c_ 1001801, b_ 3, c_ 250451, l_ 31306, b_ 2, c_ 7827, b_ 1, c_ 979, l_ 122, b_ 0, c_ 31] (alc ⟨c4, c3⟩ (alc (ldC e117_ok 0 (by decide) rfl c4 c3) (alc (okIj e117_ok c4 c3 (by decide)) (alc ⟨c4, c3⟩ (alc (ldC e117_ok 1 (by decide) rfl c4 c3) (alc (okIj e117_ok c4 c3 (by decide)) (alc (cok0 false (a2c (.z .s) (a2c (.z .s) (a2c (.z .s) a2n))) (.z .s) (fun h => absurd h (by decide))) aln))))))) (acal (spec_l01In.J x3 ((at_ a1 x5).f0) ((at_ a1 x5).f1) _ hx6) nocal) ?_
        by_cases c5 : x6 = true
        · rw [if_pos c5] at h
          refine .cond' (.tmp 36) true [c_ 2003602, b_ 3, c_ 250451, l_ 31306, b_ 2, c_ 7827, b_ 1, c_ 979, l_ 122, b_ 0, c_ 31] (bT c5) ?_
          refine .reg' [0, 1, 5, 6, 7, 8] [] ⟨[(0, (I a0)), (1, (.sl true a1.length 2 (a1.flatMap e117))), (5, (.rf 1024 0 x2.length 1 (x2.length * 1))), (6, (I x3)), (7, (B true)), (8, (I x5))], [(1024, (x2.flatMap encB))], [], []⟩ [c_ 250451, l_ 31306, b_ 2, c_ 7827, b_ 1, c_ 979, l_ 122, b_ 0, c_ 31] aln nocal ?_
          refine .reg' [0, 1, 5, 6, 7, 8] [] ⟨[(0, (I a0)), (1, (.sl true a1.length 2 (a1.flatMap e117))), (5, (.rf 1024 0 x2.length 1 (x2.length * 1))), (6, (I x3)), (7, (B true)), (8, (I (wrap64 (x5 + 1))))], [(1024, (x2.flatMap encB))], [], []⟩ [l_ 31306, b_ 2, c_ 7827, b_ 1, c_ 979, l_ 122, b_ 0, c_ 31] aln nocal ?_
          exact ih1 a0 a1 x2 x3 true (wrap64 (x5 + 1)) _ h
        · rw [if_neg c5] at h
          refine .cond' (.tmp 36) false [c_ 250451, l_ 31306, b_ 2, c_ 7827, b_ 1, c_ 979, l_ 122, b_ 0, c_ 31] (bF (vF c5)) ?_
          refine .reg' [0, 1, 5, 6, 7, 8] [] ⟨[(0, (I a0)), (1, (.sl true a1.length 2 (a1.flatMap e117))), (5, (.rf 1024 0 x2.length 1 (x2.length * 1))), (6, (I x3)), (7, (B x4)), (8, (I (wrap64 (x5 + 1))))], [(1024, (x2.flatMap encB))], [], []⟩ [l_ 31306, b_ 2, c_ 7827, b_ 1, c_ 979, l_ 122, b_ 0, c_ 31] aln nocal ?_
          exact ih1 a0 a1 x2 x3 x4 (wrap64 (x5 + 1)) _ h
      · rw [if_neg c4] at h
        cases h
    · rw [if_neg c3] at h
      refine .cond' (.tmp 22) false [c_ 7827, b_ 1, c_ 979, l_ 122, b_ 0, c_ 31] (bF (dF c3)) ?_
      by_cases c6 : (x2.length + ([x4] : List Bool).length) * 1 ≤ 70368744177664
      · rw [if_pos c6] at h
        refine .reg' [0, 1, 5, 6] [.no, .no, .no, .w (.rf 1024 0 ((x2 ++ ([x4] : List Bool)).length) 1 ((x2 ++ ([x4] : List Bool)).length * 1)) ((x2 ++ ([x4] : List Bool)).flatMap encB)] ⟨[(0, (I a0)), (1, (.sl true a1.length 2 (a1.flatMap e117))), (5, (.rf 1024 0 ((x2 ++ ([x4] : List Bool)).length) 1 ((x2 ++ ([x4] : List Bool)).length * 1))), (6, (I x3))], [(1024, ((x2 ++ ([x4] : List Bool)).flatMap encB)), (3586, (([x4] : List Bool).flatMap encB))], [V.rf 1024 0 (x2.length + ([x4] : List Bool).length) 1 (x2.length * 1 + ([x4] : List Bool).length * 1) = (.rf 1024 0 ((x2 ++ ([x4] : List Bool)).length) 1 ((x2 ++ ([x4] : List Bool)).length * 1)), x2.flatMap encB ++ (((([x4] : List Bool).flatMap encB).drop 0).take (([x4] : List Bool).length * 1)) = ((x2 ++ ([x4] : List Bool)).flatMap encB), (([x4] : List Bool).length * 1 = (([x4] : List Bool).flatMap encB).length ∧ 0 + ([x4] : List Bool).length * 1 ≤ (([x4] : List Bool).flatMap encB).length) ∧ x2.length * 1 = (x2.flatMap encB).length ∧ x2.length * 1 = (x2.flatMap encB).length ∧ (x2.length + ([x4] : List Bool).length) * 1 ≤ 70368744177664], []⟩ [c_ 979, l_ 122, b_ 0, c_ 31] (alc (apV rfl) (alc (apR encB_ok rfl) (alc (apO encB_ok rfl c6 rfl) aln))) nocal ?_
        refine .reg' [0, 1, 5, 6] [] ⟨[(0, (I a0)), (1, (.sl true a1.length 2 (a1.flatMap e117))), (5, (.rf 1024 0 ((x2 ++ ([x4] : List Bool)).length) 1 ((x2 ++ ([x4] : List Bool)).length * 1))), (6, (I (wrap64 (x3 + 1))))], [(1024, ((x2 ++ ([x4] : List Bool)).flatMap encB)), (3586, (([x4] : List Bool).flatMap encB))], [], []⟩ [l_ 122, b_ 0, c_ 31] aln nocal ?_
        refine .wk' [] [(1024, 1024)] [(0, (I a0)), (1, (.sl true a1.length 2 (a1.flatMap e117))), (5, (.rf 1024 0 ((x2 ++ ([x4] : List Bool)).length) 1 ((x2 ++ ([x4] : List Bool)).length * 1))), (6, (I (wrap64 (x3 + 1))))] [(1024, ((x2 ++ ([x4] : List Bool)).flatMap encB))] (shc 1024 (rowF encB_ok _) shn) (enc_ (.z .s) (enc_ (.z (frz_sl e117_ok (fun h => h))) (enc_ (.rf (memP_mem (p := (1024, 1024)) rfl)) (enc_ (.z .s) enn)))) ?_
        exact ih0 a0 a1 (x2 ++ ([x4] : List Bool)) (wrap64 (x3 + 1)) _ h
      · rw [if_neg c6] at h
        cases h
theorem spec_TakenBy.J (k : Nat) (a0 : Int) (a1 : (List S117)) (r : (List Bool)) (h : spec_TakenBy.f k a0 a1 = some r) : J prog (.call 110 [(I a0), (.sl true a1.length 2 (a1.flatMap e117))] [] (.rf 1024 0 r.length 1 (r.length * 1)) [(1024, (r.flatMap encB))]) := by
  unfold spec_TakenBy.f at h
  obtain ⟨ih0, ih1⟩ := spec_TakenBy.lab k
  refine .call' [c_ 2, c_ 3] ?_
  refine .reg' [0, 1] [] ⟨[(0, (I a0)), (1, (.sl true a1.length 2 (a1.flatMap e117)))], [], [], []⟩ [c_ 12, c_ 13, c_ 7] aln nocal ?_
  obtain ⟨x1, hx1, h⟩ := Option.bind_eq_some_iff.mp h
  refine .reg' [0, 1, 12] [.no, .no, .c ⟨81, [(I a0), (.sl true a1.length 2 (a1.flatMap e117))], [], (B x1), [], [], [], [], (B x1), []⟩] ⟨[(0, (I a0)), (1, (.sl true a1.length 2 (a1.flatMap e117))), (12, (B (!x1)))], [], [COK (hget []) [(I a0), (.sl true a1.length 2 (a1.flatMap e117))] ⟨81, [(I a0), (.sl true a1.length 2 (a1.flatMap e117))], [], (B x1), [], [], [], [], (B x1), []⟩], [⟨81, [(I a0), (.sl true a1.length 2 (a1.flatMap e117))], [], (B x1), [], [], [], [], (B x1), []⟩]⟩ [c_ 13, c_ 7] (alc (cok0 false (a2c (.z .s) (a2c (.z (frz_sl e117_ok (fun h => h))) a2n)) (.z .s) (fun h => absurd h (by decide))) aln) (acal (spec_TrainsOk.J k a0 a1 _ hx1) nocal) ?_
  by_cases c1 : x1 = true
  · rw [if_pos c1] at h
    refine .cond' (.tmp 12) false [c_ 14, c_ 15] (bF (nF c1)) ?_
    refine .reg' [0, 1, 5] [] ⟨[(0, (I a0)), (1, (.sl true a1.length 2 (a1.flatMap e117))), (5, (.rf 1024 0 (([] : List Bool).length) 1 (([] : List Bool).length * 1)))], [(1024, (([] : List Bool).flatMap encB))], [], []⟩ [c_ 60, c_ 61, c_ 31] aln nocal ?_
    refine .reg' [0, 1, 5, 6] [] ⟨[(0, (I a0)), (1, (.sl true a1.length 2 (a1.flatMap e117))), (5, (.rf 1024 0 (([] : List Bool).length) 1 (([] : List Bool).length * 1))), (6, (I 0))], [(1024, (([] : List Bool).flatMap encB))], [], []⟩ [l_ 122, b_ 0, c_ 31] aln nocal ?_
    exact ih0 a0 a1 ([] : List Bool) 0 _ h
  · rw [if_neg c1] at h
    refine .cond' (.tmp 12) true [c_ 52, c_ 53, c_ 7] (bT (nT (vF c1))) ?_
    refine .reg' [4] [] ⟨[(4, nilS)], [], [], []⟩ [c_ 53, c_ 7] aln nocal ?_
    have h := Option.some.inj h
    subst h
    refine .nl' 1024 ?_
    exact .fin' [] [(1024, 1024)] nilS [] aln (shc 1024 (rowF encB_ok _) shn) (.nl (memP_mem (p := (1024, 1024)) rfl) rfl)
/-! spec_FreeFrom: function 125 -/
def spec_FreeFrom.l0 : Nat → (List Bool) → Int → Int → Option Int
 | 0, _, _, _ => none
 | k + 1, a0, a1, x2 => (if (wrap64 (a1 + x2)) < (a0.length : Int) then (if 0 ≤ (wrap64 (a1 + x2)) then (if (at_ a0 (wrap64 (a1 + x2))) = true then (some x2) else (spec_FreeFrom.l0 k a0 a1 (wrap64 (x2 + 1)))) else none) else (some x2))
def spec_FreeFrom.f (k : Nat) (a0 : (List Bool)) (a1 : Int) : Option Int := (if (a0.length : Int) > 100 then (some 0) else ((spec_l01In.f a1 0 (wrap64 ((a0.length : Int) - 1))).bind fun x1 => (if x1 = true then (spec_FreeFrom.l0 k a0 a1 0) else (some 0))))
theorem spec_FreeFrom.lab : ∀ k, (∀ (a0 : (List Bool)) (a1 : Int) (x2 : Int) (r : Int), spec_FreeFrom.l0 k a0 a1 x2 = some r → J prog (.run 125 [] [l_ 60, b_ 0, c_ 31] [(0, (.sl true a0.length 1 (a0.flatMap encB))), (1, (I a1)), (5, (I x2))] [] (I r) []))
 | 0 => (by intro a0 a1 x2 r h; unfold spec_FreeFrom.l0 at h; cases h)
 | k + 1 => by
  have ih := spec_FreeFrom.lab k
  have ih0 := ih
  · intro a0 a1 x2 r h
    unfold spec_FreeFrom.l0 at h
    refine .loop' [c_ 480, c_ 481, c_ 241, l_ 60, b_ 0, c_ 31] ?_
    by_cases c3 : (wrap64 (a1 + x2)) < (a0.length : Int)
    · rw [if_pos c3] at h
      by_cases c4 : 0 ≤ (wrap64 (a1 + x2))
      · rw [if_pos c4] at h
        refine .reg' [0, 1, 5, 31] [.no, .no, .no, .no, .no, .no, .v (B true), .no, .no, .no, .no, .no, .v (B (at_ a0 (wrap64 (a1 + x2))))] ⟨[(0, (.sl true a0.length 1 (a0.flatMap encB))), (1, (I a1)), (5, (I x2)), (31, (B (!(at_ a0 (wrap64 (a1 + x2))))))], [], [(B (decide ((wrap64 (a1 + x2)) < (a0.length : Int))) : V) = B true, (0 : Int) ≤ (wrap64 (a1 + x2)) ∧ (wrap64 (a1 + x2)) < (a0.length : Int), rdC prog 4 ((a0.flatMap encB).drop ((wrap64 (a1 + x2)).toNat * 1)) = (B (at_ a0 (wrap64 (a1 + x2)))), 1 ≤ ((a0.flatMap encB).drop ((wrap64 (a1 + x2)).toNat * 1)).length], []⟩ [c_ 481, c_ 241, l_ 60, b_ 0, c_ 31] (alc (bT (dT c3)) (alc ⟨c4, c3⟩ (alc (ldC1 encB_ok rfl c4 c3) (alc (okI encB_ok c4 c3 (by decide)) aln)))) nocal ?_
        by_cases c5 : (at_ a0 (wrap64 (a1 + x2))) = true
        · rw [if_pos c5] at h
          refine .cond' (.tmp 31) false [c_ 62, c_ 63] (bF (nF c5)) ?_
          refine .reg' [4] [] ⟨[(4, (I x2))], [], [], []⟩ [c_ 63] aln nocal ?_
          have h := Option.some.inj h
          subst h
          exact .fin0 [] (I x2) [] aln (.z .s)
        · rw [if_neg c5] at h
          refine .cond' (.tmp 31) true [c_ 482, b_ 1, l_ 60, b_ 0, c_ 31] (bT (nT (vF c5))) ?_
          refine .reg' [0, 1, 5] [] ⟨[(0, (.sl true a0.length 1 (a0.flatMap encB))), (1, (I a1)), (5, (I (wrap64 (x2 + 1))))], [], [], []⟩ [l_ 60, b_ 0, c_ 31] aln nocal ?_
          exact ih0 a0 a1 (wrap64 (x2 + 1)) _ h
      · rw [if_neg c4] at h
        cases h
    · rw [if_neg c3] at h
      refine .reg' [0, 1, 5, 31] [.no, .no, .no, .no, .no, .no, .v (B false)] ⟨[(0, (.sl true a0.length 1 (a0.flatMap encB))), (1, (I a1)), (5, (I x2)), (31, (B false))], [], [(B (decide ((wrap64 (a1 + x2)) < (a0.length : Int))) : V) = B false], []⟩ [c_ 481, c_ 241, l_ 60, b_ 0, c_ 31] (alc (bF (dF c3)) aln) nocal ?_
      refine .cond' (.tmp 31) false [c_ 62, c_ 63] (rfl) ?_
      refine .reg' [4] [] ⟨[(4, (I x2))], [], [], []⟩ [c_ 63] aln nocal ?_
      have h := Option.some.inj h
      subst h
      exact .fin0 [] (I x2) [] aln (.z .s)
theorem spec_FreeFrom.J (k : Nat) (a0 : (List Bool)) (a1 : Int) (r : Int) (h : spec_FreeFrom.f k a0 a1 = some r) : J prog (.call 125 [(.sl true a0.length 1 (a0.flatMap encB)), (I a1)] [] (I r) []) := by
  unfold spec_FreeFrom.f at h
  have ih0 := spec_FreeFrom.lab k
  refine .call' [c_ 2, c_ 3] ?_
  refine .reg' [0, 1] [] ⟨[(0, (.sl true a0.length 1 (a0.flatMap encB))), (1, (I a1))], [], [], []⟩ [c_ 12, c_ 13, c_ 7] aln nocal ?_
  by_cases c1 : (a0.length : Int) > 100
  · rw [if_pos c1] at h
    refine .reg' [0, 1, 16] [.no, .no, .no, .v (B true)] ⟨[(0, (.sl true a0.length 1 (a0.flatMap encB))), (1, (I a1)), (16, (B true))], [], [(B (decide ((a0.length : Int) > 100)) : V) = B true], []⟩ [c_ 13, c_ 7] (alc (bT (dT c1)) aln) nocal ?_
    refine .cond' (.tmp 16) true [c_ 52, c_ 53, c_ 7] (rfl) ?_
    refine .reg' [4] [] ⟨[(4, (I 0))], [], [], []⟩ [c_ 53, c_ 7] aln nocal ?_
    have h := Option.some.inj h
    subst h
    exact .fin0 [] (I 0) [] aln (.z .s)
  · rw [if_neg c1] at h
    obtain ⟨x1, hx1, h⟩ := Option.bind_eq_some_iff.mp h
    refine .reg' [0, 1, 16] [.no, .no, .no, .v (B false), .no, .no, .no, .no, .c ⟨54, [(I a1), (I 0), (I (wrap64 ((a0.length : Int) - 1)))], [], (B x1), [], [], [], [], (B x1), []⟩] ⟨[(0, (.sl true a0.length 1 (a0.flatMap encB))), (1, (I a1)), (16, (B (!x1)))], [], [(B (decide ((a0.length : Int) > 100)) : V) = B false, COK (hget []) [(I a1), (I 0), (I (wrap64 ((a0.length : Int) - 1)))] ⟨54, [(I a1), (I 0), (I (wrap64 ((a0.length : Int) - 1)))], [], (B x1), [], [], [], [], (B x1), []⟩], [⟨54, [(I a1), (I 0), (I (wrap64 ((a0.length : Int) - 1)))], [], (B x1), [], [], [], [], (B x1), []⟩]⟩ [c_ 13, c_ 7] (alc (bF (dF c1)) (alc (cok0 false (a2c (.z .s) (a2c (.z .s) (a2c (.z .s) a2n))) (.z .s) (fun h => absurd h (by decide))) aln)) (acal (spec_l01In.J a1 0 (wrap64 ((a0.length : Int) - 1)) _ hx1) nocal) ?_
    by_cases c2 : x1 = true
    · rw [if_pos c2] at h
      refine .cond' (.tmp 16) false [c_ 14, c_ 15] (bF (nF c2)) ?_
      refine .reg' [0, 1, 5] [] ⟨[(0, (.sl true a0.length 1 (a0.flatMap encB))), (1, (I a1)), (5, (I 0))], [], [], []⟩ [l_ 60, b_ 0, c_ 31] aln nocal ?_
      exact ih0 a0 a1 0 _ h
    · rw [if_neg c2] at h
      refine .cond' (.tmp 16) true [c_ 52, c_ 53, c_ 7] (bT (nT (vF c2))) ?_
      refine .reg' [4] [] ⟨[(4, (I 0))], [], [], []⟩ [c_ 53, c_ 7] aln nocal ?_
      have h := Option.some.inj h
      subst h
      exact .fin0 [] (I 0) [] aln (.z .s)
/-! spec_Aspects: function 109 -/
def spec_Aspects.l0 : Nat → (List Bool) → Int → (List Int) → Int → Option (List Int)
 | 0, _, _, _, _ => none
 | k + 1, a0, a1, x2, x3 => (if x3 < (a0.length : Int) then ((spec_FreeFrom.f k a0 x3).bind fun x4 => (if (wrap64 (x3 + x4)) = (a0.length : Int) then (if (wrap64 (x4 + a1)) > 3 then (if (x2.length + ([3] : List Int).length) * 8 ≤ 70368744177664 then (spec_Aspects.l0 k a0 a1 (x2 ++ ([3] : List Int)) (wrap64 (x3 + 1))) else none) else (if (x2.length + ([(wrap64 (x4 + a1))] : List Int).length) * 8 ≤ 70368744177664 then (spec_Aspects.l0 k a0 a1 (x2 ++ ([(wrap64 (x4 + a1))] : List Int)) (wrap64 (x3 + 1))) else none)) else (if x4 > 3 then (if (x2.length + ([3] : List Int).length) * 8 ≤ 70368744177664 then (spec_Aspects.l0 k a0 a1 (x2 ++ ([3] : List Int)) (wrap64 (x3 + 1))) else none) else (if (x2.length + ([x4] : List Int).length) * 8 ≤ 70368744177664 then (spec_Aspects.l0 k a0 a1 (x2 ++ ([x4] : List Int)) (wrap64 (x3 + 1))) else none)))) else (some x2))
def spec_Aspects.f (k : Nat) (a0 : (List Bool)) (a1 : Int) : Option (List Int) := (if (a0.length : Int) > 100 then (some ([] : List Int)) else ((spec_l01In.f a1 0 3).bind fun x1 => (if x1 = true then (spec_Aspects.l0 k a0 a1 ([] : List Int) 0) else (some ([] : List Int)))))
theorem spec_Aspects.lab : ∀ k, (∀ (a0 : (List Bool)) (a1 : Int) (x2 : (List Int)) (x3 : Int) (r : (List Int)), spec_Aspects.l0 k a0 a1 x2 x3 = some r → J prog (.run 109 [] [l_ 122, b_ 0, c_ 31] [(0, (.sl true a0.length 1 (a0.flatMap encB))), (1, (I a1)), (5, (.rf 1024 0 x2.length 1 (x2.length * 1))), (6, (I x3))] [(1024, (x2.flatMap encI))] (.rf 1024 0 r.length 1 (r.length * 1)) [(1024, (r.flatMap encI))]))
 | 0 => (by intro a0 a1 x2 x3 r h; unfold spec_Aspects.l0 at h; cases h)
 | k + 1 => by
  have ih := spec_Aspects.lab k
  have ih0 := ih
  · intro a0 a1 x2 x3 r h
    unfold spec_Aspects.l0 at h
    refine .loop' [c_ 976, c_ 977, c_ 489, l_ 122, b_ 0, c_ 31] ?_
    refine .reg' [0, 1, 5, 6, 21] [] ⟨[(0, (.sl true a0.length 1 (a0.flatMap encB))), (1, (I a1)), (5, (.rf 1024 0 x2.length 1 (x2.length * 1))), (6, (I x3)), (21, (B (decide (x3 < (a0.length : Int)))))], [(1024, (x2.flatMap encI))], [], []⟩ [c_ 977, c_ 489, l_ 122, b_ 0, c_ 31] aln nocal ?_
    by_cases c3 : x3 < (a0.length : Int)
    · rw [if_pos c3] at h
      refine .cond' (.tmp 21) true [c_ 3912, c_ 3913, b_ 1, c_ 979, l_ 122, b_ 0, c_ 31] (bT (dT c3)) ?_
      obtain ⟨x4, hx4, h⟩ := Option.bind_eq_some_iff.mp h
      refine .reg' [0, 1, 5, 6, 7] [.no, .no, .c ⟨125, [(.sl true a0.length 1 (a0.flatMap encB)), (I x3)], [], (I x4), [], [], [], [], (I x4), []⟩] ⟨[(0, (.sl true a0.length 1 (a0.flatMap encB))), (1, (I a1)), (5, (.rf 1024 0 x2.length 1 (x2.length * 1))), (6, (I x3)), (7, (I x4))], [(1024, (x2.flatMap encI))], [COK (hget [(1024, (x2.flatMap encI))]) [(.sl true a0.length 1 (a0.flatMap encB)), (I x3)] ⟨125, [(.sl true a0.length 1 (a0.flatMap encB)), (I x3)], [], (I x4), [], [], [], [], (I x4), []⟩], [⟨125, [(.sl true a0.length 1 (a0.flatMap encB)), (I x3)], [], (I x4), [], [], [], [], (I x4), []⟩]⟩ [c_ 7826, c_ 7827, b_ 1, c_ 979, l_ 122, b_ 0, c_ 31] (alc (cok0 false (a2c (.z (frz_sl encB_ok (fun h => h))) (a2c (.z .s) a2n)) (.z .s) (fun h => absurd h (by decide))) aln) (acal (spec_FreeFrom.J k a0 x3 _ hx4) nocal) ?_
      refine .reg' [0, 1, 5, 6, 7, 8] [] ⟨[(0, (.sl true a0.length 1 (a0.flatMap encB))), (1, (I a1)), (5, (.rf 1024 0 x2.length 1 (x2.length * 1))), (6, (I x3)), (7, (I x4)), (8, (I x4))], [(1024, (x2.flatMap encI))], [], []⟩ [c_ 31308, c_ 31309, c_ 15655, b_ 1, c_ 979, l_ 122, b_ 0, c_ 31] aln nocal ?_
      refine .reg' [0, 1, 5, 6, 7, 8, 33] [] ⟨[(0, (.sl true a0.length 1 (a0.flatMap encB))), (1, (I a1)), (5, (.rf 1024 0 x2.length 1 (x2.length * 1))), (6, (I x3)), (7, (I x4)), (8, (I x4)), (33, (B ((wrap64 (x3 + x4)) == (a0.length : Int))))], [(1024, (x2.flatMap encI))], [], []⟩ [c_ 31309, c_ 15655, b_ 1, c_ 979, l_ 122, b_ 0, c_ 31] aln nocal ?_
      by_cases c4 : (wrap64 (x3 + x4)) = (a0.length : Int)
      · rw [if_pos c4] at h
        refine .cond' (.tmp 33) true [c_ 62618, c_ 15655, b_ 1, c_ 979, l_ 122, b_ 0, c_ 31] (bT (qT c4)) ?_
        refine .reg' [0, 1, 5, 6, 8] [] ⟨[(0, (.sl true a0.length 1 (a0.flatMap encB))), (1, (I a1)), (5, (.rf 1024 0 x2.length 1 (x2.length * 1))), (6, (I x3)), (8, (I (wrap64 (x4 + a1))))], [(1024, (x2.flatMap encI))], [], []⟩ [c_ 62620, c_ 62621, c_ 31311, b_ 1, c_ 979, l_ 122, b_ 0, c_ 31] aln nocal ?_
        refine .reg' [0, 1, 5, 6, 8, 38] [] ⟨[(0, (.sl true a0.length 1 (a0.flatMap encB))), (1, (I a1)), (5, (.rf 1024 0 x2.length 1 (x2.length * 1))), (6, (I x3)), (8, (I (wrap64 (x4 + a1)))), (38, (B (decide ((wrap64 (x4 + a1)) > 3))))], [(1024, (x2.flatMap encI))], [], []⟩ [c_ 62621, c_ 31311, b_ 1, c_ 979, l_ 122, b_ 0, c_ 31] aln nocal ?_
        by_cases c5 : (wrap64 (x4 + a1)) > 3
        · rw [if_pos c5] at h
          refine .cond' (.tmp 38) true [c_ 125242, c_ 31311, b_ 1, c_ 979, l_ 122, b_ 0, c_ 31] (bT (dT c5)) ?_
          refine .reg' [0, 1, 5, 6, 8] [] ⟨[(0, (.sl true a0.length 1 (a0.flatMap encB))), (1, (I a1)), (5, (.rf 1024 0 x2.length 1 (x2.length * 1))), (6, (I x3)), (8, (I 3))], [(1024, (x2.flatMap encI))], [], []⟩ [c_ 31311, b_ 1, c_ 979, l_ 122, b_ 0, c_ 31] aln nocal ?_
          by_cases c6 : (x2.length + ([3] : List Int).length) * 8 ≤ 70368744177664
          · rw [if_pos c6] at h
            refine .reg' [0, 1, 5, 6] [.no, .no, .no, .w (.rf 1024 0 ((x2 ++ ([3] : List Int)).length) 1 ((x2 ++ ([3] : List Int)).length * 1)) ((x2 ++ ([3] : List Int)).flatMap encI)] ⟨[(0, (.sl true a0.length 1 (a0.flatMap encB))), (1, (I a1)), (5, (.rf 1024 0 ((x2 ++ ([3] : List Int)).length) 1 ((x2 ++ ([3] : List Int)).length * 1))), (6, (I x3))], [(1024, ((x2 ++ ([3] : List Int)).flatMap encI)), (3586, (([3] : List Int).flatMap encI))], [V.rf 1024 0 (x2.length + ([3] : List Int).length) 1 (x2.length * 1 + ([3] : List Int).length * 1) = (.rf 1024 0 ((x2 ++ ([3] : List Int)).length) 1 ((x2 ++ ([3] : List Int)).length * 1)), x2.flatMap encI ++ (((([3] : List Int).flatMap encI).drop 0).take (([3] : List Int).length * 1)) = ((x2 ++ ([3] : List Int)).flatMap encI), (([3] : List Int).length * 1 = (([3] : List Int).flatMap encI).length ∧ 0 + ([3] : List Int).length * 1 ≤ (([3] : List Int).flatMap encI).length) ∧ x2.length * 1 = (x2.flatMap encI).length ∧ x2.length * 1 = (x2.flatMap encI).length ∧ (x2.length + ([3] : List Int).length) * 8 ≤ 70368744177664], []⟩ [c_ 979, l_ 122, b_ 0, c_ 31] (alc (apV rfl) (alc (apR encI_ok rfl) (alc (apO encI_ok rfl c6 rfl) aln))) nocal ?_
            refine .reg' [0, 1, 5, 6] [] ⟨[(0, (.sl true a0.length 1 (a0.flatMap encB))), (1, (I a1)), (5, (.rf 1024 0 ((x2 ++ ([3] : List Int)).length) 1 ((x2 ++ ([3] : List Int)).length * 1))), (6, (I (wrap64 (x3 + 1))))], [(1024, ((x2 ++ ([3] : List Int)).flatMap encI)), (3586, (([3] : List Int).flatMap encI))], [], []⟩ [l_ 122, b_ 0, c_ 31] aln nocal ?_
            refine .wk' [] [(1024, 1024)] [(0, (.sl true a0.length 1 (a0.flatMap encB))), (1, (I a1)), (5, (.rf 1024 0 ((x2 ++ ([3] : List Int)).length) 1 ((x2 ++ ([3] : List Int)).length * 1))), (6, (I (wrap64 (x3 + 1))))] [(1024, ((x2 ++ ([3] : List Int)).flatMap encI))] (shc 1024 (rowF encI_ok _) shn) (enc_ (.z (frz_sl encB_ok (fun h => h))) (enc_ (.z .s) (enc_ (.rf (memP_mem (p := (1024, 1024)) rfl)) (enc_ (.z .s) enn)))) ?_
            exact ih0 a0 a1 (x2 ++ ([3] : List Int)) (wrap64 (x3 + 1)) _ h
          · rw [if_neg c6] at h
            cases h
        · rw [if_neg c5] at h
          refine .cond' (.tmp 38) false [c_ 31311, b_ 1, c_ 979, l_ 122, b_ 0, c_ 31] (bF (dF c5)) ?_
          by_cases c7 : (x2.length + ([(wrap64 (x4 + a1))] : List Int).length) * 8 ≤ 70368744177664
          · rw [if_pos c7] at h
            refine .reg' [0, 1, 5, 6] [.no, .no, .no, .w (.rf 1024 0 ((x2 ++ ([(wrap64 (x4 + a1))] : List Int)).length) 1 ((x2 ++ ([(wrap64 (x4 + a1))] : List Int)).length * 1)) ((x2 ++ ([(wrap64 (x4 + a1))] : List Int)).flatMap encI)] ⟨[(0, (.sl true a0.length 1 (a0.flatMap encB))), (1, (I a1)), (5, (.rf 1024 0 ((x2 ++ ([(wrap64 (x4 + a1))] : List Int)).length) 1 ((x2 ++ ([(wrap64 (x4 + a1))] : List Int)).length * 1))), (6, (I x3))], [(1024, ((x2 ++ ([(wrap64 (x4 + a1))] : List Int)).flatMap encI)), (3586, (([(wrap64 (x4 + a1))] : List Int).flatMap encI))], [V.rf 1024 0 (x2.length + ([(wrap64 (x4 + a1))] : List Int).length) 1 (x2.length * 1 + ([(wrap64 (x4 + a1))] : List Int).length * 1) = (.rf 1024 0 ((x2 ++ ([(wrap64 (x4 + a1))] : List Int)).length) 1 ((x2 ++ ([(wrap64 (x4 + a1))] : List Int)).length * 1)), x2.flatMap encI ++ (((([(wrap64 (x4 + a1))] : List Int).flatMap encI).drop 0).take (([(wrap64 (x4 + a1))] : List Int).length * 1)) = ((x2 ++ ([(wrap64 (x4 + a1))] : List Int)).flatMap encI), (([(wrap64 (x4 + a1))] : List Int).length * 1 = (([(wrap64 (x4 + a1))] : List Int).flatMap encI).length ∧ 0 + ([(wrap64 (x4 + a1))] : List Int).length * 1 ≤ (([(wrap64 (x4 + a1))] : List Int).flatMap encI).length) ∧ x2.length * 1 = (x2.flatMap encI).length ∧ x2.length * 1 = (x2.flatMap encI).length ∧ (x2.length + ([(wrap64 (x4 + a1))] : List Int).length) * 8 ≤ 70368744177664], []⟩ [c_ 979, l_ 122, b_ 0, c_ 31] (alc (apV rfl) (alc (apR encI_ok rfl) (alc (apO encI_ok rfl c7 rfl) aln))) nocal ?_
            refine .reg' [0, 1, 5, 6] [] ⟨[(0, (.sl true a0.length 1 (a0.flatMap encB))), (1, (I a1)), (5, (.rf 1024 0 ((x2 ++ ([(wrap64 (x4 + a1))] : List Int)).length) 1 ((x2 ++ ([(wrap64 (x4 + a1))] : List Int)).length * 1))), (6, (I (wrap64 (x3 + 1))))], [(1024, ((x2 ++ ([(wrap64 (x4 + a1))] : List Int)).flatMap encI)), (3586, (([(wrap64 (x4 + a1))] : List Int).flatMap encI))], [], []⟩ [l_ 122, b_ 0, c_ 31] aln nocal ?_
            refine .wk' [] [(1024, 1024)] [(0, (.sl true a0.length 1 (a0.flatMap encB))), (1, (I a1)), (5, (.rf 1024 0 ((x2 ++ ([(wrap64 (x4 + a1))] : List Int)).length) 1 ((x2 ++ ([(wrap64 (x4 + a1))] : List Int)).length * 1))), (6, (I (wrap64 (x3 + 1))))] [(1024, ((x2 ++ ([(wrap64 (x4 + a1))] : List Int)).flatMap encI))] (shc 1024 (rowF encI_ok _) shn) (enc_ (.z (frz_sl encB_ok (fun h => h))) (enc_ (.z .s) (enc_ (.rf (memP_mem (p := (1024, 1024)) rfl)) (enc_ (.z .s) enn)))) ?_
            exact ih0 a0 a1 (x2 ++ ([(wrap64 (x4 + a1))] : List Int)) (wrap64 (x3 + 1)) _ h
          · rw [if_neg c7] at h
            cases h
      · rw [if_neg c4] at h
        refine .cond' (.tmp 33) false [c_ 62620, c_ 62621, c_ 31311, b_ 1, c_ 979, l_ 122, b_ 0, c_ 31] (bF (qF c4)) ?_
        refine .reg' [0, 1, 5, 6, 8, 38] [] ⟨[(0, (.sl true a0.length 1 (a0.flatMap encB))), (1, (I a1)), (5, (.rf 1024 0 x2.length 1 (x2.length * 1))), (6, (I x3)), (8, (I x4)), (38, (B (decide (x4 > 3))))], [(1024, (x2.flatMap encI))], [], []⟩ [c_ 62621, c_ 31311, b_ 1, c_ 979, l_ 122, b_ 0, c_ 31] aln nocal ?_
        by_cases c8 : x4 > 3
        · rw [if_pos c8] at h
          refine .cond' (.tmp 38) true [c_ 125242, c_ 31311, b_ 1, c_ 979, l_ 122, b_ 0, c_ 31] (bT (dT c8)) ?_
          refine .reg' [0, 1, 5, 6, 8] [] ⟨[(0, (.sl true a0.length 1 (a0.flatMap encB))), (1, (I a1)), (5, (.rf 1024 0 x2.length 1 (x2.length * 1))), (6, (I x3)), (8, (I 3))], [(1024, (x2.flatMap encI))], [], []⟩ [c_ 31311, b_ 1, c_ 979, l_ 122, b_ 0, c_ 31] aln nocal ?_
          by_cases c9 : (x2.length + ([3] : List Int).length) * 8 ≤ 70368744177664
          · rw [if_pos c9] at h
            refine .reg' [0, 1, 5, 6] [.no, .no, .no, .w (.rf 1024 0 ((x2 ++ ([3] : List Int)).length) 1 ((x2 ++ ([3] : List Int)).length * 1)) ((x2 ++ ([3] : List Int)).flatMap encI)] ⟨[(0, (.sl true a0.length 1 (a0.flatMap encB))), (1, (I a1)), (5, (.rf 1024 0 ((x2 ++ ([3] : List Int)).length) 1 ((x2 ++ ([3] : List Int)).length * 1))), (6, (I x3))], [(1024, ((x2 ++ ([3] : List Int)).flatMap encI)), (3586, (([3] : List Int).flatMap encI))], [V.rf 1024 0 (x2.length + ([3] : List Int).length) 1 (x2.length * 1 + ([3] : List Int).length * 1) = (.rf 1024 0 ((x2 ++ ([3] : List Int)).length) 1 ((x2 ++ ([3] : List Int)).length * 1)), x2.flatMap encI ++ (((([3] : List Int).flatMap encI).drop 0).take (([3] : List Int).length * 1)) = ((x2 ++ ([3] : List Int)).flatMap encI), (([3] : List Int).length * 1 = (([3] : List Int).flatMap encI).length ∧ 0 + ([3] : List Int).length * 1 ≤ (([3] : List Int).flatMap encI).length) ∧ x2.length * 1 = (x2.flatMap encI).length ∧ x2.length * 1 = (x2.flatMap encI).length ∧ (x2.length + ([3] : List Int).length) * 8 ≤ 70368744177664], []⟩ [c_ 979, l_ 122, b_ 0, c_ 31] (alc (apV rfl) (alc (apR encI_ok rfl) (alc (apO encI_ok rfl c9 rfl) aln))) nocal ?_
            refine .reg' [0, 1, 5, 6] [] ⟨[(0, (.sl true a0.length 1 (a0.flatMap encB))), (1, (I a1)), (5, (.rf 1024 0 ((x2 ++ ([3] : List Int)).length) 1 ((x2 ++ ([3] : List Int)).length * 1))), (6, (I (wrap64 (x3 + 1))))], [(1024, ((x2 ++ ([3] : List Int)).flatMap encI)), (3586, (([3] : List Int).flatMap encI))], [], []⟩ [l_ 122, b_ 0, c_ 31] aln nocal ?_
            refine .wk' [] [(1024, 1024)] [(0, (.sl true a0.length 1 (a0.flatMap encB))), (1, (I a1)), (5, (.rf 1024 0 ((x2 ++ ([3] : List Int)).length) 1 ((x2 ++ ([3] : List Int)).length * 1))), (6, (I (wrap64 (x3 + 1))))] [(1024, ((x2 ++ ([3] : List Int)).flatMap encI))] (shc 1024 (rowF encI_ok _) shn) (enc_ (.z (frz_sl encB_ok (fun h => h))) (enc_ (.z .s) (enc_ (.rf (memP_mem (p := (1024, 1024)) rfl)) (enc_ (.z .s) enn)))) ?_
            exact ih0 a0 a1 (x2 ++ ([3] : List Int)) (wrap64 (x3 + 1)) _ h
          · rw [if_neg c9] at h
            cases h
        · rw [if_neg c8] at h
          refine .cond' (.tmp 38) false [c_ 31311, b_ 1, c_ 979, l_ 122, b_ 0, c_ 31] (bF (dF c8)) ?_
          by_cases c10 : (x2.length + ([x4] : List Int).length) * 8 ≤ 70368744177664
          · rw [if_pos c10] at h
            refine .reg' [0, 1, 5, 6] [.no, .no, .no, .w (.rf 1024 0 ((x2 ++ ([x4] : List Int)).length) 1 ((x2 ++ ([x4] : List Int)).length * 1)) ((x2 ++ ([x4] : List Int)).flatMap encI)] ⟨[(0, (.sl true a0.length 1 (a0.flatMap encB))), (1, (I a1)), (5, (.rf 1024 0 ((x2 ++ ([x4] : List Int)).length) 1 ((x2 ++ ([x4] : List Int)).length * 1))), (6, (I x3))], [(1024, ((x2 ++ ([x4] : List Int)).flatMap encI)), (3586, (([x4] : List Int).flatMap encI))], [V.rf 1024 0 (x2.length + ([x4] : List Int).length) 1 (x2.length * 1 + ([x4] : List Int).length * 1) = (.rf 1024 0 ((x2 ++ ([x4] : List Int)).length) 1 ((x2 ++ ([x4] : List Int)).length * 1)), x2.flatMap encI ++ (((([x4] : List Int).flatMap encI).drop 0).take (([x4] : List Int).length * 1)) = ((x2 ++ ([x4] : List Int)).flatMap encI), (([x4] : List Int).length * 1 = (([x4] : List Int).flatMap encI).length ∧ 0 + ([x4] : List Int).length * 1 ≤ (([x4] : List Int).flatMap encI).length) ∧ x2.length * 1 = (x2.flatMap encI).length ∧ x2.length * 1 = (x2.flatMap encI).length ∧ (x2.length + ([x4] : List Int).length) * 8 ≤ 70368744177664], []⟩ [c_ 979, l_ 122, b_ 0, c_ 31] (alc (apV rfl) (alc (apR encI_ok rfl) (alc (apO encI_ok rfl c10 rfl) aln))) nocal ?_
            refine .reg' [0, 1, 5, 6] [] ⟨[(0, (.sl true a0.length 1 (a0.flatMap encB))), (1, (I a1)), (5, (.rf 1024 0 ((x2 ++ ([x4] : List Int)).length) 1 ((x2 ++ ([x4] : List Int)).length * 1))), (6, (I (wrap64 (x3 + 1))))], [(1024, ((x2 ++ ([x4] : List Int)).flatMap encI)), (3586, (([x4] : List Int).flatMap encI))], [], []⟩ [l_ 122, b_ 0, c_ 31] aln nocal ?_
            refine .wk' [] [(1024, 1024)] [(0, (.sl true a0.length 1 (a0.flatMap encB))), (1, (I a1)), (5, (.rf 1024 0 ((x2 ++ ([x4] : List Int)).length) 1 ((x2 ++ ([x4] : List Int)).length * 1))), (6, (I (wrap64 (x3 + 1))))] [(1024, ((x2 ++ ([x4] : List Int)).flatMap encI))] (shc 1024 (rowF encI_ok _) shn) (enc_ (.z (frz_sl encB_ok (fun h => h))) (enc_ (.z .s) (enc_ (.rf (memP_mem (p := (1024, 1024)) rfl)) (enc_ (.z .s) enn)))) ?_
            exact ih0 a0 a1 (x2 ++ ([x4] : List Int)) (wrap64 (x3 + 1)) _ h
          · rw [if_neg c10] at h
            cases h
    · rw [if_neg c3] at h
      refine .cond' (.tmp 21) false [c_ 62, c_ 63] (bF (dF c3)) ?_
      refine .reg' [4] [] ⟨[(4, (.rf 1024 0 x2.length 1 (x2.length * 1)))], [(1024, (x2.flatMap encI))], [], []⟩ [c_ 63] aln nocal ?_
      have h := Option.some.inj h
      subst h
      exact .fin' [] [(1024, 1024)] (.rf 1024 0 x2.length 1 (x2.length * 1)) [] aln (shc 1024 (rowF encI_ok _) shn) (.rf (memP_mem (p := (1024, 1024)) rfl))
theorem spec_Aspects.J (k : Nat) (a0 : (List Bool)) (a1 : Int) (r : (List Int)) (h : spec_Aspects.f k a0 a1 = some r) : J prog (.call 109 [(.sl true a0.length 1 (a0.flatMap encB)), (I a1)] [] (.rf 1024 0 r.length 1 (r.length * 1)) [(1024, (r.flatMap encI))]) := by
  unfold spec_Aspects.f at h
  have ih0 := spec_Aspects.lab k
  refine .call' [c_ 2, c_ 3] ?_
  refine .reg' [0, 1] [] ⟨[(0, (.sl true a0.length 1 (a0.flatMap encB))), (1, (I a1))], [], [], []⟩ [c_ 12, c_ 13, c_ 7] aln nocal ?_
  by_cases c1 : (a0.length : Int) > 100
  · rw [if_pos c1] at h
    refine .reg' [0, 1, 16] [.no, .no, .no, .v (B true)] ⟨[(0, (.sl true a0.length 1 (a0.flatMap encB))), (1, (I a1)), (16, (B true))], [], [(B (decide ((a0.length : Int) > 100)) : V) = B true], []⟩ [c_ 13, c_ 7] (alc (bT (dT c1)) aln) nocal ?_
    refine .cond' (.tmp 16) true [c_ 52, c_ 53, c_ 7] (rfl) ?_
    refine .reg' [4] [] ⟨[(4, nilS)], [], [], []⟩ [c_ 53, c_ 7] aln nocal ?_
    have h := Option.some.inj h
    subst h
    refine .nl' 1024 ?_
    exact .fin' [] [(1024, 1024)] nilS [] aln (shc 1024 (rowF encI_ok _) shn) (.nl (memP_mem (p := (1024, 1024)) rfl) rfl)
  · rw [if_neg c1] at h
    obtain ⟨x1, hx1, h⟩ := Option.bind_eq_some_iff.mp h
    refine .reg' [0, 1, 16] [.no, .no, .no, .v (B false), .no, .c ⟨54, [(I a1), (I 0), (I 3)], [], (B x1), [], [], [], [], (B x1), []⟩] ⟨[(0, (.sl true a0.length 1 (a0.flatMap encB))), (1, (I a1)), (16, (B (!x1)))], [], [(B (decide ((a0.length : Int) > 100)) : V) = B false, COK (hget []) [(I a1), (I 0), (I 3)] ⟨54, [(I a1), (I 0), (I 3)], [], (B x1), [], [], [], [], (B x1), []⟩], [⟨54, [(I a1), (I 0), (I 3)], [], (B x1), [], [], [], [], (B x1), []⟩]⟩ [c_ 13, c_ 7] (alc (bF (dF c1)) (alc (cok0 false (a2c (.z .s) (a2c (.z .s) (a2c (.z .s) a2n))) (.z .s) (fun h => absurd h (by decide))) aln)) (acal (spec_l01In.J a1 0 3 _ hx1) nocal) ?_
    by_cases c2 : x1 = true
    · rw [if_pos c2] at h
      refine .cond' (.tmp 16) false [c_ 14, c_ 15] (bF (nF c2)) ?_
      refine .reg' [0, 1, 5] [] ⟨[(0, (.sl true a0.length 1 (a0.flatMap encB))), (1, (I a1)), (5, (.rf 1024 0 (([] : List Int).length) 1 (([] : List Int).length * 1)))], [(1024, (([] : List Int).flatMap encI))], [], []⟩ [c_ 60, c_ 61, c_ 31] aln nocal ?_
      refine .reg' [0, 1, 5, 6] [] ⟨[(0, (.sl true a0.length 1 (a0.flatMap encB))), (1, (I a1)), (5, (.rf 1024 0 (([] : List Int).length) 1 (([] : List Int).length * 1))), (6, (I 0))], [(1024, (([] : List Int).flatMap encI))], [], []⟩ [l_ 122, b_ 0, c_ 31] aln nocal ?_
      exact ih0 a0 a1 ([] : List Int) 0 _ h
    · rw [if_neg c2] at h
      refine .cond' (.tmp 16) true [c_ 52, c_ 53, c_ 7] (bT (nT (vF c2))) ?_
      refine .reg' [4] [] ⟨[(4, nilS)], [], [], []⟩ [c_ 53, c_ 7] aln nocal ?_
      have h := Option.some.inj h
      subst h
      refine .nl' 1024 ?_
      exact .fin' [] [(1024, 1024)] nilS [] aln (shc 1024 (rowF encI_ok _) shn) (.nl (memP_mem (p := (1024, 1024)) rfl) rfl)
/-! spec_Forward: function 83 -/
def spec_Forward.f (k : Nat) (a0 : Int) (a1 : (List S117)) (a2 : Int) (a3 : Int) : Option ((List S117) × Bool) := ((spec_TrainsOk.f k a0 a1).bind fun x1 => (if x1 = true then ((spec_l01In.f a2 0 (wrap64 ((a1.length : Int) - 1))).bind fun x2 => (if x2 = true then ((spec_l01In.f a3 0 3).bind fun x3 => (if x3 = true then (if 0 ≤ a2 then (if a2 < (a1.length : Int) then (if (at_ a1 a2).f1 = (wrap64 (a0 - 1)) then (if a3 = 0 then (some (([] : List S117), false)) else ((spec_l05Put.f k a1 a2 (at_ a1 a2) true).bind fun x4 => (some (x4, true)))) else ((spec_TakenBy.f k a0 a1).bind fun x5 => ((spec_Aspects.f k x5 a3).bind fun x6 => (if 0 ≤ (wrap64 ((at_ a1 a2).f1 + 1)) then (if (wrap64 ((at_ a1 a2).f1 + 1)) < (x6.length : Int) then (if (at_ x6 (wrap64 ((at_ a1 a2).f1 + 1))) = 0 then (some (([] : List S117), false)) else ((spec_l05Put.f k a1 a2 (⟨(at_ a1 a2).f0, (wrap64 ((at_ a1 a2).f1 + 1))⟩ : S117) false).bind fun x7 => (some (x7, true)))) else none) else none)))) else none) else none) else (some (([] : List S117), false)))) else (some (([] : List S117), false)))) else (some (([] : List S117), false))))
end Go.Proofs.Ytjfjifnmfnlfoaa.Fns
