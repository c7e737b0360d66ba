/- The functions that the law FnExactAssign reaches, by the engine. Printed by a program of this seat. -/
import Derived.Test.YtddipeelmandjaaE5
import Derived.Test.YtddipeelmandjaaProg
import Derived.Test.YtddipeelmandjaaFFnExactAssignx4
namespace Go.Proofs.Ytddipeelmandjaa.Fns
open Go.Proofs.Try Go.Proofs.Ytddipeelmandjaa.Eng Go.RowKit
set_option maxRecDepth 100000
set_option linter.unusedVariables false
set_option linter.unusedSimpArgs false
theorem laws_eqStay.J (a0 : S49) (a1 : S49) (r : Bool) (h : laws_eqStay.f a0 a1 = some r) : J prog (.call 43 [(.ag [(I a0.f0), (I a0.f1), (I a0.f2)]), (.ag [(I a1.f0), (I a1.f1), (I a1.f2)])] [] (B r) []) := by
  unfold laws_eqStay.f at h
  refine .call' [c_ 2, c_ 3] ?_
  refine .reg' [2, 3] [] ⟨[(2, (.pt 256 0 3)), (3, (.pt 257 0 3))], [(256, [(I a0.f0), (I a0.f1), (I a0.f2)]), (257, [(I a1.f0), (I a1.f1), (I a1.f2)])], [], []⟩ [c_ 12, c_ 13, c_ 7] aln nocal ?_
  refine .reg' [2, 3, 9] [] ⟨[(2, (.pt 256 0 3)), (3, (.pt 257 0 3)), (9, (B (!(a0.f0 == a1.f0))))], [(256, [(I a0.f0), (I a0.f1), (I a0.f2)]), (257, [(I a1.f0), (I a1.f1), (I a1.f2)])], [3 = 3 ∧ 0 + 1 ≤ 3, 3 = 3 ∧ 0 + 1 ≤ 3], []⟩ [c_ 13, c_ 7] (alc ⟨rfl, by decide⟩ (alc ⟨rfl, by decide⟩ aln)) nocal ?_
  by_cases c1 : a0.f0 = a1.f0
  · rw [if_pos c1] at h
    refine .cond' (.tmp 9) false [c_ 28, c_ 29, c_ 15] (bF (nF (qT c1))) ?_
    refine .reg' [2, 3, 14] [] ⟨[(2, (.pt 256 0 3)), (3, (.pt 257 0 3)), (14, (B (!(a0.f1 == a1.f1))))], [(256, [(I a0.f0), (I a0.f1), (I a0.f2)]), (257, [(I a1.f0), (I a1.f1), (I a1.f2)])], [3 = 3 ∧ 1 + 1 ≤ 3, 3 = 3 ∧ 1 + 1 ≤ 3], []⟩ [c_ 29, c_ 15] (alc ⟨rfl, by decide⟩ (alc ⟨rfl, by decide⟩ aln)) nocal ?_
    by_cases c2 : a0.f1 = a1.f1
    · rw [if_pos c2] at h
      refine .cond' (.tmp 14) false [c_ 60, c_ 61, c_ 31] (bF (nF (qT c2))) ?_
      refine .reg' [19] [] ⟨[(19, (B (!(a0.f2 == a1.f2))))], [(256, [(I a0.f0), (I a0.f1), (I a0.f2)]), (257, [(I a1.f0), (I a1.f1), (I a1.f2)])], [3 = 3 ∧ 2 + 1 ≤ 3, 3 = 3 ∧ 2 + 1 ≤ 3], []⟩ [c_ 61, c_ 31] (alc ⟨rfl, by decide⟩ (alc ⟨rfl, by decide⟩ aln)) nocal ?_
      by_cases c3 : a0.f2 = a1.f2
      · rw [if_pos c3] at h
        refine .cond' (.tmp 19) false [c_ 62, c_ 63] (bF (nF (qT c3))) ?_
        refine .reg' [4] [] ⟨[(4, (B true))], [(256, [(I a0.f0), (I a0.f1), (I a0.f2)]), (257, [(I a1.f0), (I a1.f1), (I a1.f2)])], [], []⟩ [c_ 63] aln nocal ?_
        have h := Option.some.inj h
        subst h
        exact .fin0 [] (B true) [] aln (.z .s)
      · rw [if_neg c3] at h
        refine .cond' (.tmp 19) true [c_ 244, c_ 245, c_ 31] (bT (nT (qF c3))) ?_
        refine .reg' [4] [] ⟨[(4, (B false))], [(256, [(I a0.f0), (I a0.f1), (I a0.f2)]), (257, [(I a1.f0), (I a1.f1), (I a1.f2)])], [], []⟩ [c_ 245, c_ 31] aln nocal ?_
        have h := Option.some.inj h
        subst h
        exact .fin0 [] (B false) [] aln (.z .s)
    · rw [if_neg c2] at h
      refine .cond' (.tmp 14) true [c_ 116, c_ 117, c_ 15] (bT (nT (qF c2))) ?_
      refine .reg' [4] [] ⟨[(4, (B false))], [(256, [(I a0.f0), (I a0.f1), (I a0.f2)]), (257, [(I a1.f0), (I a1.f1), (I a1.f2)])], [], []⟩ [c_ 117, c_ 15] aln nocal ?_
      have h := Option.some.inj h
      subst h
      exact .fin0 [] (B false) [] aln (.z .s)
  · rw [if_neg c1] at h
    refine .cond' (.tmp 9) true [c_ 52, c_ 53, c_ 7] (bT (nT (qF c1))) ?_
    refine .reg' [4] [] ⟨[(4, (B false))], [(256, [(I a0.f0), (I a0.f1), (I a0.f2)]), (257, [(I a1.f0), (I a1.f1), (I a1.f2)])], [], []⟩ [c_ 53, c_ 7] aln nocal ?_
    have h := Option.some.inj h
    subst h
    exact .fin0 [] (B false) [] aln (.z .s)
/-! laws_eqStayS: function 20 -/
def laws_eqStayS.l0 : Nat → (List S49) → (List S49) → Int → Option Bool
 | 0, _, _, _ => none
 | k + 1, a0, a1, x1 => (if x1 < (a0.length : Int) then (if 0 ≤ x1 then (if x1 < (a1.length : Int) then ((laws_eqStay.f (at_ a0 x1) (at_ a1 x1)).bind fun x2 => (if x2 = true then (laws_eqStayS.l0 k a0 a1 (wrap64 (x1 + 1))) else (some false))) else none) else none) else (some true))
def laws_eqStayS.f (k : Nat) (a0 : (List S49)) (a1 : (List S49)) : Option Bool := (if (a0.length : Int) = (a1.length : Int) then (laws_eqStayS.l0 k a0 a1 0) else (some false))
theorem laws_eqStayS.lab : ∀ k, (∀ (a0 : (List S49)) (a1 : (List S49)) (x1 : Int) (r : Bool), laws_eqStayS.l0 k a0 a1 x1 = some r → J prog (.run 20 [] [l_ 58, b_ 0, c_ 15] [(0, (.sl true a0.length 3 (a0.flatMap e49))), (1, (.sl true a1.length 3 (a1.flatMap e49))), (5, (I x1))] [] (B r) []))
 | 0 => (by intro a0 a1 x1 r h; unfold laws_eqStayS.l0 at h; cases h)
 | k + 1 => by
  have ih0 := laws_eqStayS.lab k
  · intro a0 a1 x1 r h
    unfold laws_eqStayS.l0 at h
    refine .loop' [c_ 464, c_ 465, c_ 233, l_ 58, b_ 0, c_ 15] ?_
    refine .reg' [0, 1, 5, 14] [] ⟨[(0, (.sl true a0.length 3 (a0.flatMap e49))), (1, (.sl true a1.length 3 (a1.flatMap e49))), (5, (I x1)), (14, (B (decide (x1 < (a0.length : Int)))))], [], [], []⟩ [c_ 465, c_ 233, l_ 58, b_ 0, c_ 15] aln nocal ?_
    by_cases c2 : x1 < (a0.length : Int)
    · rw [if_pos c2] at h
      refine .cond' (.tmp 14) true [c_ 1864, c_ 1865, b_ 1, c_ 467, l_ 58, b_ 0, c_ 15] (bT (dT c2)) ?_
      by_cases c3 : 0 ≤ x1
      · rw [if_pos c3] at h
        by_cases c4 : x1 < (a1.length : Int)
        · rw [if_pos c4] at h
          obtain ⟨x2, hx2, h⟩ := Option.bind_eq_some_iff.mp h
          refine .reg' [0, 1, 5, 26] [.no, .no, .no, .v (.ag [(I (at_ a0 x1).f0), (I (at_ a0 x1).f1), (I (at_ a0 x1).f2)]), .no, .no, .no, .v (.ag [(I (at_ a1 x1).f0), (I (at_ a1 x1).f1), (I (at_ a1 x1).f2)]), .c ⟨43, [(.ag [(I (at_ a0 x1).f0), (I (at_ a0 x1).f1), (I (at_ a0 x1).f2)]), (.ag [(I (at_ a1 x1).f0), (I (at_ a1 x1).f1), (I (at_ a1 x1).f2)])], [], (B x2), [], [], [], [], (B x2), []⟩] ⟨[(0, (.sl true a0.length 3 (a0.flatMap e49))), (1, (.sl true a1.length 3 (a1.flatMap e49))), (5, (I x1)), (26, (B (!x2)))], [], [(0 : Int) ≤ x1 ∧ x1 < (a0.length : Int), rdC prog 50 ((a0.flatMap e49).drop (x1.toNat * 3)) = (.ag [(I (at_ a0 x1).f0), (I (at_ a0 x1).f1), (I (at_ a0 x1).f2)]), 3 ≤ ((a0.flatMap e49).drop (x1.toNat * 3)).length, (0 : Int) ≤ x1 ∧ x1 < (a1.length : Int), rdC prog 50 ((a1.flatMap e49).drop (x1.toNat * 3)) = (.ag [(I (at_ a1 x1).f0), (I (at_ a1 x1).f1), (I (at_ a1 x1).f2)]), 3 ≤ ((a1.flatMap e49).drop (x1.toNat * 3)).length, COK (hget []) [(.ag [(I (at_ a0 x1).f0), (I (at_ a0 x1).f1), (I (at_ a0 x1).f2)]), (.ag [(I (at_ a1 x1).f0), (I (at_ a1 x1).f1), (I (at_ a1 x1).f2)])] ⟨43, [(.ag [(I (at_ a0 x1).f0), (I (at_ a0 x1).f1), (I (at_ a0 x1).f2)]), (.ag [(I (at_ a1 x1).f0), (I (at_ a1 x1).f1), (I (at_ a1 x1).f2)])], [], (B x2), [], [], [], [], (B x2), []⟩], [⟨43, [(.ag [(I (at_ a0 x1).f0), (I (at_ a0 x1).f1), (I (at_ a0 x1).f2)]), (.ag [(I (at_ a1 x1).f0), (I (at_ a1 x1).f1), (I (at_ a1 x1).f2)])], [], (B x2), [], [], [], [], (B x2), []⟩]⟩ [c_ 1865, b_ 1, c_ 467, l_ 58, b_ 0, c_ 15] (alc ⟨c3, c2⟩ (alc (ldA e49_ok rfl rfl c3 c2) (alc (okI e49_ok c3 c2 (by decide)) (alc ⟨c3, c4⟩ (alc (ldA e49_ok rfl rfl c3 c4) (alc (okI e49_ok c3 c4 (by decide)) (alc (cok0 false (a2c (.z (frz_ag (a2c .s (a2c .s (a2c .s a2n))))) (a2c (.z (frz_ag (a2c .s (a2c .s (a2c .s a2n))))) a2n)) (.z .s) (fun h => absurd h (by decide))) aln))))))) (acal (laws_eqStay.J (at_ a0 x1) (at_ a1 x1) _ hx2) nocal) ?_
          by_cases c5 : x2 = true
          · rw [if_pos c5] at h
            refine .cond' (.tmp 26) false [c_ 467, l_ 58, b_ 0, c_ 15] (bF (nF c5)) ?_
            refine .reg' [0, 1, 5] [] ⟨[(0, (.sl true a0.length 3 (a0.flatMap e49))), (1, (.sl true a1.length 3 (a1.flatMap e49))), (5, (I (wrap64 (x1 + 1))))], [], [], []⟩ [l_ 58, b_ 0, c_ 15] aln nocal ?_
            exact ih0 a0 a1 (wrap64 (x1 + 1)) _ h
          · rw [if_neg c5] at h
            refine .cond' (.tmp 26) true [c_ 7460, c_ 7461, b_ 1, c_ 467, l_ 58, b_ 0, c_ 15] (bT (nT (vF c5))) ?_
            refine .reg' [4] [] ⟨[(4, (B false))], [], [], []⟩ [c_ 7461, b_ 1, c_ 467, l_ 58, b_ 0, c_ 15] aln nocal ?_
            have h := Option.some.inj h
            subst h
            exact .fin0 [] (B false) [] aln (.z .s)
        · rw [if_neg c4] at h
          cases h
      · rw [if_neg c3] at h
        cases h
    · rw [if_neg c2] at h
      refine .cond' (.tmp 14) false [c_ 30, c_ 31] (bF (dF c2)) ?_
      refine .reg' [4] [] ⟨[(4, (B true))], [], [], []⟩ [c_ 31] aln nocal ?_
      have h := Option.some.inj h
      subst h
      exact .fin0 [] (B true) [] aln (.z .s)
theorem laws_eqStayS.J (k : Nat) (a0 : (List S49)) (a1 : (List S49)) (r : Bool) (h : laws_eqStayS.f k a0 a1 = some r) : J prog (.call 20 [(.sl true a0.length 3 (a0.flatMap e49)), (.sl true a1.length 3 (a1.flatMap e49))] [] (B r) []) := by
  unfold laws_eqStayS.f at h
  have ih0 := laws_eqStayS.lab k
  refine .call' [c_ 2, c_ 3] ?_
  refine .reg' [0, 1] [] ⟨[(0, (.sl true a0.length 3 (a0.flatMap e49))), (1, (.sl true a1.length 3 (a1.flatMap e49)))], [], [], []⟩ [c_ 12, c_ 13, c_ 7] aln nocal ?_
  refine .reg' [0, 1, 10] [] ⟨[(0, (.sl true a0.length 3 (a0.flatMap e49))), (1, (.sl true a1.length 3 (a1.flatMap e49))), (10, (B (!((a0.length : Int) == (a1.length : Int)))))], [], [], []⟩ [c_ 13, c_ 7] aln nocal ?_
  by_cases c1 : (a0.length : Int) = (a1.length : Int)
  · rw [if_pos c1] at h
    refine .cond' (.tmp 10) false [c_ 28, c_ 29, c_ 15] (bF (nF (qT c1))) ?_
    refine .reg' [0, 1, 5] [] ⟨[(0, (.sl true a0.length 3 (a0.flatMap e49))), (1, (.sl true a1.length 3 (a1.flatMap e49))), (5, (I 0))], [], [], []⟩ [l_ 58, b_ 0, c_ 15] aln nocal ?_
    exact ih0 a0 a1 0 _ h
  · rw [if_neg c1] at h
    refine .cond' (.tmp 10) true [c_ 52, c_ 53, c_ 7] (bT (nT (qF c1))) ?_
    refine .reg' [4] [] ⟨[(4, (B false))], [], [], []⟩ [c_ 53, c_ 7] aln nocal ?_
    have h := Option.some.inj h
    subst h
    exact .fin0 [] (B false) [] aln (.z .s)
/-! laws_markIntS: function 27 -/
def laws_markIntS.l0 : Nat → (List Int) → Int → Int → Option (Int × (List Int))
 | 0, _, _, _ => none
 | k + 1, x1, x2, x3 => (if x3 < (x1.length : Int) then (if 0 ≤ x3 then (laws_markIntS.l0 k (x1.set x3.toNat x2) (wrap64 (x2 + 1)) (wrap64 (x3 + 1))) else none) else (some (x2, x1)))
def laws_markIntS.f (k : Nat) (a0 : (List Int)) (a1 : Int) : Option (Int × (List Int)) := (laws_markIntS.l0 k a0 a1 0)
theorem laws_markIntS.lab : ∀ k, (∀ (x1 : (List Int)) (x2 : Int) (x3 : Int) (r : (Int × (List Int))), laws_markIntS.l0 k x1 x2 x3 = some r → J prog (.run 27 [0] [l_ 26, b_ 0, c_ 7] [(0, (.rf 0 0 x1.length 1 (x1.length * 1))), (1, (I x2)), (5, (I x3))] [(0, (x1.flatMap encI))] (I r.1) [(0, (r.2.flatMap encI))]))
 | 0 => (by intro x1 x2 x3 r h; unfold laws_markIntS.l0 at h; cases h)
 | k + 1 => by
  have ih0 := laws_markIntS.lab k
  · intro x1 x2 x3 r h
    unfold laws_markIntS.l0 at h
    refine .loop' [c_ 208, c_ 209, c_ 105, l_ 26, b_ 0, c_ 7] ?_
    refine .reg' [0, 1, 5, 9] [] ⟨[(0, (.rf 0 0 x1.length 1 (x1.length * 1))), (1, (I x2)), (5, (I x3)), (9, (B (decide (x3 < (x1.length : Int)))))], [(0, (x1.flatMap encI))], [], []⟩ [c_ 209, c_ 105, l_ 26, b_ 0, c_ 7] aln nocal ?_
    by_cases c1 : x3 < (x1.length : Int)
    · rw [if_pos c1] at h
      refine .cond' (.tmp 9) true [c_ 840, c_ 841, b_ 1, c_ 211, l_ 26, b_ 0, c_ 7] (bT (dT c1)) ?_
      by_cases c2 : 0 ≤ x3
      · rw [if_pos c2] at h
        refine .reg' [0, 1, 5] [.no, .no, .no, .no, .w .un ((x1.set x3.toNat x2).flatMap encI)] ⟨[(0, (.rf 0 0 x1.length 1 (x1.length * 1))), (1, (I x2)), (5, (I x3))], [(0, ((x1.set x3.toNat x2).flatMap encI))], [(0 : Int) ≤ x3 ∧ x3 < (x1.length : Int), V.un = V.un, spl (x1.flatMap encI) (0 + x3.toNat * 1) [(I x2)] = ((x1.set x3.toNat x2).flatMap encI), x1.length * 1 = (x1.flatMap encI).length ∧ 0 + x3.toNat * 1 + 1 ≤ (x1.flatMap encI).length], []⟩ [c_ 841, b_ 1, c_ 211, l_ 26, b_ 0, c_ 7] (alc ⟨c2, c1⟩ (alc rfl (alc (st_row1 encI_ok c2 c1 (I x2) rfl) (alc (okA0 encI_ok c2 c1 (by decide)) aln)))) nocal ?_
        refine .eqs (env2 := [(0, (.rf 0 0 ((x1.set x3.toNat x2).length) 1 ((x1.set x3.toNat x2).length * 1))), (1, (I x2)), (5, (I x3))]) (H2 := [(0, ((x1.set x3.toNat x2).flatMap encI))]) (by first | (simp only [List.length_set]; done) | simp) (by first | rfl | (simp only [List.length_set]; done) | simp) ?_
        refine .reg' [0, 1, 5] [] ⟨[(0, (.rf 0 0 ((x1.set x3.toNat x2).length) 1 ((x1.set x3.toNat x2).length * 1))), (1, (I (wrap64 (x2 + 1)))), (5, (I x3))], [(0, ((x1.set x3.toNat x2).flatMap encI))], [], []⟩ [c_ 211, l_ 26, b_ 0, c_ 7] aln nocal ?_
        refine .reg' [0, 1, 5] [] ⟨[(0, (.rf 0 0 ((x1.set x3.toNat x2).length) 1 ((x1.set x3.toNat x2).length * 1))), (1, (I (wrap64 (x2 + 1)))), (5, (I (wrap64 (x3 + 1))))], [(0, ((x1.set x3.toNat x2).flatMap encI))], [], []⟩ [l_ 26, b_ 0, c_ 7] aln nocal ?_
        exact ih0 (x1.set x3.toNat x2) (wrap64 (x2 + 1)) (wrap64 (x3 + 1)) _ h
      · rw [if_neg c2] at h
        cases h
    · rw [if_neg c1] at h
      refine .cond' (.tmp 9) false [c_ 14, c_ 15] (bF (dF c1)) ?_
      refine .reg' [4] [] ⟨[(4, (I x2))], [(0, (x1.flatMap encI))], [], []⟩ [c_ 15] aln nocal ?_
      have h := Option.some.inj h
      subst h
      exact .fin' [] [(0, 0)] (I x2) [] aln (shc 0 (rowF encI_ok _) shn) (.z .s)
theorem laws_markIntS.J (k : Nat) (a0 : (List Int)) (a1 : Int) (r : (Int × (List Int))) (h : laws_markIntS.f k a0 a1 = some r) : J prog (.call 27 [(.rf 0 0 a0.length 1 (a0.length * 1)), (I a1)] [(0, (a0.flatMap encI))] (I r.1) [(0, (r.2.flatMap encI))]) := by
  unfold laws_markIntS.f at h
  have ih0 := laws_markIntS.lab k
  refine .call' [c_ 2, c_ 3] ?_
  refine .reg' [0, 1] [] ⟨[(0, (.rf 0 0 a0.length 1 (a0.length * 1))), (1, (I a1))], [(0, (a0.flatMap encI))], [], []⟩ [c_ 12, c_ 13, c_ 7] aln nocal ?_
  refine .reg' [0, 1, 5] [] ⟨[(0, (.rf 0 0 a0.length 1 (a0.length * 1))), (1, (I a1)), (5, (I 0))], [(0, (a0.flatMap encI))], [], []⟩ [l_ 26, b_ 0, c_ 7] aln nocal ?_
  exact ih0 a0 a1 0 _ h
theorem laws_markIntS.lenl : ∀ k, (∀ (x1 : (List Int)) (x2 : Int) (x3 : Int) (r : (Int × (List Int))), laws_markIntS.l0 k x1 x2 x3 = some r → r.2.length = x1.length)
 | 0 => (by intro x1 x2 x3 r h; unfold laws_markIntS.l0 at h; cases h)
 | k + 1 => by
  have ih0 := laws_markIntS.lenl k
  · intro x1 x2 x3 r h
    unfold laws_markIntS.l0 at h
    by_cases c1 : x3 < (x1.length : Int)
    · rw [if_pos c1] at h
      by_cases c2 : 0 ≤ x3
      · rw [if_pos c2] at h
        have q := ih0 (x1.set x3.toNat x2) (wrap64 (x2 + 1)) (wrap64 (x3 + 1)) _ h
        first | exact q | (simp only [List.length_set] at q; exact q)
      · rw [if_neg c2] at h
        cases h
    · rw [if_neg c1] at h
      have h := Option.some.inj h
      subst h
      first | rfl | (simp only [List.length_set]; done) | exact ⟨by first | rfl | simp only [List.length_set]⟩
theorem laws_markIntS.len (k : Nat) (a0 : (List Int)) (a1 : Int) (r : (Int × (List Int))) (h : laws_markIntS.f k a0 a1 = some r) : r.2.length = a0.length := by
  unfold laws_markIntS.f at h
  have ih0 := laws_markIntS.lenl k
  have q := ih0 a0 a1 0 _ h
  first | exact q | (simp only [List.length_set] at q; exact q)
/-! laws_markStayS: function 28 -/
def laws_markStayS.l0 : Nat → (List S49) → Int → Int → Option (Int × (List S49))
 | 0, _, _, _ => none
 | k + 1, x1, x2, x3 => (if x3 < (x1.length : Int) then (if 0 ≤ x3 then (laws_markStayS.l0 k (x1.set x3.toNat (⟨x2, (wrap64 (x2 + 1)), (wrap64 ((wrap64 (x2 + 1)) + 1))⟩ : S49)) (wrap64 ((wrap64 ((wrap64 (x2 + 1)) + 1)) + 1)) (wrap64 (x3 + 1))) else none) else (some (x2, x1)))
def laws_markStayS.f (k : Nat) (a0 : (List S49)) (a1 : Int) : Option (Int × (List S49)) := (laws_markStayS.l0 k a0 a1 0)
theorem laws_markStayS.lab : ∀ k, (∀ (x1 : (List S49)) (x2 : Int) (x3 : Int) (r : (Int × (List S49))), laws_markStayS.l0 k x1 x2 x3 = some r → J prog (.run 28 [0] [l_ 26, b_ 0, c_ 7] [(0, (.rf 0 0 x1.length 3 (x1.length * 3))), (1, (I x2)), (5, (I x3))] [(0, (x1.flatMap e49))] (I r.1) [(0, (r.2.flatMap e49))]))
 | 0 => (by intro x1 x2 x3 r h; unfold laws_markStayS.l0 at h; cases h)
 | k + 1 => by
  have ih0 := laws_markStayS.lab k
  · intro x1 x2 x3 r h
    unfold laws_markStayS.l0 at h
    refine .loop' [c_ 208, c_ 209, c_ 105, l_ 26, b_ 0, c_ 7] ?_
    refine .reg' [0, 1, 5, 9] [] ⟨[(0, (.rf 0 0 x1.length 3 (x1.length * 3))), (1, (I x2)), (5, (I x3)), (9, (B (decide (x3 < (x1.length : Int)))))], [(0, (x1.flatMap e49))], [], []⟩ [c_ 209, c_ 105, l_ 26, b_ 0, c_ 7] aln nocal ?_
    by_cases c1 : x3 < (x1.length : Int)
    · rw [if_pos c1] at h
      refine .cond' (.tmp 9) true [c_ 840, c_ 841, b_ 1, c_ 211, l_ 26, b_ 0, c_ 7] (bT (dT c1)) ?_
      by_cases c2 : 0 ≤ x3
      · rw [if_pos c2] at h
        refine .reg' [0, 1, 5] [.no, .no, .no, .no, .no, .w .un ((x1.set x3.toNat (⟨x2, (at_ x1 x3).f1, (at_ x1 x3).f2⟩ : S49)).flatMap e49)] ⟨[(0, (.rf 0 0 x1.length 3 (x1.length * 3))), (1, (I x2)), (5, (I x3))], [(0, ((x1.set x3.toNat (⟨x2, (at_ x1 x3).f1, (at_ x1 x3).f2⟩ : S49)).flatMap e49))], [(0 : Int) ≤ x3 ∧ x3 < (x1.length : Int), V.un = V.un, spl (x1.flatMap e49) (0 + x3.toNat * 3 + 0) [(I x2)] = ((x1.set x3.toNat (⟨x2, (at_ x1 x3).f1, (at_ x1 x3).f2⟩ : S49)).flatMap e49), x1.length * 3 = (x1.flatMap e49).length ∧ 0 + x3.toNat * 3 + 0 + 1 ≤ (x1.flatMap e49).length], []⟩ [c_ 1682, c_ 1683, b_ 1, c_ 211, l_ 26, b_ 0, c_ 7] (alc ⟨c2, c1⟩ (alc rfl (alc (st_row e49_ok 0 c2 c1 (Nat.le_of_ble_eq_true rfl) rfl) (alc (okA e49_ok c2 c1 (by decide)) aln)))) nocal ?_
        refine .eqs (env2 := [(0, (.rf 0 0 ((x1.set x3.toNat (⟨x2, (at_ x1 x3).f1, (at_ x1 x3).f2⟩ : S49)).length) 3 ((x1.set x3.toNat (⟨x2, (at_ x1 x3).f1, (at_ x1 x3).f2⟩ : S49)).length * 3))), (1, (I x2)), (5, (I x3))]) (H2 := [(0, ((x1.set x3.toNat (⟨x2, (at_ x1 x3).f1, (at_ x1 x3).f2⟩ : S49)).flatMap e49))]) (by first | (simp only [List.length_set]; done) | simp) (by first | rfl | (simp only [List.length_set]; done) | simp) ?_
        refine .reg' [0, 1, 5] [] ⟨[(0, (.rf 0 0 ((x1.set x3.toNat (⟨x2, (at_ x1 x3).f1, (at_ x1 x3).f2⟩ : S49)).length) 3 ((x1.set x3.toNat (⟨x2, (at_ x1 x3).f1, (at_ x1 x3).f2⟩ : S49)).length * 3))), (1, (I (wrap64 (x2 + 1)))), (5, (I x3))], [(0, ((x1.set x3.toNat (⟨x2, (at_ x1 x3).f1, (at_ x1 x3).f2⟩ : S49)).flatMap e49))], [], []⟩ [c_ 3366, c_ 3367, b_ 1, c_ 211, l_ 26, b_ 0, c_ 7] aln nocal ?_
        refine .reg' [0, 1, 5] [.no, .no, .no, .no, .no, .w .un ((x1.set x3.toNat (⟨x2, (wrap64 (x2 + 1)), (at_ x1 x3).f2⟩ : S49)).flatMap e49)] ⟨[(0, (.rf 0 0 ((x1.set x3.toNat (⟨x2, (at_ x1 x3).f1, (at_ x1 x3).f2⟩ : S49)).length) 3 ((x1.set x3.toNat (⟨x2, (at_ x1 x3).f1, (at_ x1 x3).f2⟩ : S49)).length * 3))), (1, (I (wrap64 (x2 + 1)))), (5, (I x3))], [(0, ((x1.set x3.toNat (⟨x2, (wrap64 (x2 + 1)), (at_ x1 x3).f2⟩ : S49)).flatMap e49))], [(0 : Int) ≤ x3 ∧ x3 < ((x1.set x3.toNat (⟨x2, (at_ x1 x3).f1, (at_ x1 x3).f2⟩ : S49)).length : Int), V.un = V.un, spl ((x1.set x3.toNat (⟨x2, (at_ x1 x3).f1, (at_ x1 x3).f2⟩ : S49)).flatMap e49) (0 + x3.toNat * 3 + 1) [(I (wrap64 (x2 + 1)))] = ((x1.set x3.toNat (⟨x2, (wrap64 (x2 + 1)), (at_ x1 x3).f2⟩ : S49)).flatMap e49), (x1.set x3.toNat (⟨x2, (at_ x1 x3).f1, (at_ x1 x3).f2⟩ : S49)).length * 3 = ((x1.set x3.toNat (⟨x2, (at_ x1 x3).f1, (at_ x1 x3).f2⟩ : S49)).flatMap e49).length ∧ 0 + x3.toNat * 3 + 1 + 1 ≤ ((x1.set x3.toNat (⟨x2, (at_ x1 x3).f1, (at_ x1 x3).f2⟩ : S49)).flatMap e49).length], []⟩ [c_ 6734, c_ 6735, b_ 1, c_ 211, l_ 26, b_ 0, c_ 7] (alc ⟨c2, (ls c1)⟩ (alc rfl (alc (st_row2 e49_ok 1 c2 c1 (Nat.le_of_ble_eq_true rfl) rfl) (alc (okA e49_ok c2 (ls c1) (by decide)) aln)))) nocal ?_
        refine .eqs (env2 := [(0, (.rf 0 0 ((x1.set x3.toNat (⟨x2, (wrap64 (x2 + 1)), (at_ x1 x3).f2⟩ : S49)).length) 3 ((x1.set x3.toNat (⟨x2, (wrap64 (x2 + 1)), (at_ x1 x3).f2⟩ : S49)).length * 3))), (1, (I (wrap64 (x2 + 1)))), (5, (I x3))]) (H2 := [(0, ((x1.set x3.toNat (⟨x2, (wrap64 (x2 + 1)), (at_ x1 x3).f2⟩ : S49)).flatMap e49))]) (by first | (simp only [List.length_set]; done) | simp) (by first | rfl | (simp only [List.length_set]; done) | simp) ?_
        refine .reg' [0, 1, 5] [] ⟨[(0, (.rf 0 0 ((x1.set x3.toNat (⟨x2, (wrap64 (x2 + 1)), (at_ x1 x3).f2⟩ : S49)).length) 3 ((x1.set x3.toNat (⟨x2, (wrap64 (x2 + 1)), (at_ x1 x3).f2⟩ : S49)).length * 3))), (1, (I (wrap64 ((wrap64 (x2 + 1)) + 1)))), (5, (I x3))], [(0, ((x1.set x3.toNat (⟨x2, (wrap64 (x2 + 1)), (at_ x1 x3).f2⟩ : S49)).flatMap e49))], [], []⟩ [c_ 13470, c_ 13471, b_ 1, c_ 211, l_ 26, b_ 0, c_ 7] aln nocal ?_
        refine .reg' [0, 1, 5] [.no, .no, .no, .no, .no, .w .un ((x1.set x3.toNat (⟨x2, (wrap64 (x2 + 1)), (wrap64 ((wrap64 (x2 + 1)) + 1))⟩ : S49)).flatMap e49)] ⟨[(0, (.rf 0 0 ((x1.set x3.toNat (⟨x2, (wrap64 (x2 + 1)), (at_ x1 x3).f2⟩ : S49)).length) 3 ((x1.set x3.toNat (⟨x2, (wrap64 (x2 + 1)), (at_ x1 x3).f2⟩ : S49)).length * 3))), (1, (I (wrap64 ((wrap64 (x2 + 1)) + 1)))), (5, (I x3))], [(0, ((x1.set x3.toNat (⟨x2, (wrap64 (x2 + 1)), (wrap64 ((wrap64 (x2 + 1)) + 1))⟩ : S49)).flatMap e49))], [(0 : Int) ≤ x3 ∧ x3 < ((x1.set x3.toNat (⟨x2, (wrap64 (x2 + 1)), (at_ x1 x3).f2⟩ : S49)).length : Int), V.un = V.un, spl ((x1.set x3.toNat (⟨x2, (wrap64 (x2 + 1)), (at_ x1 x3).f2⟩ : S49)).flatMap e49) (0 + x3.toNat * 3 + 2) [(I (wrap64 ((wrap64 (x2 + 1)) + 1)))] = ((x1.set x3.toNat (⟨x2, (wrap64 (x2 + 1)), (wrap64 ((wrap64 (x2 + 1)) + 1))⟩ : S49)).flatMap e49), (x1.set x3.toNat (⟨x2, (wrap64 (x2 + 1)), (at_ x1 x3).f2⟩ : S49)).length * 3 = ((x1.set x3.toNat (⟨x2, (wrap64 (x2 + 1)), (at_ x1 x3).f2⟩ : S49)).flatMap e49).length ∧ 0 + x3.toNat * 3 + 2 + 1 ≤ ((x1.set x3.toNat (⟨x2, (wrap64 (x2 + 1)), (at_ x1 x3).f2⟩ : S49)).flatMap e49).length], []⟩ [c_ 13471, b_ 1, c_ 211, l_ 26, b_ 0, c_ 7] (alc ⟨c2, (ls c1)⟩ (alc rfl (alc (st_row2 e49_ok 2 c2 c1 (Nat.le_of_ble_eq_true rfl) rfl) (alc (okA e49_ok c2 (ls c1) (by decide)) aln)))) nocal ?_
        refine .eqs (env2 := [(0, (.rf 0 0 ((x1.set x3.toNat (⟨x2, (wrap64 (x2 + 1)), (wrap64 ((wrap64 (x2 + 1)) + 1))⟩ : S49)).length) 3 ((x1.set x3.toNat (⟨x2, (wrap64 (x2 + 1)), (wrap64 ((wrap64 (x2 + 1)) + 1))⟩ : S49)).length * 3))), (1, (I (wrap64 ((wrap64 (x2 + 1)) + 1)))), (5, (I x3))]) (H2 := [(0, ((x1.set x3.toNat (⟨x2, (wrap64 (x2 + 1)), (wrap64 ((wrap64 (x2 + 1)) + 1))⟩ : S49)).flatMap e49))]) (by first | (simp only [List.length_set]; done) | simp) (by first | rfl | (simp only [List.length_set]; done) | simp) ?_
        refine .reg' [0, 1, 5] [] ⟨[(0, (.rf 0 0 ((x1.set x3.toNat (⟨x2, (wrap64 (x2 + 1)), (wrap64 ((wrap64 (x2 + 1)) + 1))⟩ : S49)).length) 3 ((x1.set x3.toNat (⟨x2, (wrap64 (x2 + 1)), (wrap64 ((wrap64 (x2 + 1)) + 1))⟩ : S49)).length * 3))), (1, (I (wrap64 ((wrap64 ((wrap64 (x2 + 1)) + 1)) + 1)))), (5, (I x3))], [(0, ((x1.set x3.toNat (⟨x2, (wrap64 (x2 + 1)), (wrap64 ((wrap64 (x2 + 1)) + 1))⟩ : S49)).flatMap e49))], [], []⟩ [c_ 211, l_ 26, b_ 0, c_ 7] aln nocal ?_
        refine .reg' [0, 1, 5] [] ⟨[(0, (.rf 0 0 ((x1.set x3.toNat (⟨x2, (wrap64 (x2 + 1)), (wrap64 ((wrap64 (x2 + 1)) + 1))⟩ : S49)).length) 3 ((x1.set x3.toNat (⟨x2, (wrap64 (x2 + 1)), (wrap64 ((wrap64 (x2 + 1)) + 1))⟩ : S49)).length * 3))), (1, (I (wrap64 ((wrap64 ((wrap64 (x2 + 1)) + 1)) + 1)))), (5, (I (wrap64 (x3 + 1))))], [(0, ((x1.set x3.toNat (⟨x2, (wrap64 (x2 + 1)), (wrap64 ((wrap64 (x2 + 1)) + 1))⟩ : S49)).flatMap e49))], [], []⟩ [l_ 26, b_ 0, c_ 7] aln nocal ?_
        exact ih0 (x1.set x3.toNat (⟨x2, (wrap64 (x2 + 1)), (wrap64 ((wrap64 (x2 + 1)) + 1))⟩ : S49)) (wrap64 ((wrap64 ((wrap64 (x2 + 1)) + 1)) + 1)) (wrap64 (x3 + 1)) _ h
      · rw [if_neg c2] at h
        cases h
    · rw [if_neg c1] at h
      refine .cond' (.tmp 9) false [c_ 14, c_ 15] (bF (dF c1)) ?_
      refine .reg' [4] [] ⟨[(4, (I x2))], [(0, (x1.flatMap e49))], [], []⟩ [c_ 15] aln nocal ?_
      have h := Option.some.inj h
      subst h
      exact .fin' [] [(0, 0)] (I x2) [] aln (shc 0 (rowF e49_ok _) shn) (.z .s)
theorem laws_markStayS.J (k : Nat) (a0 : (List S49)) (a1 : Int) (r : (Int × (List S49))) (h : laws_markStayS.f k a0 a1 = some r) : J prog (.call 28 [(.rf 0 0 a0.length 3 (a0.length * 3)), (I a1)] [(0, (a0.flatMap e49))] (I r.1) [(0, (r.2.flatMap e49))]) := by
  unfold laws_markStayS.f at h
  have ih0 := laws_markStayS.lab k
  refine .call' [c_ 2, c_ 3] ?_
  refine .reg' [0, 1] [] ⟨[(0, (.rf 0 0 a0.length 3 (a0.length * 3))), (1, (I a1))], [(0, (a0.flatMap e49))], [], []⟩ [c_ 12, c_ 13, c_ 7] aln nocal ?_
  refine .reg' [0, 1, 5] [] ⟨[(0, (.rf 0 0 a0.length 3 (a0.length * 3))), (1, (I a1)), (5, (I 0))], [(0, (a0.flatMap e49))], [], []⟩ [l_ 26, b_ 0, c_ 7] aln nocal ?_
  exact ih0 a0 a1 0 _ h
theorem laws_markStayS.lenl : ∀ k, (∀ (x1 : (List S49)) (x2 : Int) (x3 : Int) (r : (Int × (List S49))), laws_markStayS.l0 k x1 x2 x3 = some r → r.2.length = x1.length)
 | 0 => (by intro x1 x2 x3 r h; unfold laws_markStayS.l0 at h; cases h)
 | k + 1 => by
  have ih0 := laws_markStayS.lenl k
  · intro x1 x2 x3 r h
    unfold laws_markStayS.l0 at h
    by_cases c1 : x3 < (x1.length : Int)
    · rw [if_pos c1] at h
      by_cases c2 : 0 ≤ x3
      · rw [if_pos c2] at h
        have q := ih0 (x1.set x3.toNat (⟨x2, (wrap64 (x2 + 1)), (wrap64 ((wrap64 (x2 + 1)) + 1))⟩ : S49)) (wrap64 ((wrap64 ((wrap64 (x2 + 1)) + 1)) + 1)) (wrap64 (x3 + 1)) _ h
        first | exact q | (simp only [List.length_set] at q; exact q)
      · rw [if_neg c2] at h
        cases h
    · rw [if_neg c1] at h
      have h := Option.some.inj h
      subst h
      first | rfl | (simp only [List.length_set]; done) | exact ⟨by first | rfl | simp only [List.length_set]⟩
theorem laws_markStayS.len (k : Nat) (a0 : (List S49)) (a1 : Int) (r : (Int × (List S49))) (h : laws_markStayS.f k a0 a1 = some r) : r.2.length = a0.length := by
  unfold laws_markStayS.f at h
  have ih0 := laws_markStayS.lenl k
  have q := ih0 a0 a1 0 _ h
  first | exact q | (simp only [List.length_set] at q; exact q)
/-! laws_heldIntS: function 29 -/
def laws_heldIntS.l0 : Nat → (List Int) → Int → Int → Option Int
 | 0, _, _, _ => none
 | k + 1, a0, x1, x2 => (if x2 < (a0.length : Int) then (if 0 ≤ x2 then (if (at_ a0 x2) = x1 then (laws_heldIntS.l0 k a0 (wrap64 (x1 + 1)) (wrap64 (x2 + 1))) else (some (-1))) else none) else (some x1))
def laws_heldIntS.f (k : Nat) (a0 : (List Int)) (a1 : Int) : Option Int := (laws_heldIntS.l0 k a0 a1 0)
theorem laws_heldIntS.lab : ∀ k, (∀ (a0 : (List Int)) (x1 : Int) (x2 : Int) (r : Int), laws_heldIntS.l0 k a0 x1 x2 = some r → J prog (.run 29 [] [l_ 26, b_ 0, c_ 7] [(0, (.sl true a0.length 1 (a0.flatMap encI))), (1, (I x1)), (5, (I x2))] [] (I r) []))
 | 0 => (by intro a0 x1 x2 r h; unfold laws_heldIntS.l0 at h; cases h)
 | k + 1 => by
  have ih0 := laws_heldIntS.lab k
  · intro a0 x1 x2 r h
    unfold laws_heldIntS.l0 at h
    refine .loop' [c_ 208, c_ 209, c_ 105, l_ 26, b_ 0, c_ 7] ?_
    refine .reg' [0, 1, 5, 9] [] ⟨[(0, (.sl true a0.length 1 (a0.flatMap encI))), (1, (I x1)), (5, (I x2)), (9, (B (decide (x2 < (a0.length : Int)))))], [], [], []⟩ [c_ 209, c_ 105, l_ 26, b_ 0, c_ 7] aln nocal ?_
    by_cases c1 : x2 < (a0.length : Int)
    · rw [if_pos c1] at h
      refine .cond' (.tmp 9) true [c_ 1680, c_ 1681, c_ 841, b_ 1, c_ 211, l_ 26, b_ 0, c_ 7] (bT (dT c1)) ?_
      by_cases c2 : 0 ≤ x2
      · rw [if_pos c2] at h
        refine .reg' [0, 1, 5, 17] [.no, .no, .no, .v (I (at_ a0 x2))] ⟨[(0, (.sl true a0.length 1 (a0.flatMap encI))), (1, (I x1)), (5, (I x2)), (17, (B (!((at_ a0 x2) == x1))))], [], [(0 : Int) ≤ x2 ∧ x2 < (a0.length : Int), rdC prog 3 ((a0.flatMap encI).drop (x2.toNat * 1)) = (I (at_ a0 x2)), 1 ≤ ((a0.flatMap encI).drop (x2.toNat * 1)).length], []⟩ [c_ 1681, c_ 841, b_ 1, c_ 211, l_ 26, b_ 0, c_ 7] (alc ⟨c2, c1⟩ (alc (ldC1 encI_ok rfl c2 c1) (alc (okI encI_ok c2 c1 (by decide)) aln))) nocal ?_
        by_cases c3 : (at_ a0 x2) = x1
        · rw [if_pos c3] at h
          refine .cond' (.tmp 17) false [c_ 841, b_ 1, c_ 211, l_ 26, b_ 0, c_ 7] (bF (nF (qT c3))) ?_
          refine .reg' [0, 1, 5] [] ⟨[(0, (.sl true a0.length 1 (a0.flatMap encI))), (1, (I (wrap64 (x1 + 1)))), (5, (I x2))], [], [], []⟩ [c_ 211, l_ 26, b_ 0, c_ 7] aln nocal ?_
          refine .reg' [0, 1, 5] [] ⟨[(0, (.sl true a0.length 1 (a0.flatMap encI))), (1, (I (wrap64 (x1 + 1)))), (5, (I (wrap64 (x2 + 1))))], [], [], []⟩ [l_ 26, b_ 0, c_ 7] aln nocal ?_
          exact ih0 a0 (wrap64 (x1 + 1)) (wrap64 (x2 + 1)) _ h
        · rw [if_neg c3] at h
          refine .cond' (.tmp 17) true [c_ 6724, c_ 6725, c_ 841, b_ 1, c_ 211, l_ 26, b_ 0, c_ 7] (bT (nT (qF c3))) ?_
          refine .reg' [4] [] ⟨[(4, (I (-1)))], [], [], []⟩ [c_ 6725, c_ 841, b_ 1, c_ 211, l_ 26, b_ 0, c_ 7] aln nocal ?_
          have h := Option.some.inj h
          subst h
          exact .fin0 [] (I (-1)) [] aln (.z .s)
      · rw [if_neg c2] at h
        cases h
    · rw [if_neg c1] at h
      refine .cond' (.tmp 9) false [c_ 14, c_ 15] (bF (dF c1)) ?_
      refine .reg' [4] [] ⟨[(4, (I x1))], [], [], []⟩ [c_ 15] aln nocal ?_
      have h := Option.some.inj h
      subst h
      exact .fin0 [] (I x1) [] aln (.z .s)
theorem laws_heldIntS.J (k : Nat) (a0 : (List Int)) (a1 : Int) (r : Int) (h : laws_heldIntS.f k a0 a1 = some r) : J prog (.call 29 [(.sl true a0.length 1 (a0.flatMap encI)), (I a1)] [] (I r) []) := by
  unfold laws_heldIntS.f at h
  have ih0 := laws_heldIntS.lab k
  refine .call' [c_ 2, c_ 3] ?_
  refine .reg' [0, 1] [] ⟨[(0, (.sl true a0.length 1 (a0.flatMap encI))), (1, (I a1))], [], [], []⟩ [c_ 12, c_ 13, c_ 7] aln nocal ?_
  refine .reg' [0, 1, 5] [] ⟨[(0, (.sl true a0.length 1 (a0.flatMap encI))), (1, (I a1)), (5, (I 0))], [], [], []⟩ [l_ 26, b_ 0, c_ 7] aln nocal ?_
  exact ih0 a0 a1 0 _ h
/-! laws_FnExactAssign: function 8 -/
def laws_FnExactAssign.f (k : Nat) (a0 : (List Int)) (a1 : (List S49)) (a2 : Int) : Option Bool := (if (a0.length : Int) > 1048576 then (some true) else ((laws_szStayS.f a1 1048576).bind fun x1 => (if x1 < 0 then (some true) else ((laws_toIntS.f k a0).bind fun x2 => ((laws_toStayS.f k a1).bind fun x3 => ((spec_Assign.f k x2 x3 a2).bind fun x4 => ((laws_toIntS.f k a0).bind fun x5 => ((laws_toStayS.f k a1).bind fun x6 => ((impl_Assign.f k x5 x6 a2).bind fun x7 => ((laws_eqIntS.f k x7 x4).bind fun x8 => (if x8 = true then ((laws_toIntS.f k a0).bind fun x9 => ((laws_eqIntS.f k x5 x9).bind fun x10 => (if x10 = true then ((laws_toStayS.f k a1).bind fun x11 => ((laws_eqStayS.f k x6 x11).bind fun x12 => (if x12 = true then ((laws_markIntS.f k x5 1).bind fun x13 => ((laws_markStayS.f k x6 x13.1).bind fun x14 => (if x14.1 < 0 then (some false) else ((laws_eqIntS.f k x7 x4).bind fun x15 => (if x15 = true then ((laws_markIntS.f k x7 1).bind fun x16 => ((laws_heldIntS.f k x16.2 1).bind fun x17 => (if x17 < 0 then (some false) else (if x17 = x16.1 then ((laws_toIntS.f k a0).bind fun x18 => ((laws_toStayS.f k a1).bind fun x19 => ((impl_Assign.f k x18 x19 a2).bind fun x20 => ((laws_eqIntS.f k x20 x4).bind fun x21 => (if x21 = true then ((laws_heldIntS.f k x16.2 1).bind fun x22 => (if x22 < 0 then (some false) else (if x22 = x16.1 then (some true) else (some false)))) else (some false)))))) else (some false))))) else (some false)))))) else (some false)))) else (some false)))) else (some false))))))))))))
theorem laws_FnExactAssign.J (k : Nat) (a0 : (List Int)) (a1 : (List S49)) (a2 : Int) (r : Bool) (h : laws_FnExactAssign.f k a0 a1 a2 = some r) : J prog (.call 8 [(.sl true a0.length 1 (a0.flatMap encI)), (.sl true a1.length 3 (a1.flatMap e49)), (I a2)] [] (B r) []) := by
  unfold laws_FnExactAssign.f at h
  refine .call' [c_ 2, c_ 3] ?_
  refine .reg' [0, 1, 2] [] ⟨[(0, (.sl true a0.length 1 (a0.flatMap encI))), (1, (.sl true a1.length 3 (a1.flatMap e49))), (2, (I a2))], [], [], []⟩ [c_ 12, c_ 13, c_ 7] aln nocal ?_
  refine .reg' [0, 1, 2, 18] [] ⟨[(0, (.sl true a0.length 1 (a0.flatMap encI))), (1, (.sl true a1.length 3 (a1.flatMap e49))), (2, (I a2)), (18, (B (decide ((a0.length : Int) > 1048576))))], [], [], []⟩ [c_ 13, c_ 7] aln nocal ?_
  by_cases c1 : (a0.length : Int) > 1048576
  · rw [if_pos c1] at h
    refine .cond' (.tmp 18) true [c_ 52, c_ 53, c_ 7] (bT (dT c1)) ?_
    refine .reg' [6] [] ⟨[(6, (B true))], [], [], []⟩ [c_ 53, c_ 7] aln nocal ?_
    have h := Option.some.inj h
    subst h
    exact .fin0 [] (B true) [] aln (.z .s)
  · rw [if_neg c1] at h
    refine .cond' (.tmp 18) false [c_ 14, c_ 15] (bF (dF c1)) ?_
    refine .reg' [0, 1, 2, 7] [] ⟨[(0, (.sl true a0.length 1 (a0.flatMap encI))), (1, (.sl true a1.length 3 (a1.flatMap e49))), (2, (I a2)), (7, (I 1048576))], [], [], []⟩ [c_ 30, c_ 31] aln nocal ?_
    obtain ⟨x1, hx1, h⟩ := Option.bind_eq_some_iff.mp h
    refine .reg' [0, 1, 2, 7] [.no, .no, .c ⟨16, [(.sl true a1.length 3 (a1.flatMap e49)), (I 1048576)], [], (I x1), [], [], [], [], (I x1), []⟩] ⟨[(0, (.sl true a0.length 1 (a0.flatMap encI))), (1, (.sl true a1.length 3 (a1.flatMap e49))), (2, (I a2)), (7, (I x1))], [], [COK (hget []) [(.sl true a1.length 3 (a1.flatMap e49)), (I 1048576)] ⟨16, [(.sl true a1.length 3 (a1.flatMap e49)), (I 1048576)], [], (I x1), [], [], [], [], (I x1), []⟩], [⟨16, [(.sl true a1.length 3 (a1.flatMap e49)), (I 1048576)], [], (I x1), [], [], [], [], (I x1), []⟩]⟩ [c_ 124, c_ 125, c_ 63] (alc (cok0 false (a2c (.z (frz_sl e49_ok (fun h => h))) (a2c (.z .s) a2n)) (.z .s) (fun h => absurd h (by decide))) aln) (acal (laws_szStayS.J a1 1048576 _ hx1) nocal) ?_
    refine .reg' [0, 1, 2, 23] [] ⟨[(0, (.sl true a0.length 1 (a0.flatMap encI))), (1, (.sl true a1.length 3 (a1.flatMap e49))), (2, (I a2)), (23, (B (decide (x1 < 0))))], [], [], []⟩ [c_ 125, c_ 63] aln nocal ?_
    by_cases c2 : x1 < 0
    · rw [if_pos c2] at h
      refine .cond' (.tmp 23) true [c_ 500, c_ 501, c_ 63] (bT (dT c2)) ?_
      refine .reg' [6] [] ⟨[(6, (B true))], [], [], []⟩ [c_ 501, c_ 63] aln nocal ?_
      have h := Option.some.inj h
      subst h
      exact .fin0 [] (B true) [] aln (.z .s)
    · rw [if_neg c2] at h
      refine .cond' (.tmp 23) false [c_ 126, c_ 127] (bF (dF c2)) ?_
      obtain ⟨x2, hx2, h⟩ := Option.bind_eq_some_iff.mp h
      obtain ⟨x3, hx3, h⟩ := Option.bind_eq_some_iff.mp h
      obtain ⟨x4, hx4, h⟩ := Option.bind_eq_some_iff.mp h
      refine .reg' [0, 1, 2, 8] [.no, .c ⟨13, [(.sl true a0.length 1 (a0.flatMap encI))], [], (.rf 514 0 x2.length 1 (x2.length * 1)), [(514, (x2.flatMap encI))], [], [], [(1002049, 514)], (.rf 1002049 0 x2.length 1 (x2.length * 1)), [(1002049, (x2.flatMap encI))]⟩, .no, .c ⟨18, [(.sl true a1.length 3 (a1.flatMap e49))], [], (.rf 514 0 x3.length 3 (x3.length * 3)), [(514, (x3.flatMap e49))], [], [], [(1002051, 514)], (.rf 1002051 0 x3.length 3 (x3.length * 3)), [(1002051, (x3.flatMap e49))]⟩, .no, .c ⟨30, [(.sl true x2.length 1 (x2.flatMap encI)), (.sl true x3.length 3 (x3.flatMap e49)), (I a2)], [], (.rf 1024 0 x4.length 1 (x4.length * 1)), [(1024, (x4.flatMap encI))], [1002049, 1002051], [], [(1002053, 1024)], (.rf 1002053 0 x4.length 1 (x4.length * 1)), [(1002053, (x4.flatMap encI))]⟩] ⟨[(0, (.sl true a0.length 1 (a0.flatMap encI))), (1, (.sl true a1.length 3 (a1.flatMap e49))), (2, (I a2)), (8, (.rf 1002053 0 x4.length 1 (x4.length * 1)))], [(1002049, (x2.flatMap encI)), (1002051, (x3.flatMap e49)), (1002053, (x4.flatMap encI))], [COK (hget []) [(.sl true a0.length 1 (a0.flatMap encI))] ⟨13, [(.sl true a0.length 1 (a0.flatMap encI))], [], (.rf 514 0 x2.length 1 (x2.length * 1)), [(514, (x2.flatMap encI))], [], [], [(1002049, 514)], (.rf 1002049 0 x2.length 1 (x2.length * 1)), [(1002049, (x2.flatMap encI))]⟩, COK (hget [(1002049, (x2.flatMap encI))]) [(.sl true a1.length 3 (a1.flatMap e49))] ⟨18, [(.sl true a1.length 3 (a1.flatMap e49))], [], (.rf 514 0 x3.length 3 (x3.length * 3)), [(514, (x3.flatMap e49))], [], [], [(1002051, 514)], (.rf 1002051 0 x3.length 3 (x3.length * 3)), [(1002051, (x3.flatMap e49))]⟩, COK (hget [(1002049, (x2.flatMap encI)), (1002051, (x3.flatMap e49))]) [(.rf 1002049 0 x2.length 1 (x2.length * 1)), (.rf 1002051 0 x3.length 3 (x3.length * 3)), (I a2)] ⟨30, [(.sl true x2.length 1 (x2.flatMap encI)), (.sl true x3.length 3 (x3.flatMap e49)), (I a2)], [], (.rf 1024 0 x4.length 1 (x4.length * 1)), [(1024, (x4.flatMap encI))], [1002049, 1002051], [], [(1002053, 1024)], (.rf 1002053 0 x4.length 1 (x4.length * 1)), [(1002053, (x4.flatMap encI))]⟩], [⟨13, [(.sl true a0.length 1 (a0.flatMap encI))], [], (.rf 514 0 x2.length 1 (x2.length * 1)), [(514, (x2.flatMap encI))], [], [], [(1002049, 514)], (.rf 1002049 0 x2.length 1 (x2.length * 1)), [(1002049, (x2.flatMap encI))]⟩, ⟨18, [(.sl true a1.length 3 (a1.flatMap e49))], [], (.rf 514 0 x3.length 3 (x3.length * 3)), [(514, (x3.flatMap e49))], [], [], [(1002051, 514)], (.rf 1002051 0 x3.length 3 (x3.length * 3)), [(1002051, (x3.flatMap e49))]⟩, ⟨30, [(.sl true x2.length 1 (x2.flatMap encI)), (.sl true x3.length 3 (x3.flatMap e49)), (I a2)], [], (.rf 1024 0 x4.length 1 (x4.length * 1)), [(1024, (x4.flatMap encI))], [1002049, 1002051], [], [(1002053, 1024)], (.rf 1002053 0 x4.length 1 (x4.length * 1)), [(1002053, (x4.flatMap encI))]⟩]⟩ [c_ 254, c_ 255] (alc (cokW false (a2c (.z (frz_sl encI_ok (fun h => h))) a2n) akn (akc (.inr rfl) akn) (.rf (memP_mem (p := (1002049, 514)) rfl)) (akc ⟨_, _, rfl, rfl, rowB encI_c _⟩ akn) (fun h => absurd h (by decide))) (alc (cokW false (a2c (.z (frz_sl e49_ok (fun h => h))) a2n) akn (akc (.inr rfl) akn) (.rf (memP_mem (p := (1002051, 514)) rfl)) (akc ⟨_, _, rfl, rfl, rowB e49_c _⟩ akn) (fun h => absurd h (by decide))) (alc (cokW false (a2c (.z (frz_rf encI_ok (by simp) rfl rfl (row_len encI_ok _).symm)) (a2c (.z (frz_rf e49_ok (by simp) rfl rfl (row_len e49_ok _).symm)) (a2c (.z .s) a2n))) akn (akc (.inr rfl) akn) (.rf (memP_mem (p := (1002053, 1024)) rfl)) (akc ⟨_, _, rfl, rfl, rowB encI_c _⟩ akn) (fun h => absurd h (by decide))) aln))) (acal (laws_toIntS.J k a0 _ hx2) (acal (laws_toStayS.J k a1 _ hx3) (acal (spec_Assign.J k x2 x3 a2 _ hx4) nocal))) ?_
      obtain ⟨x5, hx5, h⟩ := Option.bind_eq_some_iff.mp h
      refine .reg' [0, 1, 2, 8, 9] [.no, .c ⟨13, [(.sl true a0.length 1 (a0.flatMap encI))], [], (.rf 514 0 x5.length 1 (x5.length * 1)), [(514, (x5.flatMap encI))], [], [], [(1002305, 514)], (.rf 1002305 0 x5.length 1 (x5.length * 1)), [(1002305, (x5.flatMap encI))]⟩] ⟨[(0, (.sl true a0.length 1 (a0.flatMap encI))), (1, (.sl true a1.length 3 (a1.flatMap e49))), (2, (I a2)), (8, (.rf 1002053 0 x4.length 1 (x4.length * 1))), (9, (.rf 1002305 0 x5.length 1 (x5.length * 1)))], [(1002049, (x2.flatMap encI)), (1002051, (x3.flatMap e49)), (1002053, (x4.flatMap encI)), (1002305, (x5.flatMap encI))], [COK (hget [(1002049, (x2.flatMap encI)), (1002051, (x3.flatMap e49)), (1002053, (x4.flatMap encI))]) [(.sl true a0.length 1 (a0.flatMap encI))] ⟨13, [(.sl true a0.length 1 (a0.flatMap encI))], [], (.rf 514 0 x5.length 1 (x5.length * 1)), [(514, (x5.flatMap encI))], [], [], [(1002305, 514)], (.rf 1002305 0 x5.length 1 (x5.length * 1)), [(1002305, (x5.flatMap encI))]⟩], [⟨13, [(.sl true a0.length 1 (a0.flatMap encI))], [], (.rf 514 0 x5.length 1 (x5.length * 1)), [(514, (x5.flatMap encI))], [], [], [(1002305, 514)], (.rf 1002305 0 x5.length 1 (x5.length * 1)), [(1002305, (x5.flatMap encI))]⟩]⟩ [c_ 510, c_ 511] (alc (cokW false (a2c (.z (frz_sl encI_ok (fun h => h))) a2n) akn (akc (.inr rfl) akn) (.rf (memP_mem (p := (1002305, 514)) rfl)) (akc ⟨_, _, rfl, rfl, rowB encI_c _⟩ akn) (fun h => absurd h (by decide))) aln) (acal (laws_toIntS.J k a0 _ hx5) nocal) ?_
      obtain ⟨x6, hx6, h⟩ := Option.bind_eq_some_iff.mp h
      refine .reg' [0, 1, 2, 8, 9, 10] [.no, .c ⟨18, [(.sl true a1.length 3 (a1.flatMap e49))], [], (.rf 514 0 x6.length 3 (x6.length * 3)), [(514, (x6.flatMap e49))], [], [], [(1002561, 514)], (.rf 1002561 0 x6.length 3 (x6.length * 3)), [(1002561, (x6.flatMap e49))]⟩] ⟨[(0, (.sl true a0.length 1 (a0.flatMap encI))), (1, (.sl true a1.length 3 (a1.flatMap e49))), (2, (I a2)), (8, (.rf 1002053 0 x4.length 1 (x4.length * 1))), (9, (.rf 1002305 0 x5.length 1 (x5.length * 1))), (10, (.rf 1002561 0 x6.length 3 (x6.length * 3)))], [(1002049, (x2.flatMap encI)), (1002051, (x3.flatMap e49)), (1002053, (x4.flatMap encI)), (1002305, (x5.flatMap encI)), (1002561, (x6.flatMap e49))], [COK (hget [(1002049, (x2.flatMap encI)), (1002051, (x3.flatMap e49)), (1002053, (x4.flatMap encI)), (1002305, (x5.flatMap encI))]) [(.sl true a1.length 3 (a1.flatMap e49))] ⟨18, [(.sl true a1.length 3 (a1.flatMap e49))], [], (.rf 514 0 x6.length 3 (x6.length * 3)), [(514, (x6.flatMap e49))], [], [], [(1002561, 514)], (.rf 1002561 0 x6.length 3 (x6.length * 3)), [(1002561, (x6.flatMap e49))]⟩], [⟨18, [(.sl true a1.length 3 (a1.flatMap e49))], [], (.rf 514 0 x6.length 3 (x6.length * 3)), [(514, (x6.flatMap e49))], [], [], [(1002561, 514)], (.rf 1002561 0 x6.length 3 (x6.length * 3)), [(1002561, (x6.flatMap e49))]⟩]⟩ [c_ 1022, c_ 1023] (alc (cokW false (a2c (.z (frz_sl e49_ok (fun h => h))) a2n) akn (akc (.inr rfl) akn) (.rf (memP_mem (p := (1002561, 514)) rfl)) (akc ⟨_, _, rfl, rfl, rowB e49_c _⟩ akn) (fun h => absurd h (by decide))) aln) (acal (laws_toStayS.J k a1 _ hx6) nocal) ?_
      obtain ⟨x7, hx7, h⟩ := Option.bind_eq_some_iff.mp h
      refine .reg' [0, 1, 2, 8, 9, 10, 11] [.no, .no, .no, .c ⟨31, [(.sl true x5.length 1 (x5.flatMap encI)), (.sl true x6.length 3 (x6.flatMap e49)), (I a2)], [], (.rf 1026 0 x7.length 1 (x7.length * 1)), [(1026, (x7.flatMap encI))], [1002305, 1002561], [], [(1002819, 1026)], (.rf 1002819 0 x7.length 1 (x7.length * 1)), [(1002819, (x7.flatMap encI))]⟩] ⟨[(0, (.sl true a0.length 1 (a0.flatMap encI))), (1, (.sl true a1.length 3 (a1.flatMap e49))), (2, (I a2)), (8, (.rf 1002053 0 x4.length 1 (x4.length * 1))), (9, (.rf 1002305 0 x5.length 1 (x5.length * 1))), (10, (.rf 1002561 0 x6.length 3 (x6.length * 3))), (11, (.rf 1002819 0 x7.length 1 (x7.length * 1)))], [(1002049, (x2.flatMap encI)), (1002051, (x3.flatMap e49)), (1002053, (x4.flatMap encI)), (1002305, (x5.flatMap encI)), (1002561, (x6.flatMap e49)), (1002819, (x7.flatMap encI))], [COK (hget [(1002049, (x2.flatMap encI)), (1002051, (x3.flatMap e49)), (1002053, (x4.flatMap encI)), (1002305, (x5.flatMap encI)), (1002561, (x6.flatMap e49))]) [(.rf 1002305 0 x5.length 1 (x5.length * 1)), (.rf 1002561 0 x6.length 3 (x6.length * 3)), (I a2)] ⟨31, [(.sl true x5.length 1 (x5.flatMap encI)), (.sl true x6.length 3 (x6.flatMap e49)), (I a2)], [], (.rf 1026 0 x7.length 1 (x7.length * 1)), [(1026, (x7.flatMap encI))], [1002305, 1002561], [], [(1002819, 1026)], (.rf 1002819 0 x7.length 1 (x7.length * 1)), [(1002819, (x7.flatMap encI))]⟩], [⟨31, [(.sl true x5.length 1 (x5.flatMap encI)), (.sl true x6.length 3 (x6.flatMap e49)), (I a2)], [], (.rf 1026 0 x7.length 1 (x7.length * 1)), [(1026, (x7.flatMap encI))], [1002305, 1002561], [], [(1002819, 1026)], (.rf 1002819 0 x7.length 1 (x7.length * 1)), [(1002819, (x7.flatMap encI))]⟩]⟩ [c_ 4092, c_ 4093, c_ 2047] (alc (cokW false (a2c (.z (frz_rf encI_ok (by simp) rfl rfl (row_len encI_ok _).symm)) (a2c (.z (frz_rf e49_ok (by simp) rfl rfl (row_len e49_ok _).symm)) (a2c (.z .s) a2n))) akn (akc (.inr rfl) akn) (.rf (memP_mem (p := (1002819, 1026)) rfl)) (akc ⟨_, _, rfl, rfl, rowB encI_c _⟩ akn) (fun h => absurd h (by decide))) aln) (acal (impl_Assign.J k x5 x6 a2 _ hx7) nocal) ?_
      obtain ⟨x8, hx8, h⟩ := Option.bind_eq_some_iff.mp h
      refine .reg' [0, 1, 2, 8, 9, 10, 11, 41] [.no, .no, .c ⟨15, [(.sl true x7.length 1 (x7.flatMap encI)), (.sl true x4.length 1 (x4.flatMap encI))], [], (B x8), [], [1002053, 1002819], [], [], (B x8), []⟩] ⟨[(0, (.sl true a0.length 1 (a0.flatMap encI))), (1, (.sl true a1.length 3 (a1.flatMap e49))), (2, (I a2)), (8, (.rf 1002053 0 x4.length 1 (x4.length * 1))), (9, (.rf 1002305 0 x5.length 1 (x5.length * 1))), (10, (.rf 1002561 0 x6.length 3 (x6.length * 3))), (11, (.rf 1002819 0 x7.length 1 (x7.length * 1))), (41, (B (!x8)))], [(1002049, (x2.flatMap encI)), (1002051, (x3.flatMap e49)), (1002053, (x4.flatMap encI)), (1002305, (x5.flatMap encI)), (1002561, (x6.flatMap e49)), (1002819, (x7.flatMap encI))], [COK (hget [(1002049, (x2.flatMap encI)), (1002051, (x3.flatMap e49)), (1002053, (x4.flatMap encI)), (1002305, (x5.flatMap encI)), (1002561, (x6.flatMap e49)), (1002819, (x7.flatMap encI))]) [(.rf 1002819 0 x7.length 1 (x7.length * 1)), (.rf 1002053 0 x4.length 1 (x4.length * 1))] ⟨15, [(.sl true x7.length 1 (x7.flatMap encI)), (.sl true x4.length 1 (x4.flatMap encI))], [], (B x8), [], [1002053, 1002819], [], [], (B x8), []⟩], [⟨15, [(.sl true x7.length 1 (x7.flatMap encI)), (.sl true x4.length 1 (x4.flatMap encI))], [], (B x8), [], [1002053, 1002819], [], [], (B x8), []⟩]⟩ [c_ 4093, c_ 2047] (alc (cok0 false (a2c (.z (frz_rf encI_ok (by simp) rfl rfl (row_len encI_ok _).symm)) (a2c (.z (frz_rf encI_ok (by simp) rfl rfl (row_len encI_ok _).symm)) a2n)) (.z .s) (fun h => absurd h (by decide))) aln) (acal (laws_eqIntS.J k x7 x4 _ hx8) nocal) ?_
      by_cases c3 : x8 = true
      · rw [if_pos c3] at h
        refine .cond' (.tmp 41) false [c_ 8188, c_ 8189, c_ 4095] (bF (nF c3)) ?_
        obtain ⟨x9, hx9, h⟩ := Option.bind_eq_some_iff.mp h
        obtain ⟨x10, hx10, h⟩ := Option.bind_eq_some_iff.mp h
        refine .reg' [0, 1, 2, 8, 9, 10, 11, 46] [.no, .no, .c ⟨13, [(.sl true a0.length 1 (a0.flatMap encI))], [], (.rf 514 0 x9.length 1 (x9.length * 1)), [(514, (x9.flatMap encI))], [], [], [(1003586, 514)], (.rf 1003586 0 x9.length 1 (x9.length * 1)), [(1003586, (x9.flatMap encI))]⟩, .c ⟨15, [(.sl true x5.length 1 (x5.flatMap encI)), (.sl true x9.length 1 (x9.flatMap encI))], [], (B x10), [], [1002305, 1003586], [], [], (B x10), []⟩] ⟨[(0, (.sl true a0.length 1 (a0.flatMap encI))), (1, (.sl true a1.length 3 (a1.flatMap e49))), (2, (I a2)), (8, (.rf 1002053 0 x4.length 1 (x4.length * 1))), (9, (.rf 1002305 0 x5.length 1 (x5.length * 1))), (10, (.rf 1002561 0 x6.length 3 (x6.length * 3))), (11, (.rf 1002819 0 x7.length 1 (x7.length * 1))), (46, (B (!x10)))], [(1002049, (x2.flatMap encI)), (1002051, (x3.flatMap e49)), (1002053, (x4.flatMap encI)), (1002305, (x5.flatMap encI)), (1002561, (x6.flatMap e49)), (1002819, (x7.flatMap encI)), (1003586, (x9.flatMap encI))], [COK (hget [(1002049, (x2.flatMap encI)), (1002051, (x3.flatMap e49)), (1002053, (x4.flatMap encI)), (1002305, (x5.flatMap encI)), (1002561, (x6.flatMap e49)), (1002819, (x7.flatMap encI))]) [(.sl true a0.length 1 (a0.flatMap encI))] ⟨13, [(.sl true a0.length 1 (a0.flatMap encI))], [], (.rf 514 0 x9.length 1 (x9.length * 1)), [(514, (x9.flatMap encI))], [], [], [(1003586, 514)], (.rf 1003586 0 x9.length 1 (x9.length * 1)), [(1003586, (x9.flatMap encI))]⟩, COK (hget [(1002049, (x2.flatMap encI)), (1002051, (x3.flatMap e49)), (1002053, (x4.flatMap encI)), (1002305, (x5.flatMap encI)), (1002561, (x6.flatMap e49)), (1002819, (x7.flatMap encI)), (1003586, (x9.flatMap encI))]) [(.rf 1002305 0 x5.length 1 (x5.length * 1)), (.rf 1003586 0 x9.length 1 (x9.length * 1))] ⟨15, [(.sl true x5.length 1 (x5.flatMap encI)), (.sl true x9.length 1 (x9.flatMap encI))], [], (B x10), [], [1002305, 1003586], [], [], (B x10), []⟩], [⟨13, [(.sl true a0.length 1 (a0.flatMap encI))], [], (.rf 514 0 x9.length 1 (x9.length * 1)), [(514, (x9.flatMap encI))], [], [], [(1003586, 514)], (.rf 1003586 0 x9.length 1 (x9.length * 1)), [(1003586, (x9.flatMap encI))]⟩, ⟨15, [(.sl true x5.length 1 (x5.flatMap encI)), (.sl true x9.length 1 (x9.flatMap encI))], [], (B x10), [], [1002305, 1003586], [], [], (B x10), []⟩]⟩ [c_ 8189, c_ 4095] (alc (cokW false (a2c (.z (frz_sl encI_ok (fun h => h))) a2n) akn (akc (.inr rfl) akn) (.rf (memP_mem (p := (1003586, 514)) rfl)) (akc ⟨_, _, rfl, rfl, rowB encI_c _⟩ akn) (fun h => absurd h (by decide))) (alc (cok0 false (a2c (.z (frz_rf encI_ok (by simp) rfl rfl (row_len encI_ok _).symm)) (a2c (.z (frz_rf encI_ok (by simp) rfl rfl (row_len encI_ok _).symm)) a2n)) (.z .s) (fun h => absurd h (by decide))) aln)) (acal (laws_toIntS.J k a0 _ hx9) (acal (laws_eqIntS.J k x5 x9 _ hx10) nocal)) ?_
        by_cases c4 : x10 = true
        · rw [if_pos c4] at h
          refine .cond' (.tmp 46) false [c_ 16380, c_ 16381, c_ 8191] (bF (nF c4)) ?_
          obtain ⟨x11, hx11, h⟩ := Option.bind_eq_some_iff.mp h
          obtain ⟨x12, hx12, h⟩ := Option.bind_eq_some_iff.mp h
          refine .reg' [0, 1, 2, 8, 9, 10, 11, 51] [.no, .no, .c ⟨18, [(.sl true a1.length 3 (a1.flatMap e49))], [], (.rf 514 0 x11.length 3 (x11.length * 3)), [(514, (x11.flatMap e49))], [], [], [(1004098, 514)], (.rf 1004098 0 x11.length 3 (x11.length * 3)), [(1004098, (x11.flatMap e49))]⟩, .c ⟨20, [(.sl true x6.length 3 (x6.flatMap e49)), (.sl true x11.length 3 (x11.flatMap e49))], [], (B x12), [], [1002561, 1004098], [], [], (B x12), []⟩] ⟨[(0, (.sl true a0.length 1 (a0.flatMap encI))), (1, (.sl true a1.length 3 (a1.flatMap e49))), (2, (I a2)), (8, (.rf 1002053 0 x4.length 1 (x4.length * 1))), (9, (.rf 1002305 0 x5.length 1 (x5.length * 1))), (10, (.rf 1002561 0 x6.length 3 (x6.length * 3))), (11, (.rf 1002819 0 x7.length 1 (x7.length * 1))), (51, (B (!x12)))], [(1002049, (x2.flatMap encI)), (1002051, (x3.flatMap e49)), (1002053, (x4.flatMap encI)), (1002305, (x5.flatMap encI)), (1002561, (x6.flatMap e49)), (1002819, (x7.flatMap encI)), (1003586, (x9.flatMap encI)), (1004098, (x11.flatMap e49))], [COK (hget [(1002049, (x2.flatMap encI)), (1002051, (x3.flatMap e49)), (1002053, (x4.flatMap encI)), (1002305, (x5.flatMap encI)), (1002561, (x6.flatMap e49)), (1002819, (x7.flatMap encI)), (1003586, (x9.flatMap encI))]) [(.sl true a1.length 3 (a1.flatMap e49))] ⟨18, [(.sl true a1.length 3 (a1.flatMap e49))], [], (.rf 514 0 x11.length 3 (x11.length * 3)), [(514, (x11.flatMap e49))], [], [], [(1004098, 514)], (.rf 1004098 0 x11.length 3 (x11.length * 3)), [(1004098, (x11.flatMap e49))]⟩, COK (hget [(1002049, (x2.flatMap encI)), (1002051, (x3.flatMap e49)), (1002053, (x4.flatMap encI)), (1002305, (x5.flatMap encI)), (1002561, (x6.flatMap e49)), (1002819, (x7.flatMap encI)), (1003586, (x9.flatMap encI)), (1004098, (x11.flatMap e49))]) [(.rf 1002561 0 x6.length 3 (x6.length * 3)), (.rf 1004098 0 x11.length 3 (x11.length * 3))] ⟨20, [(.sl true x6.length 3 (x6.flatMap e49)), (.sl true x11.length 3 (x11.flatMap e49))], [], (B x12), [], [1002561, 1004098], [], [], (B x12), []⟩], [⟨18, [(.sl true a1.length 3 (a1.flatMap e49))], [], (.rf 514 0 x11.length 3 (x11.length * 3)), [(514, (x11.flatMap e49))], [], [], [(1004098, 514)], (.rf 1004098 0 x11.length 3 (x11.length * 3)), [(1004098, (x11.flatMap e49))]⟩, ⟨20, [(.sl true x6.length 3 (x6.flatMap e49)), (.sl true x11.length 3 (x11.flatMap e49))], [], (B x12), [], [1002561, 1004098], [], [], (B x12), []⟩]⟩ [c_ 16381, c_ 8191] (alc (cokW false (a2c (.z (frz_sl e49_ok (fun h => h))) a2n) akn (akc (.inr rfl) akn) (.rf (memP_mem (p := (1004098, 514)) rfl)) (akc ⟨_, _, rfl, rfl, rowB e49_c _⟩ akn) (fun h => absurd h (by decide))) (alc (cok0 false (a2c (.z (frz_rf e49_ok (by simp) rfl rfl (row_len e49_ok _).symm)) (a2c (.z (frz_rf e49_ok (by simp) rfl rfl (row_len e49_ok _).symm)) a2n)) (.z .s) (fun h => absurd h (by decide))) aln)) (acal (laws_toStayS.J k a1 _ hx11) (acal (laws_eqStayS.J k x6 x11 _ hx12) nocal)) ?_
          by_cases c5 : x12 = true
          · rw [if_pos c5] at h
            refine .cond' (.tmp 51) false [c_ 16382, c_ 16383] (bF (nF c5)) ?_
            refine .reg' [0, 1, 2, 8, 9, 10, 11, 12] [] ⟨[(0, (.sl true a0.length 1 (a0.flatMap encI))), (1, (.sl true a1.length 3 (a1.flatMap e49))), (2, (I a2)), (8, (.rf 1002053 0 x4.length 1 (x4.length * 1))), (9, (.rf 1002305 0 x5.length 1 (x5.length * 1))), (10, (.rf 1002561 0 x6.length 3 (x6.length * 3))), (11, (.rf 1002819 0 x7.length 1 (x7.length * 1))), (12, (I 1))], [(1002049, (x2.flatMap encI)), (1002051, (x3.flatMap e49)), (1002053, (x4.flatMap encI)), (1002305, (x5.flatMap encI)), (1002561, (x6.flatMap e49)), (1002819, (x7.flatMap encI)), (1003586, (x9.flatMap encI)), (1004098, (x11.flatMap e49))], [], []⟩ [c_ 32766, c_ 32767] aln nocal ?_
            obtain ⟨x13, hx13, h⟩ := Option.bind_eq_some_iff.mp h
            refine .reg' [0, 1, 2, 8, 10, 11, 12] [.no, .no, .c ⟨27, [(.rf 0 0 x5.length 1 (x5.length * 1)), (I 1)], [(0, (x5.flatMap encI))], (I x13.1), [(0, (x13.2.flatMap encI))], [], [(1002305, 0)], [(1002305, 0)], (I x13.1), [(1002305, (x13.2.flatMap encI))]⟩] ⟨[(0, (.sl true a0.length 1 (a0.flatMap encI))), (1, (.sl true a1.length 3 (a1.flatMap e49))), (2, (I a2)), (8, (.rf 1002053 0 x4.length 1 (x4.length * 1))), (10, (.rf 1002561 0 x6.length 3 (x6.length * 3))), (11, (.rf 1002819 0 x7.length 1 (x7.length * 1))), (12, (I x13.1))], [(1002049, (x2.flatMap encI)), (1002051, (x3.flatMap e49)), (1002053, (x4.flatMap encI)), (1002305, (x13.2.flatMap encI)), (1002561, (x6.flatMap e49)), (1002819, (x7.flatMap encI)), (1003586, (x9.flatMap encI)), (1004098, (x11.flatMap e49))], [COK (hget [(1002049, (x2.flatMap encI)), (1002051, (x3.flatMap e49)), (1002053, (x4.flatMap encI)), (1002305, (x5.flatMap encI)), (1002561, (x6.flatMap e49)), (1002819, (x7.flatMap encI)), (1003586, (x9.flatMap encI)), (1004098, (x11.flatMap e49))]) [(.rf 1002305 0 x5.length 1 (x5.length * 1)), (I 1)] ⟨27, [(.rf 0 0 x5.length 1 (x5.length * 1)), (I 1)], [(0, (x5.flatMap encI))], (I x13.1), [(0, (x13.2.flatMap encI))], [], [(1002305, 0)], [(1002305, 0)], (I x13.1), [(1002305, (x13.2.flatMap encI))]⟩], [⟨27, [(.rf 0 0 x5.length 1 (x5.length * 1)), (I 1)], [(0, (x5.flatMap encI))], (I x13.1), [(0, (x13.2.flatMap encI))], [], [(1002305, 0)], [(1002305, 0)], (I x13.1), [(1002305, (x13.2.flatMap encI))]⟩]⟩ [c_ 65534, c_ 65535] (alc (cokW false (a2c (.rf (memP_mem (p := (1002305, 0)) rfl)) (a2c (.z .s) a2n)) (akc ⟨_, _, rfl, rfl, (rowF encI_ok _)⟩ akn) (akc (.inl rfl) akn) (.z .s) (akc ⟨_, _, rfl, rfl, rowB encI_c _⟩ akn) (fun h => absurd h (by decide))) aln) (acal (laws_markIntS.J k x5 1 _ hx13) nocal) ?_
            obtain ⟨x14, hx14, h⟩ := Option.bind_eq_some_iff.mp h
            refine .reg' [0, 1, 2, 8, 11, 12] [.no, .no, .c ⟨28, [(.rf 0 0 x6.length 3 (x6.length * 3)), (I x13.1)], [(0, (x6.flatMap e49))], (I x14.1), [(0, (x14.2.flatMap e49))], [], [(1002561, 0)], [(1002561, 0)], (I x14.1), [(1002561, (x14.2.flatMap e49))]⟩] ⟨[(0, (.sl true a0.length 1 (a0.flatMap encI))), (1, (.sl true a1.length 3 (a1.flatMap e49))), (2, (I a2)), (8, (.rf 1002053 0 x4.length 1 (x4.length * 1))), (11, (.rf 1002819 0 x7.length 1 (x7.length * 1))), (12, (I x14.1))], [(1002049, (x2.flatMap encI)), (1002051, (x3.flatMap e49)), (1002053, (x4.flatMap encI)), (1002305, (x13.2.flatMap encI)), (1002561, (x14.2.flatMap e49)), (1002819, (x7.flatMap encI)), (1003586, (x9.flatMap encI)), (1004098, (x11.flatMap e49))], [COK (hget [(1002049, (x2.flatMap encI)), (1002051, (x3.flatMap e49)), (1002053, (x4.flatMap encI)), (1002305, (x13.2.flatMap encI)), (1002561, (x6.flatMap e49)), (1002819, (x7.flatMap encI)), (1003586, (x9.flatMap encI)), (1004098, (x11.flatMap e49))]) [(.rf 1002561 0 x6.length 3 (x6.length * 3)), (I x13.1)] ⟨28, [(.rf 0 0 x6.length 3 (x6.length * 3)), (I x13.1)], [(0, (x6.flatMap e49))], (I x14.1), [(0, (x14.2.flatMap e49))], [], [(1002561, 0)], [(1002561, 0)], (I x14.1), [(1002561, (x14.2.flatMap e49))]⟩], [⟨28, [(.rf 0 0 x6.length 3 (x6.length * 3)), (I x13.1)], [(0, (x6.flatMap e49))], (I x14.1), [(0, (x14.2.flatMap e49))], [], [(1002561, 0)], [(1002561, 0)], (I x14.1), [(1002561, (x14.2.flatMap e49))]⟩]⟩ [c_ 262140, c_ 262141, c_ 131071] (alc (cokW false (a2c (.rf (memP_mem (p := (1002561, 0)) rfl)) (a2c (.z .s) a2n)) (akc ⟨_, _, rfl, rfl, (rowF e49_ok _)⟩ akn) (akc (.inl rfl) akn) (.z .s) (akc ⟨_, _, rfl, rfl, rowB e49_c _⟩ akn) (fun h => absurd h (by decide))) aln) (acal (laws_markStayS.J k x6 x13.1 _ hx14) nocal) ?_
            by_cases c6 : x14.1 < 0
            · rw [if_pos c6] at h
              refine .reg' [0, 1, 2, 8, 11, 65] [.no, .no, .v (B true)] ⟨[(0, (.sl true a0.length 1 (a0.flatMap encI))), (1, (.sl true a1.length 3 (a1.flatMap e49))), (2, (I a2)), (8, (.rf 1002053 0 x4.length 1 (x4.length * 1))), (11, (.rf 1002819 0 x7.length 1 (x7.length * 1))), (65, (B true))], [(1002049, (x2.flatMap encI)), (1002051, (x3.flatMap e49)), (1002053, (x4.flatMap encI)), (1002305, (x13.2.flatMap encI)), (1002561, (x14.2.flatMap e49)), (1002819, (x7.flatMap encI)), (1003586, (x9.flatMap encI)), (1004098, (x11.flatMap e49))], [(B (decide (x14.1 < 0)) : V) = B true], []⟩ [c_ 262141, c_ 131071] (alc (bT (dT c6)) aln) nocal ?_
              refine .cond' (.tmp 65) true [c_ 1048564, c_ 1048565, c_ 131071] (rfl) ?_
              refine .reg' [6] [] ⟨[(6, (B false))], [(1002049, (x2.flatMap encI)), (1002051, (x3.flatMap e49)), (1002053, (x4.flatMap encI)), (1002305, (x13.2.flatMap encI)), (1002561, (x14.2.flatMap e49)), (1002819, (x7.flatMap encI)), (1003586, (x9.flatMap encI)), (1004098, (x11.flatMap e49))], [], []⟩ [c_ 1048565, c_ 131071] aln nocal ?_
              have h := Option.some.inj h
              subst h
              exact .fin0 [] (B false) [] aln (.z .s)
            · rw [if_neg c6] at h
              obtain ⟨x15, hx15, h⟩ := Option.bind_eq_some_iff.mp h
              refine .reg' [0, 1, 2, 8, 11, 65] [.no, .no, .v (B false), .no, .no, .c ⟨15, [(.sl true x7.length 1 (x7.flatMap encI)), (.sl true x4.length 1 (x4.flatMap encI))], [], (B x15), [], [1002053, 1002819], [], [], (B x15), []⟩] ⟨[(0, (.sl true a0.length 1 (a0.flatMap encI))), (1, (.sl true a1.length 3 (a1.flatMap e49))), (2, (I a2)), (8, (.rf 1002053 0 x4.length 1 (x4.length * 1))), (11, (.rf 1002819 0 x7.length 1 (x7.length * 1))), (65, (B (!x15)))], [(1002049, (x2.flatMap encI)), (1002051, (x3.flatMap e49)), (1002053, (x4.flatMap encI)), (1002305, (x13.2.flatMap encI)), (1002561, (x14.2.flatMap e49)), (1002819, (x7.flatMap encI)), (1003586, (x9.flatMap encI)), (1004098, (x11.flatMap e49))], [(B (decide (x14.1 < 0)) : V) = B false, COK (hget [(1002049, (x2.flatMap encI)), (1002051, (x3.flatMap e49)), (1002053, (x4.flatMap encI)), (1002305, (x13.2.flatMap encI)), (1002561, (x14.2.flatMap e49)), (1002819, (x7.flatMap encI)), (1003586, (x9.flatMap encI)), (1004098, (x11.flatMap e49))]) [(.rf 1002819 0 x7.length 1 (x7.length * 1)), (.rf 1002053 0 x4.length 1 (x4.length * 1))] ⟨15, [(.sl true x7.length 1 (x7.flatMap encI)), (.sl true x4.length 1 (x4.flatMap encI))], [], (B x15), [], [1002053, 1002819], [], [], (B x15), []⟩], [⟨15, [(.sl true x7.length 1 (x7.flatMap encI)), (.sl true x4.length 1 (x4.flatMap encI))], [], (B x15), [], [1002053, 1002819], [], [], (B x15), []⟩]⟩ [c_ 262141, c_ 131071] (alc (bF (dF c6)) (alc (cok0 false (a2c (.z (frz_rf encI_ok (by simp) rfl rfl (row_len encI_ok _).symm)) (a2c (.z (frz_rf encI_ok (by simp) rfl rfl (row_len encI_ok _).symm)) a2n)) (.z .s) (fun h => absurd h (by decide))) aln)) (acal (laws_eqIntS.J k x7 x4 _ hx15) nocal) ?_
              by_cases c7 : x15 = true
              · rw [if_pos c7] at h
                refine .cond' (.tmp 65) false [c_ 262142, c_ 262143] (bF (nF c7)) ?_
                refine .reg' [0, 1, 2, 8, 11, 13] [] ⟨[(0, (.sl true a0.length 1 (a0.flatMap encI))), (1, (.sl true a1.length 3 (a1.flatMap e49))), (2, (I a2)), (8, (.rf 1002053 0 x4.length 1 (x4.length * 1))), (11, (.rf 1002819 0 x7.length 1 (x7.length * 1))), (13, (I 1))], [(1002049, (x2.flatMap encI)), (1002051, (x3.flatMap e49)), (1002053, (x4.flatMap encI)), (1002305, (x13.2.flatMap encI)), (1002561, (x14.2.flatMap e49)), (1002819, (x7.flatMap encI)), (1003586, (x9.flatMap encI)), (1004098, (x11.flatMap e49))], [], []⟩ [c_ 524286, c_ 524287] aln nocal ?_
                obtain ⟨x16, hx16, h⟩ := Option.bind_eq_some_iff.mp h
                refine .reg' [0, 1, 2, 8, 11, 13] [.no, .no, .c ⟨27, [(.rf 0 0 x7.length 1 (x7.length * 1)), (I 1)], [(0, (x7.flatMap encI))], (I x16.1), [(0, (x16.2.flatMap encI))], [], [(1002819, 0)], [(1002819, 0)], (I x16.1), [(1002819, (x16.2.flatMap encI))]⟩] ⟨[(0, (.sl true a0.length 1 (a0.flatMap encI))), (1, (.sl true a1.length 3 (a1.flatMap e49))), (2, (I a2)), (8, (.rf 1002053 0 x4.length 1 (x4.length * 1))), (11, (.rf 1002819 0 x7.length 1 (x7.length * 1))), (13, (I x16.1))], [(1002049, (x2.flatMap encI)), (1002051, (x3.flatMap e49)), (1002053, (x4.flatMap encI)), (1002305, (x13.2.flatMap encI)), (1002561, (x14.2.flatMap e49)), (1002819, (x16.2.flatMap encI)), (1003586, (x9.flatMap encI)), (1004098, (x11.flatMap e49))], [COK (hget [(1002049, (x2.flatMap encI)), (1002051, (x3.flatMap e49)), (1002053, (x4.flatMap encI)), (1002305, (x13.2.flatMap encI)), (1002561, (x14.2.flatMap e49)), (1002819, (x7.flatMap encI)), (1003586, (x9.flatMap encI)), (1004098, (x11.flatMap e49))]) [(.rf 1002819 0 x7.length 1 (x7.length * 1)), (I 1)] ⟨27, [(.rf 0 0 x7.length 1 (x7.length * 1)), (I 1)], [(0, (x7.flatMap encI))], (I x16.1), [(0, (x16.2.flatMap encI))], [], [(1002819, 0)], [(1002819, 0)], (I x16.1), [(1002819, (x16.2.flatMap encI))]⟩], [⟨27, [(.rf 0 0 x7.length 1 (x7.length * 1)), (I 1)], [(0, (x7.flatMap encI))], (I x16.1), [(0, (x16.2.flatMap encI))], [], [(1002819, 0)], [(1002819, 0)], (I x16.1), [(1002819, (x16.2.flatMap encI))]⟩]⟩ [c_ 1048574, c_ 1048575] (alc (cokW false (a2c (.rf (memP_mem (p := (1002819, 0)) rfl)) (a2c (.z .s) a2n)) (akc ⟨_, _, rfl, rfl, (rowF encI_ok _)⟩ akn) (akc (.inl rfl) akn) (.z .s) (akc ⟨_, _, rfl, rfl, rowB encI_c _⟩ akn) (fun h => absurd h (by decide))) aln) (acal (laws_markIntS.J k x7 1 _ hx16) nocal) ?_
                refine .eqs (env2 := [(0, (.sl true a0.length 1 (a0.flatMap encI))), (1, (.sl true a1.length 3 (a1.flatMap e49))), (2, (I a2)), (8, (.rf 1002053 0 x4.length 1 (x4.length * 1))), (11, (.rf 1002819 0 x16.2.length 1 (x16.2.length * 1))), (13, (I x16.1))]) (H2 := [(1002049, (x2.flatMap encI)), (1002051, (x3.flatMap e49)), (1002053, (x4.flatMap encI)), (1002305, (x13.2.flatMap encI)), (1002561, (x14.2.flatMap e49)), (1002819, (x16.2.flatMap encI)), (1003586, (x9.flatMap encI)), (1004098, (x11.flatMap e49))]) (by first | (simp only [List.length_set, (laws_markIntS.len k x5 1 _ hx13), (laws_markStayS.len k x6 x13.1 _ hx14), (laws_markIntS.len k x7 1 _ hx16)]; done) | simp) (by first | rfl | (simp only [List.length_set, (laws_markIntS.len k x5 1 _ hx13), (laws_markStayS.len k x6 x13.1 _ hx14), (laws_markIntS.len k x7 1 _ hx16)]; done) | simp) ?_
                refine .reg' [0, 1, 2, 8, 11, 13, 14] [] ⟨[(0, (.sl true a0.length 1 (a0.flatMap encI))), (1, (.sl true a1.length 3 (a1.flatMap e49))), (2, (I a2)), (8, (.rf 1002053 0 x4.length 1 (x4.length * 1))), (11, (.rf 1002819 0 x16.2.length 1 (x16.2.length * 1))), (13, (I x16.1)), (14, (I 1))], [(1002049, (x2.flatMap encI)), (1002051, (x3.flatMap e49)), (1002053, (x4.flatMap encI)), (1002305, (x13.2.flatMap encI)), (1002561, (x14.2.flatMap e49)), (1002819, (x16.2.flatMap encI)), (1003586, (x9.flatMap encI)), (1004098, (x11.flatMap e49))], [], []⟩ [c_ 2097150, c_ 2097151] aln nocal ?_
                obtain ⟨x17, hx17, h⟩ := Option.bind_eq_some_iff.mp h
                refine .reg' [0, 1, 2, 8, 11, 13, 14] [.no, .no, .c ⟨29, [(.sl true x16.2.length 1 (x16.2.flatMap encI)), (I 1)], [], (I x17), [], [1002819], [], [], (I x17), []⟩] ⟨[(0, (.sl true a0.length 1 (a0.flatMap encI))), (1, (.sl true a1.length 3 (a1.flatMap e49))), (2, (I a2)), (8, (.rf 1002053 0 x4.length 1 (x4.length * 1))), (11, (.rf 1002819 0 x16.2.length 1 (x16.2.length * 1))), (13, (I x16.1)), (14, (I x17))], [(1002049, (x2.flatMap encI)), (1002051, (x3.flatMap e49)), (1002053, (x4.flatMap encI)), (1002305, (x13.2.flatMap encI)), (1002561, (x14.2.flatMap e49)), (1002819, (x16.2.flatMap encI)), (1003586, (x9.flatMap encI)), (1004098, (x11.flatMap e49))], [COK (hget [(1002049, (x2.flatMap encI)), (1002051, (x3.flatMap e49)), (1002053, (x4.flatMap encI)), (1002305, (x13.2.flatMap encI)), (1002561, (x14.2.flatMap e49)), (1002819, (x16.2.flatMap encI)), (1003586, (x9.flatMap encI)), (1004098, (x11.flatMap e49))]) [(.rf 1002819 0 x16.2.length 1 (x16.2.length * 1)), (I 1)] ⟨29, [(.sl true x16.2.length 1 (x16.2.flatMap encI)), (I 1)], [], (I x17), [], [1002819], [], [], (I x17), []⟩], [⟨29, [(.sl true x16.2.length 1 (x16.2.flatMap encI)), (I 1)], [], (I x17), [], [1002819], [], [], (I x17), []⟩]⟩ [c_ 8388604, c_ 8388605, c_ 4194303] (alc (cok0 false (a2c (.z (frz_rf encI_ok (by simp) rfl rfl (row_len encI_ok _).symm)) (a2c (.z .s) a2n)) (.z .s) (fun h => absurd h (by decide))) aln) (acal (laws_heldIntS.J k x16.2 1 _ hx17) nocal) ?_
                refine .reg' [0, 1, 2, 8, 11, 13, 14, 73] [] ⟨[(0, (.sl true a0.length 1 (a0.flatMap encI))), (1, (.sl true a1.length 3 (a1.flatMap e49))), (2, (I a2)), (8, (.rf 1002053 0 x4.length 1 (x4.length * 1))), (11, (.rf 1002819 0 x16.2.length 1 (x16.2.length * 1))), (13, (I x16.1)), (14, (I x17)), (73, (B (decide (x17 < 0))))], [(1002049, (x2.flatMap encI)), (1002051, (x3.flatMap e49)), (1002053, (x4.flatMap encI)), (1002305, (x13.2.flatMap encI)), (1002561, (x14.2.flatMap e49)), (1002819, (x16.2.flatMap encI)), (1003586, (x9.flatMap encI)), (1004098, (x11.flatMap e49))], [], []⟩ [c_ 8388605, c_ 4194303] aln nocal ?_
                by_cases c8 : x17 < 0
                · rw [if_pos c8] at h
                  refine .cond' (.tmp 73) true [c_ 33554420, c_ 33554421, c_ 4194303] (bT (dT c8)) ?_
                  refine .reg' [6] [] ⟨[(6, (B false))], [(1002049, (x2.flatMap encI)), (1002051, (x3.flatMap e49)), (1002053, (x4.flatMap encI)), (1002305, (x13.2.flatMap encI)), (1002561, (x14.2.flatMap e49)), (1002819, (x16.2.flatMap encI)), (1003586, (x9.flatMap encI)), (1004098, (x11.flatMap e49))], [], []⟩ [c_ 33554421, c_ 4194303] aln nocal ?_
                  have h := Option.some.inj h
                  subst h
                  exact .fin0 [] (B false) [] aln (.z .s)
                · rw [if_neg c8] at h
                  refine .cond' (.tmp 73) false [c_ 16777212, c_ 16777213, c_ 8388607] (bF (dF c8)) ?_
                  refine .reg' [0, 1, 2, 8, 11, 13, 76] [] ⟨[(0, (.sl true a0.length 1 (a0.flatMap encI))), (1, (.sl true a1.length 3 (a1.flatMap e49))), (2, (I a2)), (8, (.rf 1002053 0 x4.length 1 (x4.length * 1))), (11, (.rf 1002819 0 x16.2.length 1 (x16.2.length * 1))), (13, (I x16.1)), (76, (B (!(x17 == x16.1))))], [(1002049, (x2.flatMap encI)), (1002051, (x3.flatMap e49)), (1002053, (x4.flatMap encI)), (1002305, (x13.2.flatMap encI)), (1002561, (x14.2.flatMap e49)), (1002819, (x16.2.flatMap encI)), (1003586, (x9.flatMap encI)), (1004098, (x11.flatMap e49))], [], []⟩ [c_ 16777213, c_ 8388607] aln nocal ?_
                  by_cases c9 : x17 = x16.1
                  · rw [if_pos c9] at h
                    refine .cond' (.tmp 76) false [c_ 16777214, c_ 16777215] (bF (nF (qT c9))) ?_
                    obtain ⟨x18, hx18, h⟩ := Option.bind_eq_some_iff.mp h
                    obtain ⟨x19, hx19, h⟩ := Option.bind_eq_some_iff.mp h
                    obtain ⟨x20, hx20, h⟩ := Option.bind_eq_some_iff.mp h
                    refine .reg' [8, 11, 13, 15] [.no, .c ⟨13, [(.sl true a0.length 1 (a0.flatMap encI))], [], (.rf 514 0 x18.length 1 (x18.length * 1)), [(514, (x18.flatMap encI))], [], [], [(1007937, 514)], (.rf 1007937 0 x18.length 1 (x18.length * 1)), [(1007937, (x18.flatMap encI))]⟩, .no, .c ⟨18, [(.sl true a1.length 3 (a1.flatMap e49))], [], (.rf 514 0 x19.length 3 (x19.length * 3)), [(514, (x19.flatMap e49))], [], [], [(1007939, 514)], (.rf 1007939 0 x19.length 3 (x19.length * 3)), [(1007939, (x19.flatMap e49))]⟩, .no, .c ⟨31, [(.sl true x18.length 1 (x18.flatMap encI)), (.sl true x19.length 3 (x19.flatMap e49)), (I a2)], [], (.rf 1026 0 x20.length 1 (x20.length * 1)), [(1026, (x20.flatMap encI))], [1007937, 1007939], [], [(1007941, 1026)], (.rf 1007941 0 x20.length 1 (x20.length * 1)), [(1007941, (x20.flatMap encI))]⟩] ⟨[(8, (.rf 1002053 0 x4.length 1 (x4.length * 1))), (11, (.rf 1002819 0 x16.2.length 1 (x16.2.length * 1))), (13, (I x16.1)), (15, (.rf 1007941 0 x20.length 1 (x20.length * 1)))], [(1002049, (x2.flatMap encI)), (1002051, (x3.flatMap e49)), (1002053, (x4.flatMap encI)), (1002305, (x13.2.flatMap encI)), (1002561, (x14.2.flatMap e49)), (1002819, (x16.2.flatMap encI)), (1003586, (x9.flatMap encI)), (1004098, (x11.flatMap e49)), (1007937, (x18.flatMap encI)), (1007939, (x19.flatMap e49)), (1007941, (x20.flatMap encI))], [COK (hget [(1002049, (x2.flatMap encI)), (1002051, (x3.flatMap e49)), (1002053, (x4.flatMap encI)), (1002305, (x13.2.flatMap encI)), (1002561, (x14.2.flatMap e49)), (1002819, (x16.2.flatMap encI)), (1003586, (x9.flatMap encI)), (1004098, (x11.flatMap e49))]) [(.sl true a0.length 1 (a0.flatMap encI))] ⟨13, [(.sl true a0.length 1 (a0.flatMap encI))], [], (.rf 514 0 x18.length 1 (x18.length * 1)), [(514, (x18.flatMap encI))], [], [], [(1007937, 514)], (.rf 1007937 0 x18.length 1 (x18.length * 1)), [(1007937, (x18.flatMap encI))]⟩, COK (hget [(1002049, (x2.flatMap encI)), (1002051, (x3.flatMap e49)), (1002053, (x4.flatMap encI)), (1002305, (x13.2.flatMap encI)), (1002561, (x14.2.flatMap e49)), (1002819, (x16.2.flatMap encI)), (1003586, (x9.flatMap encI)), (1004098, (x11.flatMap e49)), (1007937, (x18.flatMap encI))]) [(.sl true a1.length 3 (a1.flatMap e49))] ⟨18, [(.sl true a1.length 3 (a1.flatMap e49))], [], (.rf 514 0 x19.length 3 (x19.length * 3)), [(514, (x19.flatMap e49))], [], [], [(1007939, 514)], (.rf 1007939 0 x19.length 3 (x19.length * 3)), [(1007939, (x19.flatMap e49))]⟩, COK (hget [(1002049, (x2.flatMap encI)), (1002051, (x3.flatMap e49)), (1002053, (x4.flatMap encI)), (1002305, (x13.2.flatMap encI)), (1002561, (x14.2.flatMap e49)), (1002819, (x16.2.flatMap encI)), (1003586, (x9.flatMap encI)), (1004098, (x11.flatMap e49)), (1007937, (x18.flatMap encI)), (1007939, (x19.flatMap e49))]) [(.rf 1007937 0 x18.length 1 (x18.length * 1)), (.rf 1007939 0 x19.length 3 (x19.length * 3)), (I a2)] ⟨31, [(.sl true x18.length 1 (x18.flatMap encI)), (.sl true x19.length 3 (x19.flatMap e49)), (I a2)], [], (.rf 1026 0 x20.length 1 (x20.length * 1)), [(1026, (x20.flatMap encI))], [1007937, 1007939], [], [(1007941, 1026)], (.rf 1007941 0 x20.length 1 (x20.length * 1)), [(1007941, (x20.flatMap encI))]⟩], [⟨13, [(.sl true a0.length 1 (a0.flatMap encI))], [], (.rf 514 0 x18.length 1 (x18.length * 1)), [(514, (x18.flatMap encI))], [], [], [(1007937, 514)], (.rf 1007937 0 x18.length 1 (x18.length * 1)), [(1007937, (x18.flatMap encI))]⟩, ⟨18, [(.sl true a1.length 3 (a1.flatMap e49))], [], (.rf 514 0 x19.length 3 (x19.length * 3)), [(514, (x19.flatMap e49))], [], [], [(1007939, 514)], (.rf 1007939 0 x19.length 3 (x19.length * 3)), [(1007939, (x19.flatMap e49))]⟩, ⟨31, [(.sl true x18.length 1 (x18.flatMap encI)), (.sl true x19.length 3 (x19.flatMap e49)), (I a2)], [], (.rf 1026 0 x20.length 1 (x20.length * 1)), [(1026, (x20.flatMap encI))], [1007937, 1007939], [], [(1007941, 1026)], (.rf 1007941 0 x20.length 1 (x20.length * 1)), [(1007941, (x20.flatMap encI))]⟩]⟩ [c_ 67108860, c_ 67108861, c_ 33554431] (alc (cokW false (a2c (.z (frz_sl encI_ok (fun h => h))) a2n) akn (akc (.inr rfl) akn) (.rf (memP_mem (p := (1007937, 514)) rfl)) (akc ⟨_, _, rfl, rfl, rowB encI_c _⟩ akn) (fun h => absurd h (by decide))) (alc (cokW false (a2c (.z (frz_sl e49_ok (fun h => h))) a2n) akn (akc (.inr rfl) akn) (.rf (memP_mem (p := (1007939, 514)) rfl)) (akc ⟨_, _, rfl, rfl, rowB e49_c _⟩ akn) (fun h => absurd h (by decide))) (alc (cokW false (a2c (.z (frz_rf encI_ok (by simp) rfl rfl (row_len encI_ok _).symm)) (a2c (.z (frz_rf e49_ok (by simp) rfl rfl (row_len e49_ok _).symm)) (a2c (.z .s) a2n))) akn (akc (.inr rfl) akn) (.rf (memP_mem (p := (1007941, 1026)) rfl)) (akc ⟨_, _, rfl, rfl, rowB encI_c _⟩ akn) (fun h => absurd h (by decide))) aln))) (acal (laws_toIntS.J k a0 _ hx18) (acal (laws_toStayS.J k a1 _ hx19) (acal (impl_Assign.J k x18 x19 a2 _ hx20) nocal))) ?_
                    obtain ⟨x21, hx21, h⟩ := Option.bind_eq_some_iff.mp h
                    refine .reg' [11, 13, 86] [.no, .no, .c ⟨15, [(.sl true x20.length 1 (x20.flatMap encI)), (.sl true x4.length 1 (x4.flatMap encI))], [], (B x21), [], [1002053, 1007941], [], [], (B x21), []⟩] ⟨[(11, (.rf 1002819 0 x16.2.length 1 (x16.2.length * 1))), (13, (I x16.1)), (86, (B (!x21)))], [(1002049, (x2.flatMap encI)), (1002051, (x3.flatMap e49)), (1002053, (x4.flatMap encI)), (1002305, (x13.2.flatMap encI)), (1002561, (x14.2.flatMap e49)), (1002819, (x16.2.flatMap encI)), (1003586, (x9.flatMap encI)), (1004098, (x11.flatMap e49)), (1007937, (x18.flatMap encI)), (1007939, (x19.flatMap e49)), (1007941, (x20.flatMap encI))], [COK (hget [(1002049, (x2.flatMap encI)), (1002051, (x3.flatMap e49)), (1002053, (x4.flatMap encI)), (1002305, (x13.2.flatMap encI)), (1002561, (x14.2.flatMap e49)), (1002819, (x16.2.flatMap encI)), (1003586, (x9.flatMap encI)), (1004098, (x11.flatMap e49)), (1007937, (x18.flatMap encI)), (1007939, (x19.flatMap e49)), (1007941, (x20.flatMap encI))]) [(.rf 1007941 0 x20.length 1 (x20.length * 1)), (.rf 1002053 0 x4.length 1 (x4.length * 1))] ⟨15, [(.sl true x20.length 1 (x20.flatMap encI)), (.sl true x4.length 1 (x4.flatMap encI))], [], (B x21), [], [1002053, 1007941], [], [], (B x21), []⟩], [⟨15, [(.sl true x20.length 1 (x20.flatMap encI)), (.sl true x4.length 1 (x4.flatMap encI))], [], (B x21), [], [1002053, 1007941], [], [], (B x21), []⟩]⟩ [c_ 67108861, c_ 33554431] (alc (cok0 false (a2c (.z (frz_rf encI_ok (by simp) rfl rfl (row_len encI_ok _).symm)) (a2c (.z (frz_rf encI_ok (by simp) rfl rfl (row_len encI_ok _).symm)) a2n)) (.z .s) (fun h => absurd h (by decide))) aln) (acal (laws_eqIntS.J k x20 x4 _ hx21) nocal) ?_
                    by_cases c10 : x21 = true
                    · rw [if_pos c10] at h
                      refine .cond' (.tmp 86) false [c_ 67108862, c_ 67108863] (bF (nF c10)) ?_
                      refine .reg' [11, 13, 14] [] ⟨[(11, (.rf 1002819 0 x16.2.length 1 (x16.2.length * 1))), (13, (I x16.1)), (14, (I 1))], [(1002049, (x2.flatMap encI)), (1002051, (x3.flatMap e49)), (1002053, (x4.flatMap encI)), (1002305, (x13.2.flatMap encI)), (1002561, (x14.2.flatMap e49)), (1002819, (x16.2.flatMap encI)), (1003586, (x9.flatMap encI)), (1004098, (x11.flatMap e49)), (1007937, (x18.flatMap encI)), (1007939, (x19.flatMap e49)), (1007941, (x20.flatMap encI))], [], []⟩ [c_ 134217726, c_ 134217727] aln nocal ?_
                      obtain ⟨x22, hx22, h⟩ := Option.bind_eq_some_iff.mp h
                      refine .reg' [13, 14] [.no, .no, .c ⟨29, [(.sl true x16.2.length 1 (x16.2.flatMap encI)), (I 1)], [], (I x22), [], [1002819], [], [], (I x22), []⟩] ⟨[(13, (I x16.1)), (14, (I x22))], [(1002049, (x2.flatMap encI)), (1002051, (x3.flatMap e49)), (1002053, (x4.flatMap encI)), (1002305, (x13.2.flatMap encI)), (1002561, (x14.2.flatMap e49)), (1002819, (x16.2.flatMap encI)), (1003586, (x9.flatMap encI)), (1004098, (x11.flatMap e49)), (1007937, (x18.flatMap encI)), (1007939, (x19.flatMap e49)), (1007941, (x20.flatMap encI))], [COK (hget [(1002049, (x2.flatMap encI)), (1002051, (x3.flatMap e49)), (1002053, (x4.flatMap encI)), (1002305, (x13.2.flatMap encI)), (1002561, (x14.2.flatMap e49)), (1002819, (x16.2.flatMap encI)), (1003586, (x9.flatMap encI)), (1004098, (x11.flatMap e49)), (1007937, (x18.flatMap encI)), (1007939, (x19.flatMap e49)), (1007941, (x20.flatMap encI))]) [(.rf 1002819 0 x16.2.length 1 (x16.2.length * 1)), (I 1)] ⟨29, [(.sl true x16.2.length 1 (x16.2.flatMap encI)), (I 1)], [], (I x22), [], [1002819], [], [], (I x22), []⟩], [⟨29, [(.sl true x16.2.length 1 (x16.2.flatMap encI)), (I 1)], [], (I x22), [], [1002819], [], [], (I x22), []⟩]⟩ [c_ 536870908, c_ 536870909, c_ 268435455] (alc (cok0 false (a2c (.z (frz_rf encI_ok (by simp) rfl rfl (row_len encI_ok _).symm)) (a2c (.z .s) a2n)) (.z .s) (fun h => absurd h (by decide))) aln) (acal (laws_heldIntS.J k x16.2 1 _ hx22) nocal) ?_
                      refine .reg' [13, 14, 91] [] ⟨[(13, (I x16.1)), (14, (I x22)), (91, (B (decide (x22 < 0))))], [(1002049, (x2.flatMap encI)), (1002051, (x3.flatMap e49)), (1002053, (x4.flatMap encI)), (1002305, (x13.2.flatMap encI)), (1002561, (x14.2.flatMap e49)), (1002819, (x16.2.flatMap encI)), (1003586, (x9.flatMap encI)), (1004098, (x11.flatMap e49)), (1007937, (x18.flatMap encI)), (1007939, (x19.flatMap e49)), (1007941, (x20.flatMap encI))], [], []⟩ [c_ 536870909, c_ 268435455] aln nocal ?_
                      by_cases c11 : x22 < 0
                      · rw [if_pos c11] at h
                        refine .cond' (.tmp 91) true [c_ 2147483636, c_ 2147483637, c_ 268435455] (bT (dT c11)) ?_
                        refine .reg' [6] [] ⟨[(6, (B false))], [(1002049, (x2.flatMap encI)), (1002051, (x3.flatMap e49)), (1002053, (x4.flatMap encI)), (1002305, (x13.2.flatMap encI)), (1002561, (x14.2.flatMap e49)), (1002819, (x16.2.flatMap encI)), (1003586, (x9.flatMap encI)), (1004098, (x11.flatMap e49)), (1007937, (x18.flatMap encI)), (1007939, (x19.flatMap e49)), (1007941, (x20.flatMap encI))], [], []⟩ [c_ 2147483637, c_ 268435455] aln nocal ?_
                        have h := Option.some.inj h
                        subst h
                        exact .fin0 [] (B false) [] aln (.z .s)
                      · rw [if_neg c11] at h
                        refine .cond' (.tmp 91) false [c_ 1073741820, c_ 1073741821, c_ 536870911] (bF (dF c11)) ?_
                        refine .reg' [94] [] ⟨[(94, (B (!(x22 == x16.1))))], [(1002049, (x2.flatMap encI)), (1002051, (x3.flatMap e49)), (1002053, (x4.flatMap encI)), (1002305, (x13.2.flatMap encI)), (1002561, (x14.2.flatMap e49)), (1002819, (x16.2.flatMap encI)), (1003586, (x9.flatMap encI)), (1004098, (x11.flatMap e49)), (1007937, (x18.flatMap encI)), (1007939, (x19.flatMap e49)), (1007941, (x20.flatMap encI))], [], []⟩ [c_ 1073741821, c_ 536870911] aln nocal ?_
                        by_cases c12 : x22 = x16.1
                        · rw [if_pos c12] at h
                          refine .cond' (.tmp 94) false [c_ 1073741822, c_ 1073741823] (bF (nF (qT c12))) ?_
                          refine .reg' [6] [] ⟨[(6, (B true))], [(1002049, (x2.flatMap encI)), (1002051, (x3.flatMap e49)), (1002053, (x4.flatMap encI)), (1002305, (x13.2.flatMap encI)), (1002561, (x14.2.flatMap e49)), (1002819, (x16.2.flatMap encI)), (1003586, (x9.flatMap encI)), (1004098, (x11.flatMap e49)), (1007937, (x18.flatMap encI)), (1007939, (x19.flatMap e49)), (1007941, (x20.flatMap encI))], [], []⟩ [c_ 1073741823] aln nocal ?_
                          have h := Option.some.inj h
                          subst h
                          exact .fin0 [] (B true) [] aln (.z .s)
                        · rw [if_neg c12] at h
                          refine .cond' (.tmp 94) true [c_ 4294967284, c_ 4294967285, c_ 536870911] (bT (nT (qF c12))) ?_
                          refine .reg' [6] [] ⟨[(6, (B false))], [(1002049, (x2.flatMap encI)), (1002051, (x3.flatMap e49)), (1002053, (x4.flatMap encI)), (1002305, (x13.2.flatMap encI)), (1002561, (x14.2.flatMap e49)), (1002819, (x16.2.flatMap encI)), (1003586, (x9.flatMap encI)), (1004098, (x11.flatMap e49)), (1007937, (x18.flatMap encI)), (1007939, (x19.flatMap e49)), (1007941, (x20.flatMap encI))], [], []⟩ [c_ 4294967285, c_ 536870911] aln nocal ?_
                          have h := Option.some.inj h
                          subst h
                          exact .fin0 [] (B false) [] aln (.z .s)
                    · rw [if_neg c10] at h
                      refine .cond' (.tmp 86) true [c_ 268435444, c_ 268435445, c_ 33554431] (bT (nT (vF c10))) ?_
                      refine .reg' [6] [] ⟨[(6, (B false))], [(1002049, (x2.flatMap encI)), (1002051, (x3.flatMap e49)), (1002053, (x4.flatMap encI)), (1002305, (x13.2.flatMap encI)), (1002561, (x14.2.flatMap e49)), (1002819, (x16.2.flatMap encI)), (1003586, (x9.flatMap encI)), (1004098, (x11.flatMap e49)), (1007937, (x18.flatMap encI)), (1007939, (x19.flatMap e49)), (1007941, (x20.flatMap encI))], [], []⟩ [c_ 268435445, c_ 33554431] aln nocal ?_
                      have h := Option.some.inj h
                      subst h
                      exact .fin0 [] (B false) [] aln (.z .s)
                  · rw [if_neg c9] at h
                    refine .cond' (.tmp 76) true [c_ 67108852, c_ 67108853, c_ 8388607] (bT (nT (qF c9))) ?_
                    refine .reg' [6] [] ⟨[(6, (B false))], [(1002049, (x2.flatMap encI)), (1002051, (x3.flatMap e49)), (1002053, (x4.flatMap encI)), (1002305, (x13.2.flatMap encI)), (1002561, (x14.2.flatMap e49)), (1002819, (x16.2.flatMap encI)), (1003586, (x9.flatMap encI)), (1004098, (x11.flatMap e49))], [], []⟩ [c_ 67108853, c_ 8388607] aln nocal ?_
                    have h := Option.some.inj h
                    subst h
                    exact .fin0 [] (B false) [] aln (.z .s)
              · rw [if_neg c7] at h
                refine .cond' (.tmp 65) true [c_ 1048564, c_ 1048565, c_ 131071] (bT (nT (vF c7))) ?_
                refine .reg' [6] [] ⟨[(6, (B false))], [(1002049, (x2.flatMap encI)), (1002051, (x3.flatMap e49)), (1002053, (x4.flatMap encI)), (1002305, (x13.2.flatMap encI)), (1002561, (x14.2.flatMap e49)), (1002819, (x7.flatMap encI)), (1003586, (x9.flatMap encI)), (1004098, (x11.flatMap e49))], [], []⟩ [c_ 1048565, c_ 131071] aln nocal ?_
                have h := Option.some.inj h
                subst h
                exact .fin0 [] (B false) [] aln (.z .s)
          · rw [if_neg c5] at h
            refine .cond' (.tmp 51) true [c_ 65524, c_ 65525, c_ 8191] (bT (nT (vF c5))) ?_
            refine .reg' [6] [] ⟨[(6, (B false))], [(1002049, (x2.flatMap encI)), (1002051, (x3.flatMap e49)), (1002053, (x4.flatMap encI)), (1002305, (x5.flatMap encI)), (1002561, (x6.flatMap e49)), (1002819, (x7.flatMap encI)), (1003586, (x9.flatMap encI)), (1004098, (x11.flatMap e49))], [], []⟩ [c_ 65525, c_ 8191] aln nocal ?_
            have h := Option.some.inj h
            subst h
            exact .fin0 [] (B false) [] aln (.z .s)
        · rw [if_neg c4] at h
          refine .cond' (.tmp 46) true [c_ 32756, c_ 32757, c_ 4095] (bT (nT (vF c4))) ?_
          refine .reg' [6] [] ⟨[(6, (B false))], [(1002049, (x2.flatMap encI)), (1002051, (x3.flatMap e49)), (1002053, (x4.flatMap encI)), (1002305, (x5.flatMap encI)), (1002561, (x6.flatMap e49)), (1002819, (x7.flatMap encI)), (1003586, (x9.flatMap encI))], [], []⟩ [c_ 32757, c_ 4095] aln nocal ?_
          have h := Option.some.inj h
          subst h
          exact .fin0 [] (B false) [] aln (.z .s)
      · rw [if_neg c3] at h
        refine .cond' (.tmp 41) true [c_ 16372, c_ 16373, c_ 2047] (bT (nT (vF c3))) ?_
        refine .reg' [6] [] ⟨[(6, (B false))], [(1002049, (x2.flatMap encI)), (1002051, (x3.flatMap e49)), (1002053, (x4.flatMap encI)), (1002305, (x5.flatMap encI)), (1002561, (x6.flatMap e49)), (1002819, (x7.flatMap encI))], [], []⟩ [c_ 16373, c_ 2047] aln nocal ?_
        have h := Option.some.inj h
        subst h
        exact .fin0 [] (B false) [] aln (.z .s)
end Go.Proofs.Ytddipeelmandjaa.Fns
