/- The functions that the law FnExactShortOf reaches, by the engine. Printed by a program of this seat. -/
import Derived.Test.YtddipeelmandjaaE5
import Derived.Test.YtddipeelmandjaaProg
import Derived.Test.YtddipeelmandjaaFFnExactShortOfx4
namespace Go.Proofs.Ytddipeelmandjaa.Fns
open Go.Proofs.Try Go.Proofs.Ytddipeelmandjaa.Eng Go.RowKit
set_option maxRecDepth 100000
set_option linter.unusedVariables false
set_option linter.unusedSimpArgs false
theorem impl_ShortOf.J (k : Nat) (a0 : (List Int)) (a1 : (List S49)) (a2 : Int) (r : Int) (h : impl_ShortOf.f k a0 a1 a2 = some r) : J prog (.call 33 [(.sl true a0.length 1 (a0.flatMap encI)), (.sl true a1.length 3 (a1.flatMap e49)), (I a2)] [] (I r) []) := by
  unfold impl_ShortOf.f at h
  have ih0 := impl_ShortOf.lab k
  refine .call' [c_ 2, c_ 3] ?_
  refine .reg' [0, 1, 2] [] ⟨[(0, (.sl true a0.length 1 (a0.flatMap encI))), (1, (.sl true a1.length 3 (a1.flatMap e49))), (2, (I a2))], [], [], []⟩ [c_ 6, c_ 7] aln nocal ?_
  obtain ⟨x1, hx1, h⟩ := Option.bind_eq_some_iff.mp h
  refine .reg' [1, 7] [.no, .no, .no, .c ⟨31, [(.sl true a0.length 1 (a0.flatMap encI)), (.sl true a1.length 3 (a1.flatMap e49)), (I a2)], [], (.rf 1026 0 x1.length 1 (x1.length * 1)), [(1026, (x1.flatMap encI))], [], [], [(1000515, 1026)], (.rf 1000515 0 x1.length 1 (x1.length * 1)), [(1000515, (x1.flatMap encI))]⟩] ⟨[(1, (.sl true a1.length 3 (a1.flatMap e49))), (7, (.rf 1000515 0 x1.length 1 (x1.length * 1)))], [(1000515, (x1.flatMap encI))], [COK (hget []) [(.sl true a0.length 1 (a0.flatMap encI)), (.sl true a1.length 3 (a1.flatMap e49)), (I a2)] ⟨31, [(.sl true a0.length 1 (a0.flatMap encI)), (.sl true a1.length 3 (a1.flatMap e49)), (I a2)], [], (.rf 1026 0 x1.length 1 (x1.length * 1)), [(1026, (x1.flatMap encI))], [], [], [(1000515, 1026)], (.rf 1000515 0 x1.length 1 (x1.length * 1)), [(1000515, (x1.flatMap encI))]⟩], [⟨31, [(.sl true a0.length 1 (a0.flatMap encI)), (.sl true a1.length 3 (a1.flatMap e49)), (I a2)], [], (.rf 1026 0 x1.length 1 (x1.length * 1)), [(1026, (x1.flatMap encI))], [], [], [(1000515, 1026)], (.rf 1000515 0 x1.length 1 (x1.length * 1)), [(1000515, (x1.flatMap encI))]⟩]⟩ [c_ 28, c_ 29, c_ 15] (alc (cokW false (a2c (.z (frz_sl encI_ok (fun h => h))) (a2c (.z (frz_sl e49_ok (fun h => h))) (a2c (.z .s) a2n))) akn (akc (.inr rfl) akn) (.rf (memP_mem (p := (1000515, 1026)) rfl)) (akc ⟨_, _, rfl, rfl, rowB encI_c _⟩ akn) (fun h => absurd h (by decide))) aln) (acal (impl_Assign.J k a0 a1 a2 _ hx1) nocal) ?_
  refine .reg' [1, 7, 16] [] ⟨[(1, (.sl true a1.length 3 (a1.flatMap e49))), (7, (.rf 1000515 0 x1.length 1 (x1.length * 1))), (16, (B ((x1.length : Int) == 0)))], [(1000515, (x1.flatMap encI))], [], []⟩ [c_ 29, c_ 15] aln nocal ?_
  by_cases c1 : (x1.length : Int) = 0
  · rw [if_pos c1] at h
    refine .cond' (.tmp 16) true [c_ 116, c_ 117, c_ 15] (bT (qT c1)) ?_
    refine .reg' [6] [] ⟨[(6, (I (-1)))], [(1000515, (x1.flatMap encI))], [], []⟩ [c_ 117, c_ 15] aln nocal ?_
    have h := Option.some.inj h
    subst h
    exact .fin0 [] (I (-1)) [] aln (.z .s)
  · rw [if_neg c1] at h
    refine .cond' (.tmp 16) false [c_ 60, c_ 61, c_ 31] (bF (qF c1)) ?_
    obtain ⟨x2, hx2, h⟩ := Option.bind_eq_some_iff.mp h
    refine .reg' [7, 18, 19, 20] [.no, .c ⟨51, [(.sl true a1.length 3 (a1.flatMap e49))], [], (.rf 514 0 x2.length 1 (x2.length * 1)), [(514, (x2.flatMap encI))], [], [], [(1001281, 514)], (.rf 1001281 0 x2.length 1 (x2.length * 1)), [(1001281, (x2.flatMap encI))]⟩] ⟨[(7, (.rf 1000515 0 x1.length 1 (x1.length * 1))), (18, (.rf 1001281 0 x2.length 1 (x2.length * 1))), (19, (I (x2.length : Int))), (20, (I 0))], [(1000515, (x1.flatMap encI)), (1001281, (x2.flatMap encI))], [COK (hget [(1000515, (x1.flatMap encI))]) [(.sl true a1.length 3 (a1.flatMap e49))] ⟨51, [(.sl true a1.length 3 (a1.flatMap e49))], [], (.rf 514 0 x2.length 1 (x2.length * 1)), [(514, (x2.flatMap encI))], [], [], [(1001281, 514)], (.rf 1001281 0 x2.length 1 (x2.length * 1)), [(1001281, (x2.flatMap encI))]⟩], [⟨51, [(.sl true a1.length 3 (a1.flatMap e49))], [], (.rf 514 0 x2.length 1 (x2.length * 1)), [(514, (x2.flatMap encI))], [], [], [(1001281, 514)], (.rf 1001281 0 x2.length 1 (x2.length * 1)), [(1001281, (x2.flatMap encI))]⟩]⟩ [l_ 122, b_ 0, c_ 31] (alc (cokW false (a2c (.z (frz_sl e49_ok (fun h => h))) a2n) akn (akc (.inr rfl) akn) (.rf (memP_mem (p := (1001281, 514)) rfl)) (akc ⟨_, _, rfl, rfl, rowB encI_c _⟩ akn) (fun h => absurd h (by decide))) aln) (acal (impl_inTurn.J k a1 _ hx2) nocal) ?_
    exact ih0 x1 x2 0 _ h
/-! laws_eqIntS: function 15 -/
def laws_eqIntS.l0 : Nat → (List Int) → (List Int) → Int → Option Bool
 | 0, _, _, _ => none
 | k + 1, a0, a1, x1 => (if x1 < (a0.length : Int) then (if 0 ≤ x1 then (if x1 < (a1.length : Int) then (if (at_ a0 x1) = (at_ a1 x1) then (laws_eqIntS.l0 k a0 a1 (wrap64 (x1 + 1))) else (some false)) else none) else none) else (some true))
def laws_eqIntS.f (k : Nat) (a0 : (List Int)) (a1 : (List Int)) : Option Bool := (if (a0.length : Int) = (a1.length : Int) then (laws_eqIntS.l0 k a0 a1 0) else (some false))
theorem laws_eqIntS.lab : ∀ k, (∀ (a0 : (List Int)) (a1 : (List Int)) (x1 : Int) (r : Bool), laws_eqIntS.l0 k a0 a1 x1 = some r → J prog (.run 15 [] [l_ 58, b_ 0, c_ 15] [(0, (.sl true a0.length 1 (a0.flatMap encI))), (1, (.sl true a1.length 1 (a1.flatMap encI))), (5, (I x1))] [] (B r) []))
 | 0 => (by intro a0 a1 x1 r h; unfold laws_eqIntS.l0 at h; cases h)
 | k + 1 => by
  have ih0 := laws_eqIntS.lab k
  · intro a0 a1 x1 r h
    unfold laws_eqIntS.l0 at h
    refine .loop' [c_ 464, c_ 465, c_ 233, l_ 58, b_ 0, c_ 15] ?_
    refine .reg' [0, 1, 5, 14] [] ⟨[(0, (.sl true a0.length 1 (a0.flatMap encI))), (1, (.sl true a1.length 1 (a1.flatMap encI))), (5, (I x1)), (14, (B (decide (x1 < (a0.length : Int)))))], [], [], []⟩ [c_ 465, c_ 233, l_ 58, b_ 0, c_ 15] aln nocal ?_
    by_cases c2 : x1 < (a0.length : Int)
    · rw [if_pos c2] at h
      refine .cond' (.tmp 14) true [c_ 1864, c_ 1865, b_ 1, c_ 467, l_ 58, b_ 0, c_ 15] (bT (dT c2)) ?_
      by_cases c3 : 0 ≤ x1
      · rw [if_pos c3] at h
        by_cases c4 : x1 < (a1.length : Int)
        · rw [if_pos c4] at h
          refine .reg' [0, 1, 5, 25] [.no, .no, .no, .v (I (at_ a0 x1)), .no, .no, .no, .v (I (at_ a1 x1))] ⟨[(0, (.sl true a0.length 1 (a0.flatMap encI))), (1, (.sl true a1.length 1 (a1.flatMap encI))), (5, (I x1)), (25, (B (!((at_ a0 x1) == (at_ a1 x1)))))], [], [(0 : Int) ≤ x1 ∧ x1 < (a0.length : Int), rdC prog 3 ((a0.flatMap encI).drop (x1.toNat * 1)) = (I (at_ a0 x1)), 1 ≤ ((a0.flatMap encI).drop (x1.toNat * 1)).length, (0 : Int) ≤ x1 ∧ x1 < (a1.length : Int), rdC prog 3 ((a1.flatMap encI).drop (x1.toNat * 1)) = (I (at_ a1 x1)), 1 ≤ ((a1.flatMap encI).drop (x1.toNat * 1)).length], []⟩ [c_ 1865, b_ 1, c_ 467, l_ 58, b_ 0, c_ 15] (alc ⟨c3, c2⟩ (alc (ldC1 encI_ok rfl c3 c2) (alc (okI encI_ok c3 c2 (by decide)) (alc ⟨c3, c4⟩ (alc (ldC1 encI_ok rfl c3 c4) (alc (okI encI_ok c3 c4 (by decide)) aln)))))) nocal ?_
          by_cases c5 : (at_ a0 x1) = (at_ a1 x1)
          · rw [if_pos c5] at h
            refine .cond' (.tmp 25) false [c_ 467, l_ 58, b_ 0, c_ 15] (bF (nF (qT c5))) ?_
            refine .reg' [0, 1, 5] [] ⟨[(0, (.sl true a0.length 1 (a0.flatMap encI))), (1, (.sl true a1.length 1 (a1.flatMap encI))), (5, (I (wrap64 (x1 + 1))))], [], [], []⟩ [l_ 58, b_ 0, c_ 15] aln nocal ?_
            exact ih0 a0 a1 (wrap64 (x1 + 1)) _ h
          · rw [if_neg c5] at h
            refine .cond' (.tmp 25) true [c_ 7460, c_ 7461, b_ 1, c_ 467, l_ 58, b_ 0, c_ 15] (bT (nT (qF c5))) ?_
            refine .reg' [4] [] ⟨[(4, (B false))], [], [], []⟩ [c_ 7461, b_ 1, c_ 467, l_ 58, b_ 0, c_ 15] aln nocal ?_
            have h := Option.some.inj h
            subst h
            exact .fin0 [] (B false) [] aln (.z .s)
        · rw [if_neg c4] at h
          cases h
      · rw [if_neg c3] at h
        cases h
    · rw [if_neg c2] at h
      refine .cond' (.tmp 14) false [c_ 30, c_ 31] (bF (dF c2)) ?_
      refine .reg' [4] [] ⟨[(4, (B true))], [], [], []⟩ [c_ 31] aln nocal ?_
      have h := Option.some.inj h
      subst h
      exact .fin0 [] (B true) [] aln (.z .s)
theorem laws_eqIntS.J (k : Nat) (a0 : (List Int)) (a1 : (List Int)) (r : Bool) (h : laws_eqIntS.f k a0 a1 = some r) : J prog (.call 15 [(.sl true a0.length 1 (a0.flatMap encI)), (.sl true a1.length 1 (a1.flatMap encI))] [] (B r) []) := by
  unfold laws_eqIntS.f at h
  have ih0 := laws_eqIntS.lab k
  refine .call' [c_ 2, c_ 3] ?_
  refine .reg' [0, 1] [] ⟨[(0, (.sl true a0.length 1 (a0.flatMap encI))), (1, (.sl true a1.length 1 (a1.flatMap encI)))], [], [], []⟩ [c_ 12, c_ 13, c_ 7] aln nocal ?_
  refine .reg' [0, 1, 10] [] ⟨[(0, (.sl true a0.length 1 (a0.flatMap encI))), (1, (.sl true a1.length 1 (a1.flatMap encI))), (10, (B (!((a0.length : Int) == (a1.length : Int)))))], [], [], []⟩ [c_ 13, c_ 7] aln nocal ?_
  by_cases c1 : (a0.length : Int) = (a1.length : Int)
  · rw [if_pos c1] at h
    refine .cond' (.tmp 10) false [c_ 28, c_ 29, c_ 15] (bF (nF (qT c1))) ?_
    refine .reg' [0, 1, 5] [] ⟨[(0, (.sl true a0.length 1 (a0.flatMap encI))), (1, (.sl true a1.length 1 (a1.flatMap encI))), (5, (I 0))], [], [], []⟩ [l_ 58, b_ 0, c_ 15] aln nocal ?_
    exact ih0 a0 a1 0 _ h
  · rw [if_neg c1] at h
    refine .cond' (.tmp 10) true [c_ 52, c_ 53, c_ 7] (bT (nT (qF c1))) ?_
    refine .reg' [4] [] ⟨[(4, (B false))], [], [], []⟩ [c_ 53, c_ 7] aln nocal ?_
    have h := Option.some.inj h
    subst h
    exact .fin0 [] (B false) [] aln (.z .s)
/-! laws_eqStay: function 43 -/
def laws_eqStay.f (a0 : S49) (a1 : S49) : Option Bool := (if a0.f0 = a1.f0 then (if a0.f1 = a1.f1 then (if a0.f2 = a1.f2 then (some true) else (some false)) else (some false)) else (some false))
theorem laws_eqStay.J (a0 : S49) (a1 : S49) (r : Bool) (h : laws_eqStay.f a0 a1 = some r) : J prog (.call 43 [(.ag [(I a0.f0), (I a0.f1), (I a0.f2)]), (.ag [(I a1.f0), (I a1.f1), (I a1.f2)])] [] (B r) []) := by
  unfold laws_eqStay.f at h
  refine .call' [c_ 2, c_ 3] ?_
  refine .reg' [2, 3] [] ⟨[(2, (.pt 256 0 3)), (3, (.pt 257 0 3))], [(256, [(I a0.f0), (I a0.f1), (I a0.f2)]), (257, [(I a1.f0), (I a1.f1), (I a1.f2)])], [], []⟩ [c_ 12, c_ 13, c_ 7] aln nocal ?_
  refine .reg' [2, 3, 9] [] ⟨[(2, (.pt 256 0 3)), (3, (.pt 257 0 3)), (9, (B (!(a0.f0 == a1.f0))))], [(256, [(I a0.f0), (I a0.f1), (I a0.f2)]), (257, [(I a1.f0), (I a1.f1), (I a1.f2)])], [3 = 3 ∧ 0 + 1 ≤ 3, 3 = 3 ∧ 0 + 1 ≤ 3], []⟩ [c_ 13, c_ 7] (alc ⟨rfl, by decide⟩ (alc ⟨rfl, by decide⟩ aln)) nocal ?_
  by_cases c1 : a0.f0 = a1.f0
  · rw [if_pos c1] at h
    refine .cond' (.tmp 9) false [c_ 28, c_ 29, c_ 15] (bF (nF (qT c1))) ?_
    refine .reg' [2, 3, 14] [] ⟨[(2, (.pt 256 0 3)), (3, (.pt 257 0 3)), (14, (B (!(a0.f1 == a1.f1))))], [(256, [(I a0.f0), (I a0.f1), (I a0.f2)]), (257, [(I a1.f0), (I a1.f1), (I a1.f2)])], [3 = 3 ∧ 1 + 1 ≤ 3, 3 = 3 ∧ 1 + 1 ≤ 3], []⟩ [c_ 29, c_ 15] (alc ⟨rfl, by decide⟩ (alc ⟨rfl, by decide⟩ aln)) nocal ?_
    by_cases c2 : a0.f1 = a1.f1
    · rw [if_pos c2] at h
      refine .cond' (.tmp 14) false [c_ 60, c_ 61, c_ 31] (bF (nF (qT c2))) ?_
      refine .reg' [19] [] ⟨[(19, (B (!(a0.f2 == a1.f2))))], [(256, [(I a0.f0), (I a0.f1), (I a0.f2)]), (257, [(I a1.f0), (I a1.f1), (I a1.f2)])], [3 = 3 ∧ 2 + 1 ≤ 3, 3 = 3 ∧ 2 + 1 ≤ 3], []⟩ [c_ 61, c_ 31] (alc ⟨rfl, by decide⟩ (alc ⟨rfl, by decide⟩ aln)) nocal ?_
      by_cases c3 : a0.f2 = a1.f2
      · rw [if_pos c3] at h
        refine .cond' (.tmp 19) false [c_ 62, c_ 63] (bF (nF (qT c3))) ?_
        refine .reg' [4] [] ⟨[(4, (B true))], [(256, [(I a0.f0), (I a0.f1), (I a0.f2)]), (257, [(I a1.f0), (I a1.f1), (I a1.f2)])], [], []⟩ [c_ 63] aln nocal ?_
        have h := Option.some.inj h
        subst h
        exact .fin0 [] (B true) [] aln (.z .s)
      · rw [if_neg c3] at h
        refine .cond' (.tmp 19) true [c_ 244, c_ 245, c_ 31] (bT (nT (qF c3))) ?_
        refine .reg' [4] [] ⟨[(4, (B false))], [(256, [(I a0.f0), (I a0.f1), (I a0.f2)]), (257, [(I a1.f0), (I a1.f1), (I a1.f2)])], [], []⟩ [c_ 245, c_ 31] aln nocal ?_
        have h := Option.some.inj h
        subst h
        exact .fin0 [] (B false) [] aln (.z .s)
    · rw [if_neg c2] at h
      refine .cond' (.tmp 14) true [c_ 116, c_ 117, c_ 15] (bT (nT (qF c2))) ?_
      refine .reg' [4] [] ⟨[(4, (B false))], [(256, [(I a0.f0), (I a0.f1), (I a0.f2)]), (257, [(I a1.f0), (I a1.f1), (I a1.f2)])], [], []⟩ [c_ 117, c_ 15] aln nocal ?_
      have h := Option.some.inj h
      subst h
      exact .fin0 [] (B false) [] aln (.z .s)
  · rw [if_neg c1] at h
    refine .cond' (.tmp 9) true [c_ 52, c_ 53, c_ 7] (bT (nT (qF c1))) ?_
    refine .reg' [4] [] ⟨[(4, (B false))], [(256, [(I a0.f0), (I a0.f1), (I a0.f2)]), (257, [(I a1.f0), (I a1.f1), (I a1.f2)])], [], []⟩ [c_ 53, c_ 7] aln nocal ?_
    have h := Option.some.inj h
    subst h
    exact .fin0 [] (B false) [] aln (.z .s)
/-! laws_eqStayS: function 20 -/
def laws_eqStayS.l0 : Nat → (List S49) → (List S49) → Int → Option Bool
 | 0, _, _, _ => none
 | k + 1, a0, a1, x1 => (if x1 < (a0.length : Int) then (if 0 ≤ x1 then (if x1 < (a1.length : Int) then ((laws_eqStay.f (at_ a0 x1) (at_ a1 x1)).bind fun x2 => (if x2 = true then (laws_eqStayS.l0 k a0 a1 (wrap64 (x1 + 1))) else (some false))) else none) else none) else (some true))
def laws_eqStayS.f (k : Nat) (a0 : (List S49)) (a1 : (List S49)) : Option Bool := (if (a0.length : Int) = (a1.length : Int) then (laws_eqStayS.l0 k a0 a1 0) else (some false))
theorem laws_eqStayS.lab : ∀ k, (∀ (a0 : (List S49)) (a1 : (List S49)) (x1 : Int) (r : Bool), laws_eqStayS.l0 k a0 a1 x1 = some r → J prog (.run 20 [] [l_ 58, b_ 0, c_ 15] [(0, (.sl true a0.length 3 (a0.flatMap e49))), (1, (.sl true a1.length 3 (a1.flatMap e49))), (5, (I x1))] [] (B r) []))
 | 0 => (by intro a0 a1 x1 r h; unfold laws_eqStayS.l0 at h; cases h)
 | k + 1 => by
  have ih0 := laws_eqStayS.lab k
  · intro a0 a1 x1 r h
    unfold laws_eqStayS.l0 at h
    refine .loop' [c_ 464, c_ 465, c_ 233, l_ 58, b_ 0, c_ 15] ?_
    refine .reg' [0, 1, 5, 14] [] ⟨[(0, (.sl true a0.length 3 (a0.flatMap e49))), (1, (.sl true a1.length 3 (a1.flatMap e49))), (5, (I x1)), (14, (B (decide (x1 < (a0.length : Int)))))], [], [], []⟩ [c_ 465, c_ 233, l_ 58, b_ 0, c_ 15] aln nocal ?_
    by_cases c2 : x1 < (a0.length : Int)
    · rw [if_pos c2] at h
      refine .cond' (.tmp 14) true [c_ 1864, c_ 1865, b_ 1, c_ 467, l_ 58, b_ 0, c_ 15] (bT (dT c2)) ?_
      by_cases c3 : 0 ≤ x1
      · rw [if_pos c3] at h
        by_cases c4 : x1 < (a1.length : Int)
        · rw [if_pos c4] at h
          obtain ⟨x2, hx2, h⟩ := Option.bind_eq_some_iff.mp h
          refine .reg' [0, 1, 5, 26] [.no, .no, .no, .v (.ag [(I (at_ a0 x1).f0), (I (at_ a0 x1).f1), (I (at_ a0 x1).f2)]), .no, .no, .no, .v (.ag [(I (at_ a1 x1).f0), (I (at_ a1 x1).f1), (I (at_ a1 x1).f2)]), .c ⟨43, [(.ag [(I (at_ a0 x1).f0), (I (at_ a0 x1).f1), (I (at_ a0 x1).f2)]), (.ag [(I (at_ a1 x1).f0), (I (at_ a1 x1).f1), (I (at_ a1 x1).f2)])], [], (B x2), [], [], [], [], (B x2), []⟩] ⟨[(0, (.sl true a0.length 3 (a0.flatMap e49))), (1, (.sl true a1.length 3 (a1.flatMap e49))), (5, (I x1)), (26, (B (!x2)))], [], [(0 : Int) ≤ x1 ∧ x1 < (a0.length : Int), rdC prog 50 ((a0.flatMap e49).drop (x1.toNat * 3)) = (.ag [(I (at_ a0 x1).f0), (I (at_ a0 x1).f1), (I (at_ a0 x1).f2)]), 3 ≤ ((a0.flatMap e49).drop (x1.toNat * 3)).length, (0 : Int) ≤ x1 ∧ x1 < (a1.length : Int), rdC prog 50 ((a1.flatMap e49).drop (x1.toNat * 3)) = (.ag [(I (at_ a1 x1).f0), (I (at_ a1 x1).f1), (I (at_ a1 x1).f2)]), 3 ≤ ((a1.flatMap e49).drop (x1.toNat * 3)).length, COK (hget []) [(.ag [(I (at_ a0 x1).f0), (I (at_ a0 x1).f1), (I (at_ a0 x1).f2)]), (.ag [(I (at_ a1 x1).f0), (I (at_ a1 x1).f1), (I (at_ a1 x1).f2)])] ⟨43, [(.ag [(I (at_ a0 x1).f0), (I (at_ a0 x1).f1), (I (at_ a0 x1).f2)]), (.ag [(I (at_ a1 x1).f0), (I (at_ a1 x1).f1), (I (at_ a1 x1).f2)])], [], (B x2), [], [], [], [], (B x2), []⟩], [⟨43, [(.ag [(I (at_ a0 x1).f0), (I (at_ a0 x1).f1), (I (at_ a0 x1).f2)]), (.ag [(I (at_ a1 x1).f0), (I (at_ a1 x1).f1), (I (at_ a1 x1).f2)])], [], (B x2), [], [], [], [], (B x2), []⟩]⟩ [c_ 1865, b_ 1, c_ 467, l_ 58, b_ 0, c_ 15] (alc ⟨c3, c2⟩ (alc (ldA e49_ok rfl rfl c3 c2) (alc (okI e49_ok c3 c2 (by decide)) (alc ⟨c3, c4⟩ (alc (ldA e49_ok rfl rfl c3 c4) (alc (okI e49_ok c3 c4 (by decide)) (alc (cok0 false (a2c (.z (frz_ag (a2c .s (a2c .s (a2c .s a2n))))) (a2c (.z (frz_ag (a2c .s (a2c .s (a2c .s a2n))))) a2n)) (.z .s) (fun h => absurd h (by decide))) aln))))))) (acal (laws_eqStay.J (at_ a0 x1) (at_ a1 x1) _ hx2) nocal) ?_
          by_cases c5 : x2 = true
          · rw [if_pos c5] at h
            refine .cond' (.tmp 26) false [c_ 467, l_ 58, b_ 0, c_ 15] (bF (nF c5)) ?_
            refine .reg' [0, 1, 5] [] ⟨[(0, (.sl true a0.length 3 (a0.flatMap e49))), (1, (.sl true a1.length 3 (a1.flatMap e49))), (5, (I (wrap64 (x1 + 1))))], [], [], []⟩ [l_ 58, b_ 0, c_ 15] aln nocal ?_
            exact ih0 a0 a1 (wrap64 (x1 + 1)) _ h
          · rw [if_neg c5] at h
            refine .cond' (.tmp 26) true [c_ 7460, c_ 7461, b_ 1, c_ 467, l_ 58, b_ 0, c_ 15] (bT (nT (vF c5))) ?_
            refine .reg' [4] [] ⟨[(4, (B false))], [], [], []⟩ [c_ 7461, b_ 1, c_ 467, l_ 58, b_ 0, c_ 15] aln nocal ?_
            have h := Option.some.inj h
            subst h
            exact .fin0 [] (B false) [] aln (.z .s)
        · rw [if_neg c4] at h
          cases h
      · rw [if_neg c3] at h
        cases h
    · rw [if_neg c2] at h
      refine .cond' (.tmp 14) false [c_ 30, c_ 31] (bF (dF c2)) ?_
      refine .reg' [4] [] ⟨[(4, (B true))], [], [], []⟩ [c_ 31] aln nocal ?_
      have h := Option.some.inj h
      subst h
      exact .fin0 [] (B true) [] aln (.z .s)
theorem laws_eqStayS.J (k : Nat) (a0 : (List S49)) (a1 : (List S49)) (r : Bool) (h : laws_eqStayS.f k a0 a1 = some r) : J prog (.call 20 [(.sl true a0.length 3 (a0.flatMap e49)), (.sl true a1.length 3 (a1.flatMap e49))] [] (B r) []) := by
  unfold laws_eqStayS.f at h
  have ih0 := laws_eqStayS.lab k
  refine .call' [c_ 2, c_ 3] ?_
  refine .reg' [0, 1] [] ⟨[(0, (.sl true a0.length 3 (a0.flatMap e49))), (1, (.sl true a1.length 3 (a1.flatMap e49)))], [], [], []⟩ [c_ 12, c_ 13, c_ 7] aln nocal ?_
  refine .reg' [0, 1, 10] [] ⟨[(0, (.sl true a0.length 3 (a0.flatMap e49))), (1, (.sl true a1.length 3 (a1.flatMap e49))), (10, (B (!((a0.length : Int) == (a1.length : Int)))))], [], [], []⟩ [c_ 13, c_ 7] aln nocal ?_
  by_cases c1 : (a0.length : Int) = (a1.length : Int)
  · rw [if_pos c1] at h
    refine .cond' (.tmp 10) false [c_ 28, c_ 29, c_ 15] (bF (nF (qT c1))) ?_
    refine .reg' [0, 1, 5] [] ⟨[(0, (.sl true a0.length 3 (a0.flatMap e49))), (1, (.sl true a1.length 3 (a1.flatMap e49))), (5, (I 0))], [], [], []⟩ [l_ 58, b_ 0, c_ 15] aln nocal ?_
    exact ih0 a0 a1 0 _ h
  · rw [if_neg c1] at h
    refine .cond' (.tmp 10) true [c_ 52, c_ 53, c_ 7] (bT (nT (qF c1))) ?_
    refine .reg' [4] [] ⟨[(4, (B false))], [], [], []⟩ [c_ 53, c_ 7] aln nocal ?_
    have h := Option.some.inj h
    subst h
    exact .fin0 [] (B false) [] aln (.z .s)
/-! laws_FnExactShortOf: function 9 -/
def laws_FnExactShortOf.f (k : Nat) (a0 : (List Int)) (a1 : (List S49)) (a2 : Int) : Option Bool := (if (a0.length : Int) > 1048576 then (some true) else ((laws_szStayS.f a1 1048576).bind fun x1 => (if x1 < 0 then (some true) else ((laws_toIntS.f k a0).bind fun x2 => ((laws_toStayS.f k a1).bind fun x3 => ((spec_ShortOf.f k x2 x3 a2).bind fun x4 => ((laws_toIntS.f k a0).bind fun x5 => ((laws_toStayS.f k a1).bind fun x6 => ((impl_ShortOf.f k x5 x6 a2).bind fun x7 => (if x7 = x4 then ((laws_toIntS.f k a0).bind fun x8 => ((laws_eqIntS.f k x5 x8).bind fun x9 => (if x9 = true then ((laws_toStayS.f k a1).bind fun x10 => ((laws_eqStayS.f k x6 x10).bind fun x11 => (if x11 = true then (some true) else (some false)))) else (some false)))) else (some false)))))))))))
theorem laws_FnExactShortOf.J (k : Nat) (a0 : (List Int)) (a1 : (List S49)) (a2 : Int) (r : Bool) (h : laws_FnExactShortOf.f k a0 a1 a2 = some r) : J prog (.call 9 [(.sl true a0.length 1 (a0.flatMap encI)), (.sl true a1.length 3 (a1.flatMap e49)), (I a2)] [] (B r) []) := by
  unfold laws_FnExactShortOf.f at h
  refine .call' [c_ 2, c_ 3] ?_
  refine .reg' [0, 1, 2] [] ⟨[(0, (.sl true a0.length 1 (a0.flatMap encI))), (1, (.sl true a1.length 3 (a1.flatMap e49))), (2, (I a2))], [], [], []⟩ [c_ 12, c_ 13, c_ 7] aln nocal ?_
  refine .reg' [0, 1, 2, 14] [] ⟨[(0, (.sl true a0.length 1 (a0.flatMap encI))), (1, (.sl true a1.length 3 (a1.flatMap e49))), (2, (I a2)), (14, (B (decide ((a0.length : Int) > 1048576))))], [], [], []⟩ [c_ 13, c_ 7] aln nocal ?_
  by_cases c1 : (a0.length : Int) > 1048576
  · rw [if_pos c1] at h
    refine .cond' (.tmp 14) true [c_ 52, c_ 53, c_ 7] (bT (dT c1)) ?_
    refine .reg' [6] [] ⟨[(6, (B true))], [], [], []⟩ [c_ 53, c_ 7] aln nocal ?_
    have h := Option.some.inj h
    subst h
    exact .fin0 [] (B true) [] aln (.z .s)
  · rw [if_neg c1] at h
    refine .cond' (.tmp 14) false [c_ 14, c_ 15] (bF (dF c1)) ?_
    refine .reg' [0, 1, 2, 7] [] ⟨[(0, (.sl true a0.length 1 (a0.flatMap encI))), (1, (.sl true a1.length 3 (a1.flatMap e49))), (2, (I a2)), (7, (I 1048576))], [], [], []⟩ [c_ 30, c_ 31] aln nocal ?_
    obtain ⟨x1, hx1, h⟩ := Option.bind_eq_some_iff.mp h
    refine .reg' [0, 1, 2, 7] [.no, .no, .c ⟨16, [(.sl true a1.length 3 (a1.flatMap e49)), (I 1048576)], [], (I x1), [], [], [], [], (I x1), []⟩] ⟨[(0, (.sl true a0.length 1 (a0.flatMap encI))), (1, (.sl true a1.length 3 (a1.flatMap e49))), (2, (I a2)), (7, (I x1))], [], [COK (hget []) [(.sl true a1.length 3 (a1.flatMap e49)), (I 1048576)] ⟨16, [(.sl true a1.length 3 (a1.flatMap e49)), (I 1048576)], [], (I x1), [], [], [], [], (I x1), []⟩], [⟨16, [(.sl true a1.length 3 (a1.flatMap e49)), (I 1048576)], [], (I x1), [], [], [], [], (I x1), []⟩]⟩ [c_ 124, c_ 125, c_ 63] (alc (cok0 false (a2c (.z (frz_sl e49_ok (fun h => h))) (a2c (.z .s) a2n)) (.z .s) (fun h => absurd h (by decide))) aln) (acal (laws_szStayS.J a1 1048576 _ hx1) nocal) ?_
    refine .reg' [0, 1, 2, 19] [] ⟨[(0, (.sl true a0.length 1 (a0.flatMap encI))), (1, (.sl true a1.length 3 (a1.flatMap e49))), (2, (I a2)), (19, (B (decide (x1 < 0))))], [], [], []⟩ [c_ 125, c_ 63] aln nocal ?_
    by_cases c2 : x1 < 0
    · rw [if_pos c2] at h
      refine .cond' (.tmp 19) true [c_ 500, c_ 501, c_ 63] (bT (dT c2)) ?_
      refine .reg' [6] [] ⟨[(6, (B true))], [], [], []⟩ [c_ 501, c_ 63] aln nocal ?_
      have h := Option.some.inj h
      subst h
      exact .fin0 [] (B true) [] aln (.z .s)
    · rw [if_neg c2] at h
      refine .cond' (.tmp 19) false [c_ 126, c_ 127] (bF (dF c2)) ?_
      obtain ⟨x2, hx2, h⟩ := Option.bind_eq_some_iff.mp h
      obtain ⟨x3, hx3, h⟩ := Option.bind_eq_some_iff.mp h
      obtain ⟨x4, hx4, h⟩ := Option.bind_eq_some_iff.mp h
      refine .reg' [0, 1, 2, 8] [.no, .c ⟨13, [(.sl true a0.length 1 (a0.flatMap encI))], [], (.rf 514 0 x2.length 1 (x2.length * 1)), [(514, (x2.flatMap encI))], [], [], [(1002049, 514)], (.rf 1002049 0 x2.length 1 (x2.length * 1)), [(1002049, (x2.flatMap encI))]⟩, .no, .c ⟨18, [(.sl true a1.length 3 (a1.flatMap e49))], [], (.rf 514 0 x3.length 3 (x3.length * 3)), [(514, (x3.flatMap e49))], [], [], [(1002051, 514)], (.rf 1002051 0 x3.length 3 (x3.length * 3)), [(1002051, (x3.flatMap e49))]⟩, .no, .c ⟨32, [(.sl true x2.length 1 (x2.flatMap encI)), (.sl true x3.length 3 (x3.flatMap e49)), (I a2)], [], (I x4), [], [1002049, 1002051], [], [], (I x4), []⟩] ⟨[(0, (.sl true a0.length 1 (a0.flatMap encI))), (1, (.sl true a1.length 3 (a1.flatMap e49))), (2, (I a2)), (8, (I x4))], [(1002049, (x2.flatMap encI)), (1002051, (x3.flatMap e49))], [COK (hget []) [(.sl true a0.length 1 (a0.flatMap encI))] ⟨13, [(.sl true a0.length 1 (a0.flatMap encI))], [], (.rf 514 0 x2.length 1 (x2.length * 1)), [(514, (x2.flatMap encI))], [], [], [(1002049, 514)], (.rf 1002049 0 x2.length 1 (x2.length * 1)), [(1002049, (x2.flatMap encI))]⟩, COK (hget [(1002049, (x2.flatMap encI))]) [(.sl true a1.length 3 (a1.flatMap e49))] ⟨18, [(.sl true a1.length 3 (a1.flatMap e49))], [], (.rf 514 0 x3.length 3 (x3.length * 3)), [(514, (x3.flatMap e49))], [], [], [(1002051, 514)], (.rf 1002051 0 x3.length 3 (x3.length * 3)), [(1002051, (x3.flatMap e49))]⟩, COK (hget [(1002049, (x2.flatMap encI)), (1002051, (x3.flatMap e49))]) [(.rf 1002049 0 x2.length 1 (x2.length * 1)), (.rf 1002051 0 x3.length 3 (x3.length * 3)), (I a2)] ⟨32, [(.sl true x2.length 1 (x2.flatMap encI)), (.sl true x3.length 3 (x3.flatMap e49)), (I a2)], [], (I x4), [], [1002049, 1002051], [], [], (I x4), []⟩], [⟨13, [(.sl true a0.length 1 (a0.flatMap encI))], [], (.rf 514 0 x2.length 1 (x2.length * 1)), [(514, (x2.flatMap encI))], [], [], [(1002049, 514)], (.rf 1002049 0 x2.length 1 (x2.length * 1)), [(1002049, (x2.flatMap encI))]⟩, ⟨18, [(.sl true a1.length 3 (a1.flatMap e49))], [], (.rf 514 0 x3.length 3 (x3.length * 3)), [(514, (x3.flatMap e49))], [], [], [(1002051, 514)], (.rf 1002051 0 x3.length 3 (x3.length * 3)), [(1002051, (x3.flatMap e49))]⟩, ⟨32, [(.sl true x2.length 1 (x2.flatMap encI)), (.sl true x3.length 3 (x3.flatMap e49)), (I a2)], [], (I x4), [], [1002049, 1002051], [], [], (I x4), []⟩]⟩ [c_ 254, c_ 255] (alc (cokW false (a2c (.z (frz_sl encI_ok (fun h => h))) a2n) akn (akc (.inr rfl) akn) (.rf (memP_mem (p := (1002049, 514)) rfl)) (akc ⟨_, _, rfl, rfl, rowB encI_c _⟩ akn) (fun h => absurd h (by decide))) (alc (cokW false (a2c (.z (frz_sl e49_ok (fun h => h))) a2n) akn (akc (.inr rfl) akn) (.rf (memP_mem (p := (1002051, 514)) rfl)) (akc ⟨_, _, rfl, rfl, rowB e49_c _⟩ akn) (fun h => absurd h (by decide))) (alc (cok0 false (a2c (.z (frz_rf (k := 1002049) encI_ok (by simp) rfl rfl (row_len encI_ok _).symm)) (a2c (.z (frz_rf (k := 1002051) e49_ok (by simp) rfl rfl (row_len e49_ok _).symm)) (a2c (.z .s) a2n))) (.z .s) (fun h => absurd h (by decide))) aln))) (acal (laws_toIntS.J k a0 _ hx2) (acal (laws_toStayS.J k a1 _ hx3) (acal (spec_ShortOf.J k x2 x3 a2 _ hx4) nocal))) ?_
      obtain ⟨x5, hx5, h⟩ := Option.bind_eq_some_iff.mp h
      refine .reg' [0, 1, 2, 8, 9] [.no, .c ⟨13, [(.sl true a0.length 1 (a0.flatMap encI))], [], (.rf 514 0 x5.length 1 (x5.length * 1)), [(514, (x5.flatMap encI))], [], [], [(1002305, 514)], (.rf 1002305 0 x5.length 1 (x5.length * 1)), [(1002305, (x5.flatMap encI))]⟩] ⟨[(0, (.sl true a0.length 1 (a0.flatMap encI))), (1, (.sl true a1.length 3 (a1.flatMap e49))), (2, (I a2)), (8, (I x4)), (9, (.rf 1002305 0 x5.length 1 (x5.length * 1)))], [(1002049, (x2.flatMap encI)), (1002051, (x3.flatMap e49)), (1002305, (x5.flatMap encI))], [COK (hget [(1002049, (x2.flatMap encI)), (1002051, (x3.flatMap e49))]) [(.sl true a0.length 1 (a0.flatMap encI))] ⟨13, [(.sl true a0.length 1 (a0.flatMap encI))], [], (.rf 514 0 x5.length 1 (x5.length * 1)), [(514, (x5.flatMap encI))], [], [], [(1002305, 514)], (.rf 1002305 0 x5.length 1 (x5.length * 1)), [(1002305, (x5.flatMap encI))]⟩], [⟨13, [(.sl true a0.length 1 (a0.flatMap encI))], [], (.rf 514 0 x5.length 1 (x5.length * 1)), [(514, (x5.flatMap encI))], [], [], [(1002305, 514)], (.rf 1002305 0 x5.length 1 (x5.length * 1)), [(1002305, (x5.flatMap encI))]⟩]⟩ [c_ 510, c_ 511] (alc (cokW false (a2c (.z (frz_sl encI_ok (fun h => h))) a2n) akn (akc (.inr rfl) akn) (.rf (memP_mem (p := (1002305, 514)) rfl)) (akc ⟨_, _, rfl, rfl, rowB encI_c _⟩ akn) (fun h => absurd h (by decide))) aln) (acal (laws_toIntS.J k a0 _ hx5) nocal) ?_
      obtain ⟨x6, hx6, h⟩ := Option.bind_eq_some_iff.mp h
      refine .reg' [0, 1, 2, 8, 9, 10] [.no, .c ⟨18, [(.sl true a1.length 3 (a1.flatMap e49))], [], (.rf 514 0 x6.length 3 (x6.length * 3)), [(514, (x6.flatMap e49))], [], [], [(1002561, 514)], (.rf 1002561 0 x6.length 3 (x6.length * 3)), [(1002561, (x6.flatMap e49))]⟩] ⟨[(0, (.sl true a0.length 1 (a0.flatMap encI))), (1, (.sl true a1.length 3 (a1.flatMap e49))), (2, (I a2)), (8, (I x4)), (9, (.rf 1002305 0 x5.length 1 (x5.length * 1))), (10, (.rf 1002561 0 x6.length 3 (x6.length * 3)))], [(1002049, (x2.flatMap encI)), (1002051, (x3.flatMap e49)), (1002305, (x5.flatMap encI)), (1002561, (x6.flatMap e49))], [COK (hget [(1002049, (x2.flatMap encI)), (1002051, (x3.flatMap e49)), (1002305, (x5.flatMap encI))]) [(.sl true a1.length 3 (a1.flatMap e49))] ⟨18, [(.sl true a1.length 3 (a1.flatMap e49))], [], (.rf 514 0 x6.length 3 (x6.length * 3)), [(514, (x6.flatMap e49))], [], [], [(1002561, 514)], (.rf 1002561 0 x6.length 3 (x6.length * 3)), [(1002561, (x6.flatMap e49))]⟩], [⟨18, [(.sl true a1.length 3 (a1.flatMap e49))], [], (.rf 514 0 x6.length 3 (x6.length * 3)), [(514, (x6.flatMap e49))], [], [], [(1002561, 514)], (.rf 1002561 0 x6.length 3 (x6.length * 3)), [(1002561, (x6.flatMap e49))]⟩]⟩ [c_ 1022, c_ 1023] (alc (cokW false (a2c (.z (frz_sl e49_ok (fun h => h))) a2n) akn (akc (.inr rfl) akn) (.rf (memP_mem (p := (1002561, 514)) rfl)) (akc ⟨_, _, rfl, rfl, rowB e49_c _⟩ akn) (fun h => absurd h (by decide))) aln) (acal (laws_toStayS.J k a1 _ hx6) nocal) ?_
      obtain ⟨x7, hx7, h⟩ := Option.bind_eq_some_iff.mp h
      refine .reg' [0, 1, 8, 9, 10, 11] [.no, .no, .no, .c ⟨33, [(.sl true x5.length 1 (x5.flatMap encI)), (.sl true x6.length 3 (x6.flatMap e49)), (I a2)], [], (I x7), [], [1002305, 1002561], [], [], (I x7), []⟩] ⟨[(0, (.sl true a0.length 1 (a0.flatMap encI))), (1, (.sl true a1.length 3 (a1.flatMap e49))), (8, (I x4)), (9, (.rf 1002305 0 x5.length 1 (x5.length * 1))), (10, (.rf 1002561 0 x6.length 3 (x6.length * 3))), (11, (I x7))], [(1002049, (x2.flatMap encI)), (1002051, (x3.flatMap e49)), (1002305, (x5.flatMap encI)), (1002561, (x6.flatMap e49))], [COK (hget [(1002049, (x2.flatMap encI)), (1002051, (x3.flatMap e49)), (1002305, (x5.flatMap encI)), (1002561, (x6.flatMap e49))]) [(.rf 1002305 0 x5.length 1 (x5.length * 1)), (.rf 1002561 0 x6.length 3 (x6.length * 3)), (I a2)] ⟨33, [(.sl true x5.length 1 (x5.flatMap encI)), (.sl true x6.length 3 (x6.flatMap e49)), (I a2)], [], (I x7), [], [1002305, 1002561], [], [], (I x7), []⟩], [⟨33, [(.sl true x5.length 1 (x5.flatMap encI)), (.sl true x6.length 3 (x6.flatMap e49)), (I a2)], [], (I x7), [], [1002305, 1002561], [], [], (I x7), []⟩]⟩ [c_ 4092, c_ 4093, c_ 2047] (alc (cok0 false (a2c (.z (frz_rf (k := 1002305) encI_ok (by simp) rfl rfl (row_len encI_ok _).symm)) (a2c (.z (frz_rf (k := 1002561) e49_ok (by simp) rfl rfl (row_len e49_ok _).symm)) (a2c (.z .s) a2n))) (.z .s) (fun h => absurd h (by decide))) aln) (acal (impl_ShortOf.J k x5 x6 a2 _ hx7) nocal) ?_
      refine .reg' [0, 1, 9, 10, 36] [] ⟨[(0, (.sl true a0.length 1 (a0.flatMap encI))), (1, (.sl true a1.length 3 (a1.flatMap e49))), (9, (.rf 1002305 0 x5.length 1 (x5.length * 1))), (10, (.rf 1002561 0 x6.length 3 (x6.length * 3))), (36, (B (!(x7 == x4))))], [(1002049, (x2.flatMap encI)), (1002051, (x3.flatMap e49)), (1002305, (x5.flatMap encI)), (1002561, (x6.flatMap e49))], [], []⟩ [c_ 4093, c_ 2047] aln nocal ?_
      by_cases c3 : x7 = x4
      · rw [if_pos c3] at h
        refine .cond' (.tmp 36) false [c_ 8188, c_ 8189, c_ 4095] (bF (nF (qT c3))) ?_
        obtain ⟨x8, hx8, h⟩ := Option.bind_eq_some_iff.mp h
        obtain ⟨x9, hx9, h⟩ := Option.bind_eq_some_iff.mp h
        refine .reg' [1, 10, 41] [.no, .no, .c ⟨13, [(.sl true a0.length 1 (a0.flatMap encI))], [], (.rf 514 0 x8.length 1 (x8.length * 1)), [(514, (x8.flatMap encI))], [], [], [(1003586, 514)], (.rf 1003586 0 x8.length 1 (x8.length * 1)), [(1003586, (x8.flatMap encI))]⟩, .c ⟨15, [(.sl true x5.length 1 (x5.flatMap encI)), (.sl true x8.length 1 (x8.flatMap encI))], [], (B x9), [], [1002305, 1003586], [], [], (B x9), []⟩] ⟨[(1, (.sl true a1.length 3 (a1.flatMap e49))), (10, (.rf 1002561 0 x6.length 3 (x6.length * 3))), (41, (B (!x9)))], [(1002049, (x2.flatMap encI)), (1002051, (x3.flatMap e49)), (1002305, (x5.flatMap encI)), (1002561, (x6.flatMap e49)), (1003586, (x8.flatMap encI))], [COK (hget [(1002049, (x2.flatMap encI)), (1002051, (x3.flatMap e49)), (1002305, (x5.flatMap encI)), (1002561, (x6.flatMap e49))]) [(.sl true a0.length 1 (a0.flatMap encI))] ⟨13, [(.sl true a0.length 1 (a0.flatMap encI))], [], (.rf 514 0 x8.length 1 (x8.length * 1)), [(514, (x8.flatMap encI))], [], [], [(1003586, 514)], (.rf 1003586 0 x8.length 1 (x8.length * 1)), [(1003586, (x8.flatMap encI))]⟩, COK (hget [(1002049, (x2.flatMap encI)), (1002051, (x3.flatMap e49)), (1002305, (x5.flatMap encI)), (1002561, (x6.flatMap e49)), (1003586, (x8.flatMap encI))]) [(.rf 1002305 0 x5.length 1 (x5.length * 1)), (.rf 1003586 0 x8.length 1 (x8.length * 1))] ⟨15, [(.sl true x5.length 1 (x5.flatMap encI)), (.sl true x8.length 1 (x8.flatMap encI))], [], (B x9), [], [1002305, 1003586], [], [], (B x9), []⟩], [⟨13, [(.sl true a0.length 1 (a0.flatMap encI))], [], (.rf 514 0 x8.length 1 (x8.length * 1)), [(514, (x8.flatMap encI))], [], [], [(1003586, 514)], (.rf 1003586 0 x8.length 1 (x8.length * 1)), [(1003586, (x8.flatMap encI))]⟩, ⟨15, [(.sl true x5.length 1 (x5.flatMap encI)), (.sl true x8.length 1 (x8.flatMap encI))], [], (B x9), [], [1002305, 1003586], [], [], (B x9), []⟩]⟩ [c_ 8189, c_ 4095] (alc (cokW false (a2c (.z (frz_sl encI_ok (fun h => h))) a2n) akn (akc (.inr rfl) akn) (.rf (memP_mem (p := (1003586, 514)) rfl)) (akc ⟨_, _, rfl, rfl, rowB encI_c _⟩ akn) (fun h => absurd h (by decide))) (alc (cok0 false (a2c (.z (frz_rf (k := 1002305) encI_ok (by simp) rfl rfl (row_len encI_ok _).symm)) (a2c (.z (frz_rf (k := 1003586) encI_ok (by simp) rfl rfl (row_len encI_ok _).symm)) a2n)) (.z .s) (fun h => absurd h (by decide))) aln)) (acal (laws_toIntS.J k a0 _ hx8) (acal (laws_eqIntS.J k x5 x8 _ hx9) nocal)) ?_
        by_cases c4 : x9 = true
        · rw [if_pos c4] at h
          refine .cond' (.tmp 41) false [c_ 16380, c_ 16381, c_ 8191] (bF (nF c4)) ?_
          obtain ⟨x10, hx10, h⟩ := Option.bind_eq_some_iff.mp h
          obtain ⟨x11, hx11, h⟩ := Option.bind_eq_some_iff.mp h
          refine .reg' [46] [.no, .no, .c ⟨18, [(.sl true a1.length 3 (a1.flatMap e49))], [], (.rf 514 0 x10.length 3 (x10.length * 3)), [(514, (x10.flatMap e49))], [], [], [(1004098, 514)], (.rf 1004098 0 x10.length 3 (x10.length * 3)), [(1004098, (x10.flatMap e49))]⟩, .c ⟨20, [(.sl true x6.length 3 (x6.flatMap e49)), (.sl true x10.length 3 (x10.flatMap e49))], [], (B x11), [], [1002561, 1004098], [], [], (B x11), []⟩] ⟨[(46, (B (!x11)))], [(1002049, (x2.flatMap encI)), (1002051, (x3.flatMap e49)), (1002305, (x5.flatMap encI)), (1002561, (x6.flatMap e49)), (1003586, (x8.flatMap encI)), (1004098, (x10.flatMap e49))], [COK (hget [(1002049, (x2.flatMap encI)), (1002051, (x3.flatMap e49)), (1002305, (x5.flatMap encI)), (1002561, (x6.flatMap e49)), (1003586, (x8.flatMap encI))]) [(.sl true a1.length 3 (a1.flatMap e49))] ⟨18, [(.sl true a1.length 3 (a1.flatMap e49))], [], (.rf 514 0 x10.length 3 (x10.length * 3)), [(514, (x10.flatMap e49))], [], [], [(1004098, 514)], (.rf 1004098 0 x10.length 3 (x10.length * 3)), [(1004098, (x10.flatMap e49))]⟩, COK (hget [(1002049, (x2.flatMap encI)), (1002051, (x3.flatMap e49)), (1002305, (x5.flatMap encI)), (1002561, (x6.flatMap e49)), (1003586, (x8.flatMap encI)), (1004098, (x10.flatMap e49))]) [(.rf 1002561 0 x6.length 3 (x6.length * 3)), (.rf 1004098 0 x10.length 3 (x10.length * 3))] ⟨20, [(.sl true x6.length 3 (x6.flatMap e49)), (.sl true x10.length 3 (x10.flatMap e49))], [], (B x11), [], [1002561, 1004098], [], [], (B x11), []⟩], [⟨18, [(.sl true a1.length 3 (a1.flatMap e49))], [], (.rf 514 0 x10.length 3 (x10.length * 3)), [(514, (x10.flatMap e49))], [], [], [(1004098, 514)], (.rf 1004098 0 x10.length 3 (x10.length * 3)), [(1004098, (x10.flatMap e49))]⟩, ⟨20, [(.sl true x6.length 3 (x6.flatMap e49)), (.sl true x10.length 3 (x10.flatMap e49))], [], (B x11), [], [1002561, 1004098], [], [], (B x11), []⟩]⟩ [c_ 16381, c_ 8191] (alc (cokW false (a2c (.z (frz_sl e49_ok (fun h => h))) a2n) akn (akc (.inr rfl) akn) (.rf (memP_mem (p := (1004098, 514)) rfl)) (akc ⟨_, _, rfl, rfl, rowB e49_c _⟩ akn) (fun h => absurd h (by decide))) (alc (cok0 false (a2c (.z (frz_rf (k := 1002561) e49_ok (by simp) rfl rfl (row_len e49_ok _).symm)) (a2c (.z (frz_rf (k := 1004098) e49_ok (by simp) rfl rfl (row_len e49_ok _).symm)) a2n)) (.z .s) (fun h => absurd h (by decide))) aln)) (acal (laws_toStayS.J k a1 _ hx10) (acal (laws_eqStayS.J k x6 x10 _ hx11) nocal)) ?_
          by_cases c5 : x11 = true
          · rw [if_pos c5] at h
            refine .cond' (.tmp 46) false [c_ 16382, c_ 16383] (bF (nF c5)) ?_
            refine .reg' [6] [] ⟨[(6, (B true))], [(1002049, (x2.flatMap encI)), (1002051, (x3.flatMap e49)), (1002305, (x5.flatMap encI)), (1002561, (x6.flatMap e49)), (1003586, (x8.flatMap encI)), (1004098, (x10.flatMap e49))], [], []⟩ [c_ 16383] aln nocal ?_
            have h := Option.some.inj h
            subst h
            exact .fin0 [] (B true) [] aln (.z .s)
          · rw [if_neg c5] at h
            refine .cond' (.tmp 46) true [c_ 65524, c_ 65525, c_ 8191] (bT (nT (vF c5))) ?_
            refine .reg' [6] [] ⟨[(6, (B false))], [(1002049, (x2.flatMap encI)), (1002051, (x3.flatMap e49)), (1002305, (x5.flatMap encI)), (1002561, (x6.flatMap e49)), (1003586, (x8.flatMap encI)), (1004098, (x10.flatMap e49))], [], []⟩ [c_ 65525, c_ 8191] aln nocal ?_
            have h := Option.some.inj h
            subst h
            exact .fin0 [] (B false) [] aln (.z .s)
        · rw [if_neg c4] at h
          refine .cond' (.tmp 41) true [c_ 32756, c_ 32757, c_ 4095] (bT (nT (vF c4))) ?_
          refine .reg' [6] [] ⟨[(6, (B false))], [(1002049, (x2.flatMap encI)), (1002051, (x3.flatMap e49)), (1002305, (x5.flatMap encI)), (1002561, (x6.flatMap e49)), (1003586, (x8.flatMap encI))], [], []⟩ [c_ 32757, c_ 4095] aln nocal ?_
          have h := Option.some.inj h
          subst h
          exact .fin0 [] (B false) [] aln (.z .s)
      · rw [if_neg c3] at h
        refine .cond' (.tmp 36) true [c_ 16372, c_ 16373, c_ 2047] (bT (nT (qF c3))) ?_
        refine .reg' [6] [] ⟨[(6, (B false))], [(1002049, (x2.flatMap encI)), (1002051, (x3.flatMap e49)), (1002305, (x5.flatMap encI)), (1002561, (x6.flatMap e49))], [], []⟩ [c_ 16373, c_ 2047] aln nocal ?_
        have h := Option.some.inj h
        subst h
        exact .fin0 [] (B false) [] aln (.z .s)
end Go.Proofs.Ytddipeelmandjaa.Fns
