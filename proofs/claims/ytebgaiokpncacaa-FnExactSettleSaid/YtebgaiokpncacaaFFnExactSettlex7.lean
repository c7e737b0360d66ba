/- The functions that the law FnExactSettle reaches, by the engine. Printed by a program of this seat. -/
import Derived.Test.YtebgaiokpncacaaE5
import Derived.Test.YtebgaiokpncacaaProg
import Derived.Test.YtebgaiokpncacaaFFnExactSettlex6
namespace Go.Proofs.Ytebgaiokpncacaa.Fns
open Go.Proofs.Try Go.Proofs.Ytebgaiokpncacaa.Eng Go.RowKit
set_option maxRecDepth 100000
set_option linter.unusedVariables false
set_option linter.unusedSimpArgs false
theorem laws_eqEdge.J (a0 : S95) (a1 : S95) (r : Bool) (h : laws_eqEdge.f a0 a1 = some r) : J prog (.call 89 [(.ag [(I a0.f0), (I a0.f1), (I a0.f2), (I a0.f3)]), (.ag [(I a1.f0), (I a1.f1), (I a1.f2), (I a1.f3)])] [] (B r) []) := by
  unfold laws_eqEdge.f at h
  refine .call' [c_ 2, c_ 3] ?_
  refine .reg' [2, 3] [] ⟨[(2, (.pt 256 0 4)), (3, (.pt 257 0 4))], [(256, [(I a0.f0), (I a0.f1), (I a0.f2), (I a0.f3)]), (257, [(I a1.f0), (I a1.f1), (I a1.f2), (I a1.f3)])], [], []⟩ [c_ 12, c_ 13, c_ 7] aln nocal ?_
  refine .reg' [2, 3, 9] [] ⟨[(2, (.pt 256 0 4)), (3, (.pt 257 0 4)), (9, (B (!(a0.f0 == a1.f0))))], [(256, [(I a0.f0), (I a0.f1), (I a0.f2), (I a0.f3)]), (257, [(I a1.f0), (I a1.f1), (I a1.f2), (I a1.f3)])], [4 = 4 ∧ 0 + 1 ≤ 4, 4 = 4 ∧ 0 + 1 ≤ 4], []⟩ [c_ 13, c_ 7] (alc ⟨rfl, by decide⟩ (alc ⟨rfl, by decide⟩ aln)) nocal ?_
  by_cases c1 : a0.f0 = a1.f0
  · rw [if_pos c1] at h
    refine .cond' (.tmp 9) false [c_ 28, c_ 29, c_ 15] (bF (nF (qT c1))) ?_
    refine .reg' [2, 3, 14] [] ⟨[(2, (.pt 256 0 4)), (3, (.pt 257 0 4)), (14, (B (!(a0.f1 == a1.f1))))], [(256, [(I a0.f0), (I a0.f1), (I a0.f2), (I a0.f3)]), (257, [(I a1.f0), (I a1.f1), (I a1.f2), (I a1.f3)])], [4 = 4 ∧ 1 + 1 ≤ 4, 4 = 4 ∧ 1 + 1 ≤ 4], []⟩ [c_ 29, c_ 15] (alc ⟨rfl, by decide⟩ (alc ⟨rfl, by decide⟩ aln)) nocal ?_
    by_cases c2 : a0.f1 = a1.f1
    · rw [if_pos c2] at h
      refine .cond' (.tmp 14) false [c_ 60, c_ 61, c_ 31] (bF (nF (qT c2))) ?_
      refine .reg' [2, 3, 19] [] ⟨[(2, (.pt 256 0 4)), (3, (.pt 257 0 4)), (19, (B (!(a0.f2 == a1.f2))))], [(256, [(I a0.f0), (I a0.f1), (I a0.f2), (I a0.f3)]), (257, [(I a1.f0), (I a1.f1), (I a1.f2), (I a1.f3)])], [4 = 4 ∧ 2 + 1 ≤ 4, 4 = 4 ∧ 2 + 1 ≤ 4], []⟩ [c_ 61, c_ 31] (alc ⟨rfl, by decide⟩ (alc ⟨rfl, by decide⟩ aln)) nocal ?_
      by_cases c3 : a0.f2 = a1.f2
      · rw [if_pos c3] at h
        refine .cond' (.tmp 19) false [c_ 124, c_ 125, c_ 63] (bF (nF (qT c3))) ?_
        refine .reg' [24] [] ⟨[(24, (B (!(a0.f3 == a1.f3))))], [(256, [(I a0.f0), (I a0.f1), (I a0.f2), (I a0.f3)]), (257, [(I a1.f0), (I a1.f1), (I a1.f2), (I a1.f3)])], [4 = 4 ∧ 3 + 1 ≤ 4, 4 = 4 ∧ 3 + 1 ≤ 4], []⟩ [c_ 125, c_ 63] (alc ⟨rfl, by decide⟩ (alc ⟨rfl, by decide⟩ aln)) nocal ?_
        by_cases c4 : a0.f3 = a1.f3
        · rw [if_pos c4] at h
          refine .cond' (.tmp 24) false [c_ 126, c_ 127] (bF (nF (qT c4))) ?_
          refine .reg' [4] [] ⟨[(4, (B true))], [(256, [(I a0.f0), (I a0.f1), (I a0.f2), (I a0.f3)]), (257, [(I a1.f0), (I a1.f1), (I a1.f2), (I a1.f3)])], [], []⟩ [c_ 127] aln nocal ?_
          have h := Option.some.inj h
          subst h
          exact .fin0 [] (B true) [] aln (.z .s)
        · rw [if_neg c4] at h
          refine .cond' (.tmp 24) true [c_ 500, c_ 501, c_ 63] (bT (nT (qF c4))) ?_
          refine .reg' [4] [] ⟨[(4, (B false))], [(256, [(I a0.f0), (I a0.f1), (I a0.f2), (I a0.f3)]), (257, [(I a1.f0), (I a1.f1), (I a1.f2), (I a1.f3)])], [], []⟩ [c_ 501, c_ 63] aln nocal ?_
          have h := Option.some.inj h
          subst h
          exact .fin0 [] (B false) [] aln (.z .s)
      · rw [if_neg c3] at h
        refine .cond' (.tmp 19) true [c_ 244, c_ 245, c_ 31] (bT (nT (qF c3))) ?_
        refine .reg' [4] [] ⟨[(4, (B false))], [(256, [(I a0.f0), (I a0.f1), (I a0.f2), (I a0.f3)]), (257, [(I a1.f0), (I a1.f1), (I a1.f2), (I a1.f3)])], [], []⟩ [c_ 245, c_ 31] aln nocal ?_
        have h := Option.some.inj h
        subst h
        exact .fin0 [] (B false) [] aln (.z .s)
    · rw [if_neg c2] at h
      refine .cond' (.tmp 14) true [c_ 116, c_ 117, c_ 15] (bT (nT (qF c2))) ?_
      refine .reg' [4] [] ⟨[(4, (B false))], [(256, [(I a0.f0), (I a0.f1), (I a0.f2), (I a0.f3)]), (257, [(I a1.f0), (I a1.f1), (I a1.f2), (I a1.f3)])], [], []⟩ [c_ 117, c_ 15] aln nocal ?_
      have h := Option.some.inj h
      subst h
      exact .fin0 [] (B false) [] aln (.z .s)
  · rw [if_neg c1] at h
    refine .cond' (.tmp 9) true [c_ 52, c_ 53, c_ 7] (bT (nT (qF c1))) ?_
    refine .reg' [4] [] ⟨[(4, (B false))], [(256, [(I a0.f0), (I a0.f1), (I a0.f2), (I a0.f3)]), (257, [(I a1.f0), (I a1.f1), (I a1.f2), (I a1.f3)])], [], []⟩ [c_ 53, c_ 7] aln nocal ?_
    have h := Option.some.inj h
    subst h
    exact .fin0 [] (B false) [] aln (.z .s)
/-! laws_eqEdgeS: function 67 -/
def laws_eqEdgeS.l0 : Nat → (List S95) → (List S95) → Int → Option Bool
 | 0, _, _, _ => none
 | k + 1, a0, a1, x1 => (if x1 < (a0.length : Int) then (if 0 ≤ x1 then (if x1 < (a1.length : Int) then ((laws_eqEdge.f (at_ a0 x1) (at_ a1 x1)).bind fun x2 => (if x2 = true then (laws_eqEdgeS.l0 k a0 a1 (wrap64 (x1 + 1))) else (some false))) else none) else none) else (some true))
def laws_eqEdgeS.f (k : Nat) (a0 : (List S95)) (a1 : (List S95)) : Option Bool := (if (a0.length : Int) = (a1.length : Int) then (laws_eqEdgeS.l0 k a0 a1 0) else (some false))
theorem laws_eqEdgeS.lab : ∀ k, (∀ (a0 : (List S95)) (a1 : (List S95)) (x1 : Int) (r : Bool), laws_eqEdgeS.l0 k a0 a1 x1 = some r → J prog (.run 67 [] [l_ 58, b_ 0, c_ 15] [(0, (.sl true a0.length 4 (a0.flatMap e95))), (1, (.sl true a1.length 4 (a1.flatMap e95))), (5, (I x1))] [] (B r) []))
 | 0 => (by intro a0 a1 x1 r h; unfold laws_eqEdgeS.l0 at h; cases h)
 | k + 1 => by
  have ih0 := laws_eqEdgeS.lab k
  · intro a0 a1 x1 r h
    unfold laws_eqEdgeS.l0 at h
    refine .loop' [c_ 464, c_ 465, c_ 233, l_ 58, b_ 0, c_ 15] ?_
    refine .reg' [0, 1, 5, 14] [] ⟨[(0, (.sl true a0.length 4 (a0.flatMap e95))), (1, (.sl true a1.length 4 (a1.flatMap e95))), (5, (I x1)), (14, (B (decide (x1 < (a0.length : Int)))))], [], [], []⟩ [c_ 465, c_ 233, l_ 58, b_ 0, c_ 15] aln nocal ?_
    by_cases c2 : x1 < (a0.length : Int)
    · rw [if_pos c2] at h
      refine .cond' (.tmp 14) true [c_ 1864, c_ 1865, b_ 1, c_ 467, l_ 58, b_ 0, c_ 15] (bT (dT c2)) ?_
      by_cases c3 : 0 ≤ x1
      · rw [if_pos c3] at h
        by_cases c4 : x1 < (a1.length : Int)
        · rw [if_pos c4] at h
          obtain ⟨x2, hx2, h⟩ := Option.bind_eq_some_iff.mp h
          refine .reg' [0, 1, 5, 26] [.no, .no, .no, .v (.ag [(I (at_ a0 x1).f0), (I (at_ a0 x1).f1), (I (at_ a0 x1).f2), (I (at_ a0 x1).f3)]), .no, .no, .no, .v (.ag [(I (at_ a1 x1).f0), (I (at_ a1 x1).f1), (I (at_ a1 x1).f2), (I (at_ a1 x1).f3)]), .c ⟨89, [(.ag [(I (at_ a0 x1).f0), (I (at_ a0 x1).f1), (I (at_ a0 x1).f2), (I (at_ a0 x1).f3)]), (.ag [(I (at_ a1 x1).f0), (I (at_ a1 x1).f1), (I (at_ a1 x1).f2), (I (at_ a1 x1).f3)])], [], (B x2), [], [], [], [], (B x2), []⟩] ⟨[(0, (.sl true a0.length 4 (a0.flatMap e95))), (1, (.sl true a1.length 4 (a1.flatMap e95))), (5, (I x1)), (26, (B (!x2)))], [], [(0 : Int) ≤ x1 ∧ x1 < (a0.length : Int), rdC prog 96 ((a0.flatMap e95).drop (x1.toNat * 4)) = (.ag [(I (at_ a0 x1).f0), (I (at_ a0 x1).f1), (I (at_ a0 x1).f2), (I (at_ a0 x1).f3)]), 4 ≤ ((a0.flatMap e95).drop (x1.toNat * 4)).length, (0 : Int) ≤ x1 ∧ x1 < (a1.length : Int), rdC prog 96 ((a1.flatMap e95).drop (x1.toNat * 4)) = (.ag [(I (at_ a1 x1).f0), (I (at_ a1 x1).f1), (I (at_ a1 x1).f2), (I (at_ a1 x1).f3)]), 4 ≤ ((a1.flatMap e95).drop (x1.toNat * 4)).length, COK (hget []) [(.ag [(I (at_ a0 x1).f0), (I (at_ a0 x1).f1), (I (at_ a0 x1).f2), (I (at_ a0 x1).f3)]), (.ag [(I (at_ a1 x1).f0), (I (at_ a1 x1).f1), (I (at_ a1 x1).f2), (I (at_ a1 x1).f3)])] ⟨89, [(.ag [(I (at_ a0 x1).f0), (I (at_ a0 x1).f1), (I (at_ a0 x1).f2), (I (at_ a0 x1).f3)]), (.ag [(I (at_ a1 x1).f0), (I (at_ a1 x1).f1), (I (at_ a1 x1).f2), (I (at_ a1 x1).f3)])], [], (B x2), [], [], [], [], (B x2), []⟩], [⟨89, [(.ag [(I (at_ a0 x1).f0), (I (at_ a0 x1).f1), (I (at_ a0 x1).f2), (I (at_ a0 x1).f3)]), (.ag [(I (at_ a1 x1).f0), (I (at_ a1 x1).f1), (I (at_ a1 x1).f2), (I (at_ a1 x1).f3)])], [], (B x2), [], [], [], [], (B x2), []⟩]⟩ [c_ 1865, b_ 1, c_ 467, l_ 58, b_ 0, c_ 15] (alc ⟨c3, c2⟩ (alc (ldA e95_ok rfl rfl c3 c2) (alc (okI e95_ok c3 c2 (by decide)) (alc ⟨c3, c4⟩ (alc (ldA e95_ok rfl rfl c3 c4) (alc (okI e95_ok c3 c4 (by decide)) (alc (cok0 false (a2c (.z (frz_ag (a2c .s (a2c .s (a2c .s (a2c .s a2n)))))) (a2c (.z (frz_ag (a2c .s (a2c .s (a2c .s (a2c .s a2n)))))) a2n)) (.z .s) (fun h => absurd h (by decide))) aln))))))) (acal (laws_eqEdge.J (at_ a0 x1) (at_ a1 x1) _ hx2) nocal) ?_
          by_cases c5 : x2 = true
          · rw [if_pos c5] at h
            refine .cond' (.tmp 26) false [c_ 467, l_ 58, b_ 0, c_ 15] (bF (nF c5)) ?_
            refine .reg' [0, 1, 5] [] ⟨[(0, (.sl true a0.length 4 (a0.flatMap e95))), (1, (.sl true a1.length 4 (a1.flatMap e95))), (5, (I (wrap64 (x1 + 1))))], [], [], []⟩ [l_ 58, b_ 0, c_ 15] aln nocal ?_
            exact ih0 a0 a1 (wrap64 (x1 + 1)) _ h
          · rw [if_neg c5] at h
            refine .cond' (.tmp 26) true [c_ 7460, c_ 7461, b_ 1, c_ 467, l_ 58, b_ 0, c_ 15] (bT (nT (vF c5))) ?_
            refine .reg' [4] [] ⟨[(4, (B false))], [], [], []⟩ [c_ 7461, b_ 1, c_ 467, l_ 58, b_ 0, c_ 15] aln nocal ?_
            have h := Option.some.inj h
            subst h
            exact .fin0 [] (B false) [] aln (.z .s)
        · rw [if_neg c4] at h
          cases h
      · rw [if_neg c3] at h
        cases h
    · rw [if_neg c2] at h
      refine .cond' (.tmp 14) false [c_ 30, c_ 31] (bF (dF c2)) ?_
      refine .reg' [4] [] ⟨[(4, (B true))], [], [], []⟩ [c_ 31] aln nocal ?_
      have h := Option.some.inj h
      subst h
      exact .fin0 [] (B true) [] aln (.z .s)
theorem laws_eqEdgeS.J (k : Nat) (a0 : (List S95)) (a1 : (List S95)) (r : Bool) (h : laws_eqEdgeS.f k a0 a1 = some r) : J prog (.call 67 [(.sl true a0.length 4 (a0.flatMap e95)), (.sl true a1.length 4 (a1.flatMap e95))] [] (B r) []) := by
  unfold laws_eqEdgeS.f at h
  have ih0 := laws_eqEdgeS.lab k
  refine .call' [c_ 2, c_ 3] ?_
  refine .reg' [0, 1] [] ⟨[(0, (.sl true a0.length 4 (a0.flatMap e95))), (1, (.sl true a1.length 4 (a1.flatMap e95)))], [], [], []⟩ [c_ 12, c_ 13, c_ 7] aln nocal ?_
  refine .reg' [0, 1, 10] [] ⟨[(0, (.sl true a0.length 4 (a0.flatMap e95))), (1, (.sl true a1.length 4 (a1.flatMap e95))), (10, (B (!((a0.length : Int) == (a1.length : Int)))))], [], [], []⟩ [c_ 13, c_ 7] aln nocal ?_
  by_cases c1 : (a0.length : Int) = (a1.length : Int)
  · rw [if_pos c1] at h
    refine .cond' (.tmp 10) false [c_ 28, c_ 29, c_ 15] (bF (nF (qT c1))) ?_
    refine .reg' [0, 1, 5] [] ⟨[(0, (.sl true a0.length 4 (a0.flatMap e95))), (1, (.sl true a1.length 4 (a1.flatMap e95))), (5, (I 0))], [], [], []⟩ [l_ 58, b_ 0, c_ 15] aln nocal ?_
    exact ih0 a0 a1 0 _ h
  · rw [if_neg c1] at h
    refine .cond' (.tmp 10) true [c_ 52, c_ 53, c_ 7] (bT (nT (qF c1))) ?_
    refine .reg' [4] [] ⟨[(4, (B false))], [], [], []⟩ [c_ 53, c_ 7] aln nocal ?_
    have h := Option.some.inj h
    subst h
    exact .fin0 [] (B false) [] aln (.z .s)
/-! laws_eqNet: function 29 -/
def laws_eqNet.f (k : Nat) (a0 : S46) (a1 : S46) : Option Bool := (if a0.f0 = a1.f0 then ((laws_eqEdgeS.f k a0.f1 a1.f1).bind fun x1 => (if x1 = true then (some true) else (some false))) else (some false))
theorem laws_eqNet.J (k : Nat) (a0 : S46) (a1 : S46) (r : Bool) (h : laws_eqNet.f k a0 a1 = some r) : J prog (.call 29 [(.ag [(I a0.f0), (.sl true a0.f1.length 4 (a0.f1.flatMap e95))]), (.ag [(I a1.f0), (.sl true a1.f1.length 4 (a1.f1.flatMap e95))])] [] (B r) []) := by
  unfold laws_eqNet.f at h
  refine .call' [c_ 2, c_ 3] ?_
  refine .reg' [2, 3] [] ⟨[(2, (.pt 256 0 2)), (3, (.pt 257 0 2))], [(256, [(I a0.f0), (.sl true a0.f1.length 4 (a0.f1.flatMap e95))]), (257, [(I a1.f0), (.sl true a1.f1.length 4 (a1.f1.flatMap e95))])], [], []⟩ [c_ 12, c_ 13, c_ 7] aln nocal ?_
  refine .reg' [2, 3, 9] [] ⟨[(2, (.pt 256 0 2)), (3, (.pt 257 0 2)), (9, (B (!(a0.f0 == a1.f0))))], [(256, [(I a0.f0), (.sl true a0.f1.length 4 (a0.f1.flatMap e95))]), (257, [(I a1.f0), (.sl true a1.f1.length 4 (a1.f1.flatMap e95))])], [2 = 2 ∧ 0 + 1 ≤ 2, 2 = 2 ∧ 0 + 1 ≤ 2], []⟩ [c_ 13, c_ 7] (alc ⟨rfl, by decide⟩ (alc ⟨rfl, by decide⟩ aln)) nocal ?_
  by_cases c1 : a0.f0 = a1.f0
  · rw [if_pos c1] at h
    refine .cond' (.tmp 9) false [c_ 28, c_ 29, c_ 15] (bF (nF (qT c1))) ?_
    obtain ⟨x1, hx1, h⟩ := Option.bind_eq_some_iff.mp h
    refine .reg' [15] [.no, .no, .no, .no, .c ⟨67, [(.sl true a0.f1.length 4 (a0.f1.flatMap e95)), (.sl true a1.f1.length 4 (a1.f1.flatMap e95))], [], (B x1), [], [], [], [], (B x1), []⟩] ⟨[(15, (B (!x1)))], [(256, [(I a0.f0), (.sl true a0.f1.length 4 (a0.f1.flatMap e95))]), (257, [(I a1.f0), (.sl true a1.f1.length 4 (a1.f1.flatMap e95))])], [2 = 2 ∧ 1 + 1 ≤ 2, 2 = 2 ∧ 1 + 1 ≤ 2, COK (hget [(256, [(I a0.f0), (.sl true a0.f1.length 4 (a0.f1.flatMap e95))]), (257, [(I a1.f0), (.sl true a1.f1.length 4 (a1.f1.flatMap e95))])]) [(.sl true a0.f1.length 4 (a0.f1.flatMap e95)), (.sl true a1.f1.length 4 (a1.f1.flatMap e95))] ⟨67, [(.sl true a0.f1.length 4 (a0.f1.flatMap e95)), (.sl true a1.f1.length 4 (a1.f1.flatMap e95))], [], (B x1), [], [], [], [], (B x1), []⟩], [⟨67, [(.sl true a0.f1.length 4 (a0.f1.flatMap e95)), (.sl true a1.f1.length 4 (a1.f1.flatMap e95))], [], (B x1), [], [], [], [], (B x1), []⟩]⟩ [c_ 29, c_ 15] (alc ⟨rfl, by decide⟩ (alc ⟨rfl, by decide⟩ (alc (cok0 false (a2c (.z (frz_sl e95_ok (fun h => h))) (a2c (.z (frz_sl e95_ok (fun h => h))) a2n)) (.z .s) (fun h => absurd h (by decide))) aln))) (acal (laws_eqEdgeS.J k a0.f1 a1.f1 _ hx1) nocal) ?_
    by_cases c2 : x1 = true
    · rw [if_pos c2] at h
      refine .cond' (.tmp 15) false [c_ 30, c_ 31] (bF (nF c2)) ?_
      refine .reg' [4] [] ⟨[(4, (B true))], [(256, [(I a0.f0), (.sl true a0.f1.length 4 (a0.f1.flatMap e95))]), (257, [(I a1.f0), (.sl true a1.f1.length 4 (a1.f1.flatMap e95))])], [], []⟩ [c_ 31] aln nocal ?_
      have h := Option.some.inj h
      subst h
      exact .fin0 [] (B true) [] aln (.z .s)
    · rw [if_neg c2] at h
      refine .cond' (.tmp 15) true [c_ 116, c_ 117, c_ 15] (bT (nT (vF c2))) ?_
      refine .reg' [4] [] ⟨[(4, (B false))], [(256, [(I a0.f0), (.sl true a0.f1.length 4 (a0.f1.flatMap e95))]), (257, [(I a1.f0), (.sl true a1.f1.length 4 (a1.f1.flatMap e95))])], [], []⟩ [c_ 117, c_ 15] aln nocal ?_
      have h := Option.some.inj h
      subst h
      exact .fin0 [] (B false) [] aln (.z .s)
  · rw [if_neg c1] at h
    refine .cond' (.tmp 9) true [c_ 52, c_ 53, c_ 7] (bT (nT (qF c1))) ?_
    refine .reg' [4] [] ⟨[(4, (B false))], [(256, [(I a0.f0), (.sl true a0.f1.length 4 (a0.f1.flatMap e95))]), (257, [(I a1.f0), (.sl true a1.f1.length 4 (a1.f1.flatMap e95))])], [], []⟩ [c_ 53, c_ 7] aln nocal ?_
    have h := Option.some.inj h
    subst h
    exact .fin0 [] (B false) [] aln (.z .s)
/-! laws_markEdgeS: function 68 -/
def laws_markEdgeS.l0 : Nat → (List S95) → Int → Int → Option (Int × (List S95))
 | 0, _, _, _ => none
 | k + 1, x1, x2, x3 => (if x3 < (x1.length : Int) then (if 0 ≤ x3 then (laws_markEdgeS.l0 k (x1.set x3.toNat (⟨x2, (wrap64 (x2 + 1)), (wrap64 ((wrap64 (x2 + 1)) + 1)), (wrap64 ((wrap64 ((wrap64 (x2 + 1)) + 1)) + 1))⟩ : S95)) (wrap64 ((wrap64 ((wrap64 ((wrap64 (x2 + 1)) + 1)) + 1)) + 1)) (wrap64 (x3 + 1))) else none) else (some (x2, x1)))
def laws_markEdgeS.f (k : Nat) (a0 : (List S95)) (a1 : Int) : Option (Int × (List S95)) := (laws_markEdgeS.l0 k a0 a1 0)
theorem laws_markEdgeS.lab : ∀ k, (∀ (x1 : (List S95)) (x2 : Int) (x3 : Int) (r : (Int × (List S95))), laws_markEdgeS.l0 k x1 x2 x3 = some r → J prog (.run 68 [0] [l_ 26, b_ 0, c_ 7] [(0, (.rf 0 0 x1.length 4 (x1.length * 4))), (1, (I x2)), (5, (I x3))] [(0, (x1.flatMap e95))] (I r.1) [(0, (r.2.flatMap e95))]))
 | 0 => (by intro x1 x2 x3 r h; unfold laws_markEdgeS.l0 at h; cases h)
 | k + 1 => by
  have ih0 := laws_markEdgeS.lab k
  · intro x1 x2 x3 r h
    unfold laws_markEdgeS.l0 at h
    refine .loop' [c_ 208, c_ 209, c_ 105, l_ 26, b_ 0, c_ 7] ?_
    refine .reg' [0, 1, 5, 9] [] ⟨[(0, (.rf 0 0 x1.length 4 (x1.length * 4))), (1, (I x2)), (5, (I x3)), (9, (B (decide (x3 < (x1.length : Int)))))], [(0, (x1.flatMap e95))], [], []⟩ [c_ 209, c_ 105, l_ 26, b_ 0, c_ 7] aln nocal ?_
    by_cases c1 : x3 < (x1.length : Int)
    · rw [if_pos c1] at h
      refine .cond' (.tmp 9) true [c_ 840, c_ 841, b_ 1, c_ 211, l_ 26, b_ 0, c_ 7] (bT (dT c1)) ?_
      by_cases c2 : 0 ≤ x3
      · rw [if_pos c2] at h
        refine .reg' [0, 1, 5] [.no, .no, .no, .no, .no, .w .un ((x1.set x3.toNat (⟨x2, (at_ x1 x3).f1, (at_ x1 x3).f2, (at_ x1 x3).f3⟩ : S95)).flatMap e95)] ⟨[(0, (.rf 0 0 x1.length 4 (x1.length * 4))), (1, (I x2)), (5, (I x3))], [(0, ((x1.set x3.toNat (⟨x2, (at_ x1 x3).f1, (at_ x1 x3).f2, (at_ x1 x3).f3⟩ : S95)).flatMap e95))], [(0 : Int) ≤ x3 ∧ x3 < (x1.length : Int), V.un = V.un, spl (x1.flatMap e95) (0 + x3.toNat * 4 + 0) [(I x2)] = ((x1.set x3.toNat (⟨x2, (at_ x1 x3).f1, (at_ x1 x3).f2, (at_ x1 x3).f3⟩ : S95)).flatMap e95), x1.length * 4 = (x1.flatMap e95).length ∧ 0 + x3.toNat * 4 + 0 + 1 ≤ (x1.flatMap e95).length], []⟩ [c_ 1682, c_ 1683, b_ 1, c_ 211, l_ 26, b_ 0, c_ 7] (alc ⟨c2, c1⟩ (alc rfl (alc (st_row e95_ok 0 c2 c1 (Nat.le_of_ble_eq_true rfl) rfl) (alc (okA e95_ok c2 c1 (by decide)) aln)))) nocal ?_
        refine .eqs (env2 := [(0, (.rf 0 0 ((x1.set x3.toNat (⟨x2, (at_ x1 x3).f1, (at_ x1 x3).f2, (at_ x1 x3).f3⟩ : S95)).length) 4 ((x1.set x3.toNat (⟨x2, (at_ x1 x3).f1, (at_ x1 x3).f2, (at_ x1 x3).f3⟩ : S95)).length * 4))), (1, (I x2)), (5, (I x3))]) (H2 := [(0, ((x1.set x3.toNat (⟨x2, (at_ x1 x3).f1, (at_ x1 x3).f2, (at_ x1 x3).f3⟩ : S95)).flatMap e95))]) (by first | (simp only [List.length_set]; done) | simp) (by first | rfl | (simp only [List.length_set]; done) | simp) ?_
        refine .reg' [0, 1, 5] [] ⟨[(0, (.rf 0 0 ((x1.set x3.toNat (⟨x2, (at_ x1 x3).f1, (at_ x1 x3).f2, (at_ x1 x3).f3⟩ : S95)).length) 4 ((x1.set x3.toNat (⟨x2, (at_ x1 x3).f1, (at_ x1 x3).f2, (at_ x1 x3).f3⟩ : S95)).length * 4))), (1, (I (wrap64 (x2 + 1)))), (5, (I x3))], [(0, ((x1.set x3.toNat (⟨x2, (at_ x1 x3).f1, (at_ x1 x3).f2, (at_ x1 x3).f3⟩ : S95)).flatMap e95))], [], []⟩ [c_ 3366, c_ 3367, b_ 1, c_ 211, l_ 26, b_ 0, c_ 7] aln nocal ?_
        refine .reg' [0, 1, 5] [.no, .no, .no, .no, .no, .w .un ((x1.set x3.toNat (⟨x2, (wrap64 (x2 + 1)), (at_ x1 x3).f2, (at_ x1 x3).f3⟩ : S95)).flatMap e95)] ⟨[(0, (.rf 0 0 ((x1.set x3.toNat (⟨x2, (at_ x1 x3).f1, (at_ x1 x3).f2, (at_ x1 x3).f3⟩ : S95)).length) 4 ((x1.set x3.toNat (⟨x2, (at_ x1 x3).f1, (at_ x1 x3).f2, (at_ x1 x3).f3⟩ : S95)).length * 4))), (1, (I (wrap64 (x2 + 1)))), (5, (I x3))], [(0, ((x1.set x3.toNat (⟨x2, (wrap64 (x2 + 1)), (at_ x1 x3).f2, (at_ x1 x3).f3⟩ : S95)).flatMap e95))], [(0 : Int) ≤ x3 ∧ x3 < ((x1.set x3.toNat (⟨x2, (at_ x1 x3).f1, (at_ x1 x3).f2, (at_ x1 x3).f3⟩ : S95)).length : Int), V.un = V.un, spl ((x1.set x3.toNat (⟨x2, (at_ x1 x3).f1, (at_ x1 x3).f2, (at_ x1 x3).f3⟩ : S95)).flatMap e95) (0 + x3.toNat * 4 + 1) [(I (wrap64 (x2 + 1)))] = ((x1.set x3.toNat (⟨x2, (wrap64 (x2 + 1)), (at_ x1 x3).f2, (at_ x1 x3).f3⟩ : S95)).flatMap e95), (x1.set x3.toNat (⟨x2, (at_ x1 x3).f1, (at_ x1 x3).f2, (at_ x1 x3).f3⟩ : S95)).length * 4 = ((x1.set x3.toNat (⟨x2, (at_ x1 x3).f1, (at_ x1 x3).f2, (at_ x1 x3).f3⟩ : S95)).flatMap e95).length ∧ 0 + x3.toNat * 4 + 1 + 1 ≤ ((x1.set x3.toNat (⟨x2, (at_ x1 x3).f1, (at_ x1 x3).f2, (at_ x1 x3).f3⟩ : S95)).flatMap e95).length], []⟩ [c_ 6734, c_ 6735, b_ 1, c_ 211, l_ 26, b_ 0, c_ 7] (alc ⟨c2, (ls c1)⟩ (alc rfl (alc (st_row2 e95_ok 1 c2 c1 (Nat.le_of_ble_eq_true rfl) rfl) (alc (okA e95_ok c2 (ls c1) (by decide)) aln)))) nocal ?_
        refine .eqs (env2 := [(0, (.rf 0 0 ((x1.set x3.toNat (⟨x2, (wrap64 (x2 + 1)), (at_ x1 x3).f2, (at_ x1 x3).f3⟩ : S95)).length) 4 ((x1.set x3.toNat (⟨x2, (wrap64 (x2 + 1)), (at_ x1 x3).f2, (at_ x1 x3).f3⟩ : S95)).length * 4))), (1, (I (wrap64 (x2 + 1)))), (5, (I x3))]) (H2 := [(0, ((x1.set x3.toNat (⟨x2, (wrap64 (x2 + 1)), (at_ x1 x3).f2, (at_ x1 x3).f3⟩ : S95)).flatMap e95))]) (by first | (simp only [List.length_set]; done) | simp) (by first | rfl | (simp only [List.length_set]; done) | simp) ?_
        refine .reg' [0, 1, 5] [] ⟨[(0, (.rf 0 0 ((x1.set x3.toNat (⟨x2, (wrap64 (x2 + 1)), (at_ x1 x3).f2, (at_ x1 x3).f3⟩ : S95)).length) 4 ((x1.set x3.toNat (⟨x2, (wrap64 (x2 + 1)), (at_ x1 x3).f2, (at_ x1 x3).f3⟩ : S95)).length * 4))), (1, (I (wrap64 ((wrap64 (x2 + 1)) + 1)))), (5, (I x3))], [(0, ((x1.set x3.toNat (⟨x2, (wrap64 (x2 + 1)), (at_ x1 x3).f2, (at_ x1 x3).f3⟩ : S95)).flatMap e95))], [], []⟩ [c_ 13470, c_ 13471, b_ 1, c_ 211, l_ 26, b_ 0, c_ 7] aln nocal ?_
        refine .reg' [0, 1, 5] [.no, .no, .no, .no, .no, .w .un ((x1.set x3.toNat (⟨x2, (wrap64 (x2 + 1)), (wrap64 ((wrap64 (x2 + 1)) + 1)), (at_ x1 x3).f3⟩ : S95)).flatMap e95)] ⟨[(0, (.rf 0 0 ((x1.set x3.toNat (⟨x2, (wrap64 (x2 + 1)), (at_ x1 x3).f2, (at_ x1 x3).f3⟩ : S95)).length) 4 ((x1.set x3.toNat (⟨x2, (wrap64 (x2 + 1)), (at_ x1 x3).f2, (at_ x1 x3).f3⟩ : S95)).length * 4))), (1, (I (wrap64 ((wrap64 (x2 + 1)) + 1)))), (5, (I x3))], [(0, ((x1.set x3.toNat (⟨x2, (wrap64 (x2 + 1)), (wrap64 ((wrap64 (x2 + 1)) + 1)), (at_ x1 x3).f3⟩ : S95)).flatMap e95))], [(0 : Int) ≤ x3 ∧ x3 < ((x1.set x3.toNat (⟨x2, (wrap64 (x2 + 1)), (at_ x1 x3).f2, (at_ x1 x3).f3⟩ : S95)).length : Int), V.un = V.un, spl ((x1.set x3.toNat (⟨x2, (wrap64 (x2 + 1)), (at_ x1 x3).f2, (at_ x1 x3).f3⟩ : S95)).flatMap e95) (0 + x3.toNat * 4 + 2) [(I (wrap64 ((wrap64 (x2 + 1)) + 1)))] = ((x1.set x3.toNat (⟨x2, (wrap64 (x2 + 1)), (wrap64 ((wrap64 (x2 + 1)) + 1)), (at_ x1 x3).f3⟩ : S95)).flatMap e95), (x1.set x3.toNat (⟨x2, (wrap64 (x2 + 1)), (at_ x1 x3).f2, (at_ x1 x3).f3⟩ : S95)).length * 4 = ((x1.set x3.toNat (⟨x2, (wrap64 (x2 + 1)), (at_ x1 x3).f2, (at_ x1 x3).f3⟩ : S95)).flatMap e95).length ∧ 0 + x3.toNat * 4 + 2 + 1 ≤ ((x1.set x3.toNat (⟨x2, (wrap64 (x2 + 1)), (at_ x1 x3).f2, (at_ x1 x3).f3⟩ : S95)).flatMap e95).length], []⟩ [c_ 26942, c_ 26943, b_ 1, c_ 211, l_ 26, b_ 0, c_ 7] (alc ⟨c2, (ls c1)⟩ (alc rfl (alc (st_row2 e95_ok 2 c2 c1 (Nat.le_of_ble_eq_true rfl) rfl) (alc (okA e95_ok c2 (ls c1) (by decide)) aln)))) nocal ?_
        refine .eqs (env2 := [(0, (.rf 0 0 ((x1.set x3.toNat (⟨x2, (wrap64 (x2 + 1)), (wrap64 ((wrap64 (x2 + 1)) + 1)), (at_ x1 x3).f3⟩ : S95)).length) 4 ((x1.set x3.toNat (⟨x2, (wrap64 (x2 + 1)), (wrap64 ((wrap64 (x2 + 1)) + 1)), (at_ x1 x3).f3⟩ : S95)).length * 4))), (1, (I (wrap64 ((wrap64 (x2 + 1)) + 1)))), (5, (I x3))]) (H2 := [(0, ((x1.set x3.toNat (⟨x2, (wrap64 (x2 + 1)), (wrap64 ((wrap64 (x2 + 1)) + 1)), (at_ x1 x3).f3⟩ : S95)).flatMap e95))]) (by first | (simp only [List.length_set]; done) | simp) (by first | rfl | (simp only [List.length_set]; done) | simp) ?_
        refine .reg' [0, 1, 5] [] ⟨[(0, (.rf 0 0 ((x1.set x3.toNat (⟨x2, (wrap64 (x2 + 1)), (wrap64 ((wrap64 (x2 + 1)) + 1)), (at_ x1 x3).f3⟩ : S95)).length) 4 ((x1.set x3.toNat (⟨x2, (wrap64 (x2 + 1)), (wrap64 ((wrap64 (x2 + 1)) + 1)), (at_ x1 x3).f3⟩ : S95)).length * 4))), (1, (I (wrap64 ((wrap64 ((wrap64 (x2 + 1)) + 1)) + 1)))), (5, (I x3))], [(0, ((x1.set x3.toNat (⟨x2, (wrap64 (x2 + 1)), (wrap64 ((wrap64 (x2 + 1)) + 1)), (at_ x1 x3).f3⟩ : S95)).flatMap e95))], [], []⟩ [c_ 53886, c_ 53887, b_ 1, c_ 211, l_ 26, b_ 0, c_ 7] aln nocal ?_
        refine .reg' [0, 1, 5] [.no, .no, .no, .no, .no, .w .un ((x1.set x3.toNat (⟨x2, (wrap64 (x2 + 1)), (wrap64 ((wrap64 (x2 + 1)) + 1)), (wrap64 ((wrap64 ((wrap64 (x2 + 1)) + 1)) + 1))⟩ : S95)).flatMap e95)] ⟨[(0, (.rf 0 0 ((x1.set x3.toNat (⟨x2, (wrap64 (x2 + 1)), (wrap64 ((wrap64 (x2 + 1)) + 1)), (at_ x1 x3).f3⟩ : S95)).length) 4 ((x1.set x3.toNat (⟨x2, (wrap64 (x2 + 1)), (wrap64 ((wrap64 (x2 + 1)) + 1)), (at_ x1 x3).f3⟩ : S95)).length * 4))), (1, (I (wrap64 ((wrap64 ((wrap64 (x2 + 1)) + 1)) + 1)))), (5, (I x3))], [(0, ((x1.set x3.toNat (⟨x2, (wrap64 (x2 + 1)), (wrap64 ((wrap64 (x2 + 1)) + 1)), (wrap64 ((wrap64 ((wrap64 (x2 + 1)) + 1)) + 1))⟩ : S95)).flatMap e95))], [(0 : Int) ≤ x3 ∧ x3 < ((x1.set x3.toNat (⟨x2, (wrap64 (x2 + 1)), (wrap64 ((wrap64 (x2 + 1)) + 1)), (at_ x1 x3).f3⟩ : S95)).length : Int), V.un = V.un, spl ((x1.set x3.toNat (⟨x2, (wrap64 (x2 + 1)), (wrap64 ((wrap64 (x2 + 1)) + 1)), (at_ x1 x3).f3⟩ : S95)).flatMap e95) (0 + x3.toNat * 4 + 3) [(I (wrap64 ((wrap64 ((wrap64 (x2 + 1)) + 1)) + 1)))] = ((x1.set x3.toNat (⟨x2, (wrap64 (x2 + 1)), (wrap64 ((wrap64 (x2 + 1)) + 1)), (wrap64 ((wrap64 ((wrap64 (x2 + 1)) + 1)) + 1))⟩ : S95)).flatMap e95), (x1.set x3.toNat (⟨x2, (wrap64 (x2 + 1)), (wrap64 ((wrap64 (x2 + 1)) + 1)), (at_ x1 x3).f3⟩ : S95)).length * 4 = ((x1.set x3.toNat (⟨x2, (wrap64 (x2 + 1)), (wrap64 ((wrap64 (x2 + 1)) + 1)), (at_ x1 x3).f3⟩ : S95)).flatMap e95).length ∧ 0 + x3.toNat * 4 + 3 + 1 ≤ ((x1.set x3.toNat (⟨x2, (wrap64 (x2 + 1)), (wrap64 ((wrap64 (x2 + 1)) + 1)), (at_ x1 x3).f3⟩ : S95)).flatMap e95).length], []⟩ [c_ 53887, b_ 1, c_ 211, l_ 26, b_ 0, c_ 7] (alc ⟨c2, (ls c1)⟩ (alc rfl (alc (st_row2 e95_ok 3 c2 c1 (Nat.le_of_ble_eq_true rfl) rfl) (alc (okA e95_ok c2 (ls c1) (by decide)) aln)))) nocal ?_
        refine .eqs (env2 := [(0, (.rf 0 0 ((x1.set x3.toNat (⟨x2, (wrap64 (x2 + 1)), (wrap64 ((wrap64 (x2 + 1)) + 1)), (wrap64 ((wrap64 ((wrap64 (x2 + 1)) + 1)) + 1))⟩ : S95)).length) 4 ((x1.set x3.toNat (⟨x2, (wrap64 (x2 + 1)), (wrap64 ((wrap64 (x2 + 1)) + 1)), (wrap64 ((wrap64 ((wrap64 (x2 + 1)) + 1)) + 1))⟩ : S95)).length * 4))), (1, (I (wrap64 ((wrap64 ((wrap64 (x2 + 1)) + 1)) + 1)))), (5, (I x3))]) (H2 := [(0, ((x1.set x3.toNat (⟨x2, (wrap64 (x2 + 1)), (wrap64 ((wrap64 (x2 + 1)) + 1)), (wrap64 ((wrap64 ((wrap64 (x2 + 1)) + 1)) + 1))⟩ : S95)).flatMap e95))]) (by first | (simp only [List.length_set]; done) | simp) (by first | rfl | (simp only [List.length_set]; done) | simp) ?_
        refine .reg' [0, 1, 5] [] ⟨[(0, (.rf 0 0 ((x1.set x3.toNat (⟨x2, (wrap64 (x2 + 1)), (wrap64 ((wrap64 (x2 + 1)) + 1)), (wrap64 ((wrap64 ((wrap64 (x2 + 1)) + 1)) + 1))⟩ : S95)).length) 4 ((x1.set x3.toNat (⟨x2, (wrap64 (x2 + 1)), (wrap64 ((wrap64 (x2 + 1)) + 1)), (wrap64 ((wrap64 ((wrap64 (x2 + 1)) + 1)) + 1))⟩ : S95)).length * 4))), (1, (I (wrap64 ((wrap64 ((wrap64 ((wrap64 (x2 + 1)) + 1)) + 1)) + 1)))), (5, (I x3))], [(0, ((x1.set x3.toNat (⟨x2, (wrap64 (x2 + 1)), (wrap64 ((wrap64 (x2 + 1)) + 1)), (wrap64 ((wrap64 ((wrap64 (x2 + 1)) + 1)) + 1))⟩ : S95)).flatMap e95))], [], []⟩ [c_ 211, l_ 26, b_ 0, c_ 7] aln nocal ?_
        refine .reg' [0, 1, 5] [] ⟨[(0, (.rf 0 0 ((x1.set x3.toNat (⟨x2, (wrap64 (x2 + 1)), (wrap64 ((wrap64 (x2 + 1)) + 1)), (wrap64 ((wrap64 ((wrap64 (x2 + 1)) + 1)) + 1))⟩ : S95)).length) 4 ((x1.set x3.toNat (⟨x2, (wrap64 (x2 + 1)), (wrap64 ((wrap64 (x2 + 1)) + 1)), (wrap64 ((wrap64 ((wrap64 (x2 + 1)) + 1)) + 1))⟩ : S95)).length * 4))), (1, (I (wrap64 ((wrap64 ((wrap64 ((wrap64 (x2 + 1)) + 1)) + 1)) + 1)))), (5, (I (wrap64 (x3 + 1))))], [(0, ((x1.set x3.toNat (⟨x2, (wrap64 (x2 + 1)), (wrap64 ((wrap64 (x2 + 1)) + 1)), (wrap64 ((wrap64 ((wrap64 (x2 + 1)) + 1)) + 1))⟩ : S95)).flatMap e95))], [], []⟩ [l_ 26, b_ 0, c_ 7] aln nocal ?_
        exact ih0 (x1.set x3.toNat (⟨x2, (wrap64 (x2 + 1)), (wrap64 ((wrap64 (x2 + 1)) + 1)), (wrap64 ((wrap64 ((wrap64 (x2 + 1)) + 1)) + 1))⟩ : S95)) (wrap64 ((wrap64 ((wrap64 ((wrap64 (x2 + 1)) + 1)) + 1)) + 1)) (wrap64 (x3 + 1)) _ h
      · rw [if_neg c2] at h
        cases h
    · rw [if_neg c1] at h
      refine .cond' (.tmp 9) false [c_ 14, c_ 15] (bF (dF c1)) ?_
      refine .reg' [4] [] ⟨[(4, (I x2))], [(0, (x1.flatMap e95))], [], []⟩ [c_ 15] aln nocal ?_
      have h := Option.some.inj h
      subst h
      exact .fin' [] [(0, 0)] (I x2) [] aln (shc 0 (rowF e95_ok _) shn) (.z .s)
theorem laws_markEdgeS.J (k : Nat) (a0 : (List S95)) (a1 : Int) (r : (Int × (List S95))) (h : laws_markEdgeS.f k a0 a1 = some r) : J prog (.call 68 [(.rf 0 0 a0.length 4 (a0.length * 4)), (I a1)] [(0, (a0.flatMap e95))] (I r.1) [(0, (r.2.flatMap e95))]) := by
  unfold laws_markEdgeS.f at h
  have ih0 := laws_markEdgeS.lab k
  refine .call' [c_ 2, c_ 3] ?_
  refine .reg' [0, 1] [] ⟨[(0, (.rf 0 0 a0.length 4 (a0.length * 4))), (1, (I a1))], [(0, (a0.flatMap e95))], [], []⟩ [c_ 12, c_ 13, c_ 7] aln nocal ?_
  refine .reg' [0, 1, 5] [] ⟨[(0, (.rf 0 0 a0.length 4 (a0.length * 4))), (1, (I a1)), (5, (I 0))], [(0, (a0.flatMap e95))], [], []⟩ [l_ 26, b_ 0, c_ 7] aln nocal ?_
  exact ih0 a0 a1 0 _ h
theorem laws_markEdgeS.lenl : ∀ k, (∀ (x1 : (List S95)) (x2 : Int) (x3 : Int) (r : (Int × (List S95))), laws_markEdgeS.l0 k x1 x2 x3 = some r → r.2.length = x1.length)
 | 0 => (by intro x1 x2 x3 r h; unfold laws_markEdgeS.l0 at h; cases h)
 | k + 1 => by
  have ih0 := laws_markEdgeS.lenl k
  · intro x1 x2 x3 r h
    unfold laws_markEdgeS.l0 at h
    by_cases c1 : x3 < (x1.length : Int)
    · rw [if_pos c1] at h
      by_cases c2 : 0 ≤ x3
      · rw [if_pos c2] at h
        have q := ih0 (x1.set x3.toNat (⟨x2, (wrap64 (x2 + 1)), (wrap64 ((wrap64 (x2 + 1)) + 1)), (wrap64 ((wrap64 ((wrap64 (x2 + 1)) + 1)) + 1))⟩ : S95)) (wrap64 ((wrap64 ((wrap64 ((wrap64 (x2 + 1)) + 1)) + 1)) + 1)) (wrap64 (x3 + 1)) _ h
        first | exact q | (simp only [List.length_set] at q; exact q)
      · rw [if_neg c2] at h
        cases h
    · rw [if_neg c1] at h
      have h := Option.some.inj h
      subst h
      first | rfl | (simp only [List.length_set]; done) | exact ⟨by first | rfl | simp only [List.length_set]⟩
theorem laws_markEdgeS.len (k : Nat) (a0 : (List S95)) (a1 : Int) (r : (Int × (List S95))) (h : laws_markEdgeS.f k a0 a1 = some r) : r.2.length = a0.length := by
  unfold laws_markEdgeS.f at h
  have ih0 := laws_markEdgeS.lenl k
  have q := ih0 a0 a1 0 _ h
  first | exact q | (simp only [List.length_set] at q; exact q)
/-! laws_markNet: function 33 -/
def laws_markNet.f (k : Nat) (a0 : S46) (a1 : Int) : Option (Int × (List S95)) := ((laws_markEdgeS.f k a0.f1 a1).bind fun x1 => (some (x1.1, x1.2)))
theorem laws_markNet.J (k : Nat) (a0 : S46) (a1 : Int) (r : (Int × (List S95))) (h : laws_markNet.f k a0 a1 = some r) : J prog (.call 33 [(.ag [(I a0.f0), (.rf 1 0 a0.f1.length 4 (a0.f1.length * 4))]), (I a1)] [(1, (a0.f1.flatMap e95))] (I r.1) [(1, (r.2.flatMap e95))]) := by
  unfold laws_markNet.f at h
  refine .call' [c_ 2, c_ 3] ?_
  refine .reg' [1, 2] [] ⟨[(1, (I a1)), (2, (.pt 256 0 2))], [(1, (a0.f1.flatMap e95)), (256, [(I a0.f0), (.rf 1 0 a0.f1.length 4 (a0.f1.length * 4))])], [], []⟩ [c_ 6, c_ 7] aln nocal ?_
  obtain ⟨x1, hx1, h⟩ := Option.bind_eq_some_iff.mp h
  refine .reg' [1] [.no, .no, .no, .c ⟨68, [(.rf 0 0 a0.f1.length 4 (a0.f1.length * 4)), (I a1)], [(0, (a0.f1.flatMap e95))], (I x1.1), [(0, (x1.2.flatMap e95))], [], [(1, 0)], [(1, 0)], (I x1.1), [(1, (x1.2.flatMap e95))]⟩] ⟨[(1, (I x1.1))], [(1, (x1.2.flatMap e95)), (256, [(I a0.f0), (.rf 1 0 a0.f1.length 4 (a0.f1.length * 4))])], [2 = 2 ∧ 1 + 1 ≤ 2, COK (hget [(1, (a0.f1.flatMap e95)), (256, [(I a0.f0), (.rf 1 0 a0.f1.length 4 (a0.f1.length * 4))])]) [(.rf 1 0 a0.f1.length 4 (a0.f1.length * 4)), (I a1)] ⟨68, [(.rf 0 0 a0.f1.length 4 (a0.f1.length * 4)), (I a1)], [(0, (a0.f1.flatMap e95))], (I x1.1), [(0, (x1.2.flatMap e95))], [], [(1, 0)], [(1, 0)], (I x1.1), [(1, (x1.2.flatMap e95))]⟩], [⟨68, [(.rf 0 0 a0.f1.length 4 (a0.f1.length * 4)), (I a1)], [(0, (a0.f1.flatMap e95))], (I x1.1), [(0, (x1.2.flatMap e95))], [], [(1, 0)], [(1, 0)], (I x1.1), [(1, (x1.2.flatMap e95))]⟩]⟩ [c_ 14, c_ 15] (alc ⟨rfl, by decide⟩ (alc (cokW false (a2c (.rf (memP_mem (p := (1, 0)) rfl)) (a2c (.z .s) a2n)) (akc ⟨_, _, rfl, rfl, (rowF e95_ok _)⟩ akn) (akc (.inl rfl) akn) (.z .s) (akc ⟨_, _, rfl, rfl, rowB e95_c _⟩ akn) (fun h => absurd h (by decide))) aln)) (acal (laws_markEdgeS.J k a0.f1 a1 _ hx1) nocal) ?_
  refine .eqs (env2 := [(1, (I x1.1))]) (H2 := [(1, (x1.2.flatMap e95)), (256, [(I a0.f0), (.rf 1 0 x1.2.length 4 (x1.2.length * 4))])]) (by first | (simp only [List.length_set, (laws_markEdgeS.len k a0.f1 a1 _ hx1)]; done) | simp) (by first | rfl | (simp only [List.length_set, (laws_markEdgeS.len k a0.f1 a1 _ hx1)]; done) | simp) ?_
  refine .reg' [4] [] ⟨[(4, (I x1.1))], [(1, (x1.2.flatMap e95)), (256, [(I a0.f0), (.rf 1 0 x1.2.length 4 (x1.2.length * 4))])], [], []⟩ [c_ 15] aln nocal ?_
  have h := Option.some.inj h
  subst h
  exact .fin' [] [(1, 1)] (I x1.1) [] aln (shc 1 (rowF e95_ok _) shn) (.z .s)
theorem laws_markNet.len (k : Nat) (a0 : S46) (a1 : Int) (r : (Int × (List S95))) (h : laws_markNet.f k a0 a1 = some r) : r.2.length = a0.f1.length := by
  unfold laws_markNet.f at h
  obtain ⟨x1, hx1, h⟩ := Option.bind_eq_some_iff.mp h
  have lhx1 := laws_markEdgeS.len k a0.f1 a1 _ hx1
  have h := Option.some.inj h
  subst h
  first | rfl | (simp only [List.length_set, lhx1]; done) | exact ⟨by first | rfl | simp only [List.length_set, lhx1]⟩
/-! laws_markText: function 69 -/
def laws_markText.l0 : Nat → Int → ByteArray → Option ByteArray
 | 0, _, _ => none
 | k + 1, x1, x2 => (if x1 > 0 then (if (⟨#[UInt8.ofNat (IntKind.u8.wrap (wrap64 (48 + (x1.tmod (10 : Int))))).toNat]⟩ : ByteArray).size + x2.size ≤ 9223372036854775807 then (laws_markText.l0 k (wrap64 (x1.tdiv (10 : Int))) ((⟨#[UInt8.ofNat (IntKind.u8.wrap (wrap64 (48 + (x1.tmod (10 : Int))))).toNat]⟩ : ByteArray) ++ x2)) else none) else (if (⟨#[109]⟩ : ByteArray).size + x2.size ≤ 9223372036854775807 then (some ((⟨#[109]⟩ : ByteArray) ++ x2)) else none))
def laws_markText.f (k : Nat) (a0 : Int) : Option ByteArray := (if a0 ≤ 0 then (some (⟨#[109, 48]⟩ : ByteArray)) else (laws_markText.l0 k a0 (⟨#[]⟩ : ByteArray)))
theorem laws_markText.lab : ∀ k, (∀ (x1 : Int) (x2 : ByteArray) (r : ByteArray), laws_markText.l0 k x1 x2 = some r → J prog (.run 69 [] [l_ 60, b_ 0, c_ 31] [(0, (I x1)), (3, (S x2))] [] (S r) []))
 | 0 => (by intro x1 x2 r h; unfold laws_markText.l0 at h; cases h)
 | k + 1 => by
  have ih0 := laws_markText.lab k
  · intro x1 x2 r h
    unfold laws_markText.l0 at h
    refine .loop' [c_ 480, c_ 481, c_ 241, l_ 60, b_ 0, c_ 31] ?_
    refine .reg' [0, 3, 7] [] ⟨[(0, (I x1)), (3, (S x2)), (7, (B (decide (x1 > 0))))], [], [], []⟩ [c_ 481, c_ 241, l_ 60, b_ 0, c_ 31] aln nocal ?_
    by_cases c2 : x1 > 0
    · rw [if_pos c2] at h
      refine .cond' (.tmp 7) true [c_ 964, c_ 965, b_ 1, l_ 60, b_ 0, c_ 31] (bT (dT c2)) ?_
      by_cases c3 : (⟨#[UInt8.ofNat (IntKind.u8.wrap (wrap64 (48 + (x1.tmod (10 : Int))))).toNat]⟩ : ByteArray).size + x2.size ≤ 9223372036854775807
      · rw [if_pos c3] at h
        refine .reg' [0, 3] [] ⟨[(0, (I x1)), (3, (S ((⟨#[UInt8.ofNat (IntKind.u8.wrap (wrap64 (48 + (x1.tmod (10 : Int))))).toNat]⟩ : ByteArray) ++ x2)))], [(1540, (([(IntKind.u8.wrap (wrap64 (48 + (x1.tmod (10 : Int)))))] : List Int).flatMap encU))], [(10 : Int) ≠ 0, ([(IntKind.u8.wrap (wrap64 (48 + (x1.tmod (10 : Int)))))] : List Int).length * 1 = (([(IntKind.u8.wrap (wrap64 (48 + (x1.tmod (10 : Int)))))] : List Int).flatMap encU).length ∧ 0 + ([(IntKind.u8.wrap (wrap64 (48 + (x1.tmod (10 : Int)))))] : List Int).length ≤ (([(IntKind.u8.wrap (wrap64 (48 + (x1.tmod (10 : Int)))))] : List Int).flatMap encU).length, (⟨#[UInt8.ofNat (IntKind.u8.wrap (wrap64 (48 + (x1.tmod (10 : Int))))).toNat]⟩ : ByteArray).size + x2.size ≤ 9223372036854775807], []⟩ [c_ 965, b_ 1, l_ 60, b_ 0, c_ 31] (alc (by decide) (alc ⟨rfl, Nat.le_of_ble_eq_true rfl⟩ (alc c3 aln))) nocal ?_
        refine .reg' [0, 3] [] ⟨[(0, (I (wrap64 (x1.tdiv (10 : Int))))), (3, (S ((⟨#[UInt8.ofNat (IntKind.u8.wrap (wrap64 (48 + (x1.tmod (10 : Int))))).toNat]⟩ : ByteArray) ++ x2)))], [(1540, (([(IntKind.u8.wrap (wrap64 (48 + (x1.tmod (10 : Int)))))] : List Int).flatMap encU))], [(10 : Int) ≠ 0], []⟩ [l_ 60, b_ 0, c_ 31] (alc (by decide) aln) nocal ?_
        refine .wk' [] [] [(0, (I (wrap64 (x1.tdiv (10 : Int))))), (3, (S ((⟨#[UInt8.ofNat (IntKind.u8.wrap (wrap64 (48 + (x1.tmod (10 : Int))))).toNat]⟩ : ByteArray) ++ x2)))] [] shn (enc_ (.z .s) (enc_ (.z .s) enn)) ?_
        exact ih0 (wrap64 (x1.tdiv (10 : Int))) ((⟨#[UInt8.ofNat (IntKind.u8.wrap (wrap64 (48 + (x1.tmod (10 : Int))))).toNat]⟩ : ByteArray) ++ x2) _ h
      · rw [if_neg c3] at h
        cases h
    · rw [if_neg c2] at h
      refine .cond' (.tmp 7) false [c_ 62, c_ 63] (bF (dF c2)) ?_
      by_cases c4 : (⟨#[109]⟩ : ByteArray).size + x2.size ≤ 9223372036854775807
      · rw [if_pos c4] at h
        refine .reg' [2] [] ⟨[(2, (S ((⟨#[109]⟩ : ByteArray) ++ x2)))], [], [(⟨#[109]⟩ : ByteArray).size + x2.size ≤ 9223372036854775807], []⟩ [c_ 63] (alc c4 aln) nocal ?_
        have h := Option.some.inj h
        subst h
        exact .fin0 [] (S ((⟨#[109]⟩ : ByteArray) ++ x2)) [] aln (.z .s)
      · rw [if_neg c4] at h
        cases h
theorem laws_markText.J (k : Nat) (a0 : Int) (r : ByteArray) (h : laws_markText.f k a0 = some r) : J prog (.call 69 [(I a0)] [] (S r) []) := by
  unfold laws_markText.f at h
  have ih0 := laws_markText.lab k
  refine .call' [c_ 2, c_ 3] ?_
  refine .reg' [0] [] ⟨[(0, (I a0))], [], [], []⟩ [c_ 12, c_ 13, c_ 7] aln nocal ?_
  refine .reg' [0, 5] [] ⟨[(0, (I a0)), (5, (B (decide (a0 ≤ 0))))], [], [], []⟩ [c_ 13, c_ 7] aln nocal ?_
  by_cases c1 : a0 ≤ 0
  · rw [if_pos c1] at h
    refine .cond' (.tmp 5) true [c_ 52, c_ 53, c_ 7] (bT (dT c1)) ?_
    refine .reg' [2] [] ⟨[(2, (S (⟨#[109, 48]⟩ : ByteArray)))], [], [], []⟩ [c_ 53, c_ 7] aln nocal ?_
    have h := Option.some.inj h
    subst h
    exact .fin0 [] (S (⟨#[109, 48]⟩ : ByteArray)) [] aln (.z .s)
  · rw [if_neg c1] at h
    refine .cond' (.tmp 5) false [c_ 14, c_ 15] (bF (dF c1)) ?_
    refine .reg' [0, 3] [] ⟨[(0, (I a0)), (3, (S (⟨#[]⟩ : ByteArray)))], [], [], []⟩ [l_ 60, b_ 0, c_ 31] aln nocal ?_
    exact ih0 a0 (⟨#[]⟩ : ByteArray) _ h
/-! laws_markCallS: function 70 -/
def laws_markCallS.l0 : Nat → (List S89) → Int → Int → Option (Int × (List S89))
 | 0, _, _, _ => none
 | k + 1, x1, x2, x3 => (if x3 < (x1.length : Int) then (if 0 ≤ x3 then (laws_markCallS.l0 k (x1.set x3.toNat (⟨x2, (wrap64 (x2 + 1)), (wrap64 ((wrap64 (x2 + 1)) + 1))⟩ : S89)) (wrap64 ((wrap64 ((wrap64 (x2 + 1)) + 1)) + 1)) (wrap64 (x3 + 1))) else none) else (some (x2, x1)))
def laws_markCallS.f (k : Nat) (a0 : (List S89)) (a1 : Int) : Option (Int × (List S89)) := (laws_markCallS.l0 k a0 a1 0)
theorem laws_markCallS.lab : ∀ k, (∀ (x1 : (List S89)) (x2 : Int) (x3 : Int) (r : (Int × (List S89))), laws_markCallS.l0 k x1 x2 x3 = some r → J prog (.run 70 [0] [l_ 26, b_ 0, c_ 7] [(0, (.rf 0 0 x1.length 3 (x1.length * 3))), (1, (I x2)), (5, (I x3))] [(0, (x1.flatMap e89))] (I r.1) [(0, (r.2.flatMap e89))]))
 | 0 => (by intro x1 x2 x3 r h; unfold laws_markCallS.l0 at h; cases h)
 | k + 1 => by
  have ih0 := laws_markCallS.lab k
  · intro x1 x2 x3 r h
    unfold laws_markCallS.l0 at h
    refine .loop' [c_ 208, c_ 209, c_ 105, l_ 26, b_ 0, c_ 7] ?_
    refine .reg' [0, 1, 5, 9] [] ⟨[(0, (.rf 0 0 x1.length 3 (x1.length * 3))), (1, (I x2)), (5, (I x3)), (9, (B (decide (x3 < (x1.length : Int)))))], [(0, (x1.flatMap e89))], [], []⟩ [c_ 209, c_ 105, l_ 26, b_ 0, c_ 7] aln nocal ?_
    by_cases c1 : x3 < (x1.length : Int)
    · rw [if_pos c1] at h
      refine .cond' (.tmp 9) true [c_ 840, c_ 841, b_ 1, c_ 211, l_ 26, b_ 0, c_ 7] (bT (dT c1)) ?_
      by_cases c2 : 0 ≤ x3
      · rw [if_pos c2] at h
        refine .reg' [0, 1, 5] [.no, .no, .no, .no, .no, .w .un ((x1.set x3.toNat (⟨x2, (at_ x1 x3).f1, (at_ x1 x3).f2⟩ : S89)).flatMap e89)] ⟨[(0, (.rf 0 0 x1.length 3 (x1.length * 3))), (1, (I x2)), (5, (I x3))], [(0, ((x1.set x3.toNat (⟨x2, (at_ x1 x3).f1, (at_ x1 x3).f2⟩ : S89)).flatMap e89))], [(0 : Int) ≤ x3 ∧ x3 < (x1.length : Int), V.un = V.un, spl (x1.flatMap e89) (0 + x3.toNat * 3 + 0) [(I x2)] = ((x1.set x3.toNat (⟨x2, (at_ x1 x3).f1, (at_ x1 x3).f2⟩ : S89)).flatMap e89), x1.length * 3 = (x1.flatMap e89).length ∧ 0 + x3.toNat * 3 + 0 + 1 ≤ (x1.flatMap e89).length], []⟩ [c_ 1682, c_ 1683, b_ 1, c_ 211, l_ 26, b_ 0, c_ 7] (alc ⟨c2, c1⟩ (alc rfl (alc (st_row e89_ok 0 c2 c1 (Nat.le_of_ble_eq_true rfl) rfl) (alc (okA e89_ok c2 c1 (by decide)) aln)))) nocal ?_
        refine .eqs (env2 := [(0, (.rf 0 0 ((x1.set x3.toNat (⟨x2, (at_ x1 x3).f1, (at_ x1 x3).f2⟩ : S89)).length) 3 ((x1.set x3.toNat (⟨x2, (at_ x1 x3).f1, (at_ x1 x3).f2⟩ : S89)).length * 3))), (1, (I x2)), (5, (I x3))]) (H2 := [(0, ((x1.set x3.toNat (⟨x2, (at_ x1 x3).f1, (at_ x1 x3).f2⟩ : S89)).flatMap e89))]) (by first | (simp only [List.length_set]; done) | simp) (by first | rfl | (simp only [List.length_set]; done) | simp) ?_
        refine .reg' [0, 1, 5] [] ⟨[(0, (.rf 0 0 ((x1.set x3.toNat (⟨x2, (at_ x1 x3).f1, (at_ x1 x3).f2⟩ : S89)).length) 3 ((x1.set x3.toNat (⟨x2, (at_ x1 x3).f1, (at_ x1 x3).f2⟩ : S89)).length * 3))), (1, (I (wrap64 (x2 + 1)))), (5, (I x3))], [(0, ((x1.set x3.toNat (⟨x2, (at_ x1 x3).f1, (at_ x1 x3).f2⟩ : S89)).flatMap e89))], [], []⟩ [c_ 3366, c_ 3367, b_ 1, c_ 211, l_ 26, b_ 0, c_ 7] aln nocal ?_
        refine .reg' [0, 1, 5] [.no, .no, .no, .no, .no, .w .un ((x1.set x3.toNat (⟨x2, (wrap64 (x2 + 1)), (at_ x1 x3).f2⟩ : S89)).flatMap e89)] ⟨[(0, (.rf 0 0 ((x1.set x3.toNat (⟨x2, (at_ x1 x3).f1, (at_ x1 x3).f2⟩ : S89)).length) 3 ((x1.set x3.toNat (⟨x2, (at_ x1 x3).f1, (at_ x1 x3).f2⟩ : S89)).length * 3))), (1, (I (wrap64 (x2 + 1)))), (5, (I x3))], [(0, ((x1.set x3.toNat (⟨x2, (wrap64 (x2 + 1)), (at_ x1 x3).f2⟩ : S89)).flatMap e89))], [(0 : Int) ≤ x3 ∧ x3 < ((x1.set x3.toNat (⟨x2, (at_ x1 x3).f1, (at_ x1 x3).f2⟩ : S89)).length : Int), V.un = V.un, spl ((x1.set x3.toNat (⟨x2, (at_ x1 x3).f1, (at_ x1 x3).f2⟩ : S89)).flatMap e89) (0 + x3.toNat * 3 + 1) [(I (wrap64 (x2 + 1)))] = ((x1.set x3.toNat (⟨x2, (wrap64 (x2 + 1)), (at_ x1 x3).f2⟩ : S89)).flatMap e89), (x1.set x3.toNat (⟨x2, (at_ x1 x3).f1, (at_ x1 x3).f2⟩ : S89)).length * 3 = ((x1.set x3.toNat (⟨x2, (at_ x1 x3).f1, (at_ x1 x3).f2⟩ : S89)).flatMap e89).length ∧ 0 + x3.toNat * 3 + 1 + 1 ≤ ((x1.set x3.toNat (⟨x2, (at_ x1 x3).f1, (at_ x1 x3).f2⟩ : S89)).flatMap e89).length], []⟩ [c_ 6734, c_ 6735, b_ 1, c_ 211, l_ 26, b_ 0, c_ 7] (alc ⟨c2, (ls c1)⟩ (alc rfl (alc (st_row2 e89_ok 1 c2 c1 (Nat.le_of_ble_eq_true rfl) rfl) (alc (okA e89_ok c2 (ls c1) (by decide)) aln)))) nocal ?_
        refine .eqs (env2 := [(0, (.rf 0 0 ((x1.set x3.toNat (⟨x2, (wrap64 (x2 + 1)), (at_ x1 x3).f2⟩ : S89)).length) 3 ((x1.set x3.toNat (⟨x2, (wrap64 (x2 + 1)), (at_ x1 x3).f2⟩ : S89)).length * 3))), (1, (I (wrap64 (x2 + 1)))), (5, (I x3))]) (H2 := [(0, ((x1.set x3.toNat (⟨x2, (wrap64 (x2 + 1)), (at_ x1 x3).f2⟩ : S89)).flatMap e89))]) (by first | (simp only [List.length_set]; done) | simp) (by first | rfl | (simp only [List.length_set]; done) | simp) ?_
        refine .reg' [0, 1, 5] [] ⟨[(0, (.rf 0 0 ((x1.set x3.toNat (⟨x2, (wrap64 (x2 + 1)), (at_ x1 x3).f2⟩ : S89)).length) 3 ((x1.set x3.toNat (⟨x2, (wrap64 (x2 + 1)), (at_ x1 x3).f2⟩ : S89)).length * 3))), (1, (I (wrap64 ((wrap64 (x2 + 1)) + 1)))), (5, (I x3))], [(0, ((x1.set x3.toNat (⟨x2, (wrap64 (x2 + 1)), (at_ x1 x3).f2⟩ : S89)).flatMap e89))], [], []⟩ [c_ 13470, c_ 13471, b_ 1, c_ 211, l_ 26, b_ 0, c_ 7] aln nocal ?_
        refine .reg' [0, 1, 5] [.no, .no, .no, .no, .no, .w .un ((x1.set x3.toNat (⟨x2, (wrap64 (x2 + 1)), (wrap64 ((wrap64 (x2 + 1)) + 1))⟩ : S89)).flatMap e89)] ⟨[(0, (.rf 0 0 ((x1.set x3.toNat (⟨x2, (wrap64 (x2 + 1)), (at_ x1 x3).f2⟩ : S89)).length) 3 ((x1.set x3.toNat (⟨x2, (wrap64 (x2 + 1)), (at_ x1 x3).f2⟩ : S89)).length * 3))), (1, (I (wrap64 ((wrap64 (x2 + 1)) + 1)))), (5, (I x3))], [(0, ((x1.set x3.toNat (⟨x2, (wrap64 (x2 + 1)), (wrap64 ((wrap64 (x2 + 1)) + 1))⟩ : S89)).flatMap e89))], [(0 : Int) ≤ x3 ∧ x3 < ((x1.set x3.toNat (⟨x2, (wrap64 (x2 + 1)), (at_ x1 x3).f2⟩ : S89)).length : Int), V.un = V.un, spl ((x1.set x3.toNat (⟨x2, (wrap64 (x2 + 1)), (at_ x1 x3).f2⟩ : S89)).flatMap e89) (0 + x3.toNat * 3 + 2) [(I (wrap64 ((wrap64 (x2 + 1)) + 1)))] = ((x1.set x3.toNat (⟨x2, (wrap64 (x2 + 1)), (wrap64 ((wrap64 (x2 + 1)) + 1))⟩ : S89)).flatMap e89), (x1.set x3.toNat (⟨x2, (wrap64 (x2 + 1)), (at_ x1 x3).f2⟩ : S89)).length * 3 = ((x1.set x3.toNat (⟨x2, (wrap64 (x2 + 1)), (at_ x1 x3).f2⟩ : S89)).flatMap e89).length ∧ 0 + x3.toNat * 3 + 2 + 1 ≤ ((x1.set x3.toNat (⟨x2, (wrap64 (x2 + 1)), (at_ x1 x3).f2⟩ : S89)).flatMap e89).length], []⟩ [c_ 13471, b_ 1, c_ 211, l_ 26, b_ 0, c_ 7] (alc ⟨c2, (ls c1)⟩ (alc rfl (alc (st_row2 e89_ok 2 c2 c1 (Nat.le_of_ble_eq_true rfl) rfl) (alc (okA e89_ok c2 (ls c1) (by decide)) aln)))) nocal ?_
        refine .eqs (env2 := [(0, (.rf 0 0 ((x1.set x3.toNat (⟨x2, (wrap64 (x2 + 1)), (wrap64 ((wrap64 (x2 + 1)) + 1))⟩ : S89)).length) 3 ((x1.set x3.toNat (⟨x2, (wrap64 (x2 + 1)), (wrap64 ((wrap64 (x2 + 1)) + 1))⟩ : S89)).length * 3))), (1, (I (wrap64 ((wrap64 (x2 + 1)) + 1)))), (5, (I x3))]) (H2 := [(0, ((x1.set x3.toNat (⟨x2, (wrap64 (x2 + 1)), (wrap64 ((wrap64 (x2 + 1)) + 1))⟩ : S89)).flatMap e89))]) (by first | (simp only [List.length_set]; done) | simp) (by first | rfl | (simp only [List.length_set]; done) | simp) ?_
        refine .reg' [0, 1, 5] [] ⟨[(0, (.rf 0 0 ((x1.set x3.toNat (⟨x2, (wrap64 (x2 + 1)), (wrap64 ((wrap64 (x2 + 1)) + 1))⟩ : S89)).length) 3 ((x1.set x3.toNat (⟨x2, (wrap64 (x2 + 1)), (wrap64 ((wrap64 (x2 + 1)) + 1))⟩ : S89)).length * 3))), (1, (I (wrap64 ((wrap64 ((wrap64 (x2 + 1)) + 1)) + 1)))), (5, (I x3))], [(0, ((x1.set x3.toNat (⟨x2, (wrap64 (x2 + 1)), (wrap64 ((wrap64 (x2 + 1)) + 1))⟩ : S89)).flatMap e89))], [], []⟩ [c_ 211, l_ 26, b_ 0, c_ 7] aln nocal ?_
        refine .reg' [0, 1, 5] [] ⟨[(0, (.rf 0 0 ((x1.set x3.toNat (⟨x2, (wrap64 (x2 + 1)), (wrap64 ((wrap64 (x2 + 1)) + 1))⟩ : S89)).length) 3 ((x1.set x3.toNat (⟨x2, (wrap64 (x2 + 1)), (wrap64 ((wrap64 (x2 + 1)) + 1))⟩ : S89)).length * 3))), (1, (I (wrap64 ((wrap64 ((wrap64 (x2 + 1)) + 1)) + 1)))), (5, (I (wrap64 (x3 + 1))))], [(0, ((x1.set x3.toNat (⟨x2, (wrap64 (x2 + 1)), (wrap64 ((wrap64 (x2 + 1)) + 1))⟩ : S89)).flatMap e89))], [], []⟩ [l_ 26, b_ 0, c_ 7] aln nocal ?_
        exact ih0 (x1.set x3.toNat (⟨x2, (wrap64 (x2 + 1)), (wrap64 ((wrap64 (x2 + 1)) + 1))⟩ : S89)) (wrap64 ((wrap64 ((wrap64 (x2 + 1)) + 1)) + 1)) (wrap64 (x3 + 1)) _ h
      · rw [if_neg c2] at h
        cases h
    · rw [if_neg c1] at h
      refine .cond' (.tmp 9) false [c_ 14, c_ 15] (bF (dF c1)) ?_
      refine .reg' [4] [] ⟨[(4, (I x2))], [(0, (x1.flatMap e89))], [], []⟩ [c_ 15] aln nocal ?_
      have h := Option.some.inj h
      subst h
      exact .fin' [] [(0, 0)] (I x2) [] aln (shc 0 (rowF e89_ok _) shn) (.z .s)
theorem laws_markCallS.J (k : Nat) (a0 : (List S89)) (a1 : Int) (r : (Int × (List S89))) (h : laws_markCallS.f k a0 a1 = some r) : J prog (.call 70 [(.rf 0 0 a0.length 3 (a0.length * 3)), (I a1)] [(0, (a0.flatMap e89))] (I r.1) [(0, (r.2.flatMap e89))]) := by
  unfold laws_markCallS.f at h
  have ih0 := laws_markCallS.lab k
  refine .call' [c_ 2, c_ 3] ?_
  refine .reg' [0, 1] [] ⟨[(0, (.rf 0 0 a0.length 3 (a0.length * 3))), (1, (I a1))], [(0, (a0.flatMap e89))], [], []⟩ [c_ 12, c_ 13, c_ 7] aln nocal ?_
  refine .reg' [0, 1, 5] [] ⟨[(0, (.rf 0 0 a0.length 3 (a0.length * 3))), (1, (I a1)), (5, (I 0))], [(0, (a0.flatMap e89))], [], []⟩ [l_ 26, b_ 0, c_ 7] aln nocal ?_
  exact ih0 a0 a1 0 _ h
theorem laws_markCallS.lenl : ∀ k, (∀ (x1 : (List S89)) (x2 : Int) (x3 : Int) (r : (Int × (List S89))), laws_markCallS.l0 k x1 x2 x3 = some r → r.2.length = x1.length)
 | 0 => (by intro x1 x2 x3 r h; unfold laws_markCallS.l0 at h; cases h)
 | k + 1 => by
  have ih0 := laws_markCallS.lenl k
  · intro x1 x2 x3 r h
    unfold laws_markCallS.l0 at h
    by_cases c1 : x3 < (x1.length : Int)
    · rw [if_pos c1] at h
      by_cases c2 : 0 ≤ x3
      · rw [if_pos c2] at h
        have q := ih0 (x1.set x3.toNat (⟨x2, (wrap64 (x2 + 1)), (wrap64 ((wrap64 (x2 + 1)) + 1))⟩ : S89)) (wrap64 ((wrap64 ((wrap64 (x2 + 1)) + 1)) + 1)) (wrap64 (x3 + 1)) _ h
        first | exact q | (simp only [List.length_set] at q; exact q)
      · rw [if_neg c2] at h
        cases h
    · rw [if_neg c1] at h
      have h := Option.some.inj h
      subst h
      first | rfl | (simp only [List.length_set]; done) | exact ⟨by first | rfl | simp only [List.length_set]⟩
theorem laws_markCallS.len (k : Nat) (a0 : (List S89)) (a1 : Int) (r : (Int × (List S89))) (h : laws_markCallS.f k a0 a1 = some r) : r.2.length = a0.length := by
  unfold laws_markCallS.f at h
  have ih0 := laws_markCallS.lenl k
  have q := ih0 a0 a1 0 _ h
  first | exact q | (simp only [List.length_set] at q; exact q)
/-! laws_markTripS: function 34 -/
def laws_markTripS.l0 : Nat → (List S66) → Int → Int → Option (Int × (List S66))
 | 0, _, _, _ => none
 | k + 1, x1, x2, x3 => (if x3 < (x1.length : Int) then ((laws_markText.f k x2).bind fun x4 => (if 0 ≤ x3 then ((laws_markCallS.f k ((at_ (x1.set x3.toNat (⟨x4, (at_ x1 x3).f1⟩ : S66)) x3).f1) (wrap64 (x2 + 1))).bind fun x5 => (laws_markTripS.l0 k ((x1.set x3.toNat (⟨x4, (at_ x1 x3).f1⟩ : S66)).set x3.toNat (⟨(at_ (x1.set x3.toNat (⟨x4, (at_ x1 x3).f1⟩ : S66)) x3).f0, x5.2⟩ : S66)) x5.1 (wrap64 (x3 + 1)))) else none)) else (some (x2, x1)))
def laws_markTripS.f (k : Nat) (a0 : (List S66)) (a1 : Int) : Option (Int × (List S66)) := (laws_markTripS.l0 k a0 a1 0)
theorem laws_markTripS.lab : ∀ k, (∀ (x1 : (List S66)) (x2 : Int) (x3 : Int) (r : (Int × (List S66))), laws_markTripS.l0 k x1 x2 x3 = some r → J prog (.run 34 [4000000000] [l_ 26, b_ 0, c_ 7] [(0, (.rf 4000000000 0 x1.length 2 (x1.length * 2))), (1, (I x2)), (5, (I x3))] [(4000000000, (x1.flatMap o66))] (I r.1) [(4000000000, (r.2.flatMap o66))]))
 | 0 => (by intro x1 x2 x3 r h; unfold laws_markTripS.l0 at h; cases h)
 | k + 1 => by
  have ih0 := laws_markTripS.lab k
  · intro x1 x2 x3 r h
    unfold laws_markTripS.l0 at h
    refine .loop' [c_ 208, c_ 209, c_ 105, l_ 26, b_ 0, c_ 7] ?_
    refine .reg' [0, 1, 5, 9] [] ⟨[(0, (.rf 4000000000 0 x1.length 2 (x1.length * 2))), (1, (I x2)), (5, (I x3)), (9, (B (decide (x3 < (x1.length : Int)))))], [(4000000000, (x1.flatMap o66))], [], []⟩ [c_ 209, c_ 105, l_ 26, b_ 0, c_ 7] aln nocal ?_
    by_cases c1 : x3 < (x1.length : Int)
    · rw [if_pos c1] at h
      refine .cond' (.tmp 9) true [c_ 840, c_ 841, b_ 1, c_ 211, l_ 26, b_ 0, c_ 7] (bT (dT c1)) ?_
      obtain ⟨x4, hx4, h⟩ := Option.bind_eq_some_iff.mp h
      by_cases c2 : 0 ≤ x3
      · rw [if_pos c2] at h
        refine .reg' [0, 1, 5] [.no, .no, .no, .c ⟨69, [(I x2)], [], (S x4), [], [], [], [], (S x4), []⟩, .no, .no, .w .un ((x1.set x3.toNat (⟨x4, (at_ x1 x3).f1⟩ : S66)).flatMap o66)] ⟨[(0, (.rf 4000000000 0 x1.length 2 (x1.length * 2))), (1, (I x2)), (5, (I x3))], [(4000000000, ((x1.set x3.toNat (⟨x4, (at_ x1 x3).f1⟩ : S66)).flatMap o66))], [COK (hget [(4000000000, (x1.flatMap o66))]) [(I x2)] ⟨69, [(I x2)], [], (S x4), [], [], [], [], (S x4), []⟩, (0 : Int) ≤ x3 ∧ x3 < (x1.length : Int), V.un = V.un, spl (x1.flatMap o66) (0 + x3.toNat * 2 + 0) [(S x4)] = ((x1.set x3.toNat (⟨x4, (at_ x1 x3).f1⟩ : S66)).flatMap o66), x1.length * 2 = (x1.flatMap o66).length ∧ 0 + x3.toNat * 2 + 0 + 1 ≤ (x1.flatMap o66).length], [⟨69, [(I x2)], [], (S x4), [], [], [], [], (S x4), []⟩]⟩ [c_ 1682, c_ 1683, b_ 1, c_ 211, l_ 26, b_ 0, c_ 7] (alc (cok0 false (a2c (.z .s) a2n) (.z .s) (fun h => absurd h (by decide))) (alc ⟨c2, c1⟩ (alc rfl (alc (st_row o66_ok 0 c2 c1 (Nat.le_of_ble_eq_true rfl) rfl) (alc (okA o66_ok c2 c1 (by decide)) aln))))) (acal (laws_markText.J k x2 _ hx4) nocal) ?_
        refine .eqs (env2 := [(0, (.rf 4000000000 0 ((x1.set x3.toNat (⟨x4, (at_ x1 x3).f1⟩ : S66)).length) 2 ((x1.set x3.toNat (⟨x4, (at_ x1 x3).f1⟩ : S66)).length * 2))), (1, (I x2)), (5, (I x3))]) (H2 := [(4000000000, ((x1.set x3.toNat (⟨x4, (at_ x1 x3).f1⟩ : S66)).flatMap o66))]) (by first | (simp only [List.length_set]; done) | simp) (by first | rfl | (simp only [List.length_set]; done) | simp) ?_
        refine .reg' [0, 1, 5] [] ⟨[(0, (.rf 4000000000 0 ((x1.set x3.toNat (⟨x4, (at_ x1 x3).f1⟩ : S66)).length) 2 ((x1.set x3.toNat (⟨x4, (at_ x1 x3).f1⟩ : S66)).length * 2))), (1, (I (wrap64 (x2 + 1)))), (5, (I x3))], [(4000000000, ((x1.set x3.toNat (⟨x4, (at_ x1 x3).f1⟩ : S66)).flatMap o66))], [], []⟩ [c_ 1683, b_ 1, c_ 211, l_ 26, b_ 0, c_ 7] aln nocal ?_
        refine .opX 1000000001 4000000000 (x3.toNat * 2 + 1) (at_ (x1.set x3.toNat (⟨x4, (at_ x1 x3).f1⟩ : S66)) x3).f1.length 3 (cs' := (foc o66 (x1.set x3.toNat (⟨x4, (at_ x1 x3).f1⟩ : S66)) x3.toNat [(S (at_ (x1.set x3.toNat (⟨x4, (at_ x1 x3).f1⟩ : S66)) x3).f0), (.rf 1000000001 0 ((at_ (x1.set x3.toNat (⟨x4, (at_ x1 x3).f1⟩ : S66)) x3).f1.length) 3 ((at_ (x1.set x3.toNat (⟨x4, (at_ x1 x3).f1⟩ : S66)) x3).f1.length * 3))])) (ds := ((at_ (x1.set x3.toNat (⟨x4, (at_ x1 x3).f1⟩ : S66)) x3).f1.flatMap e89)) (H2 := []) ((foc_op o66_ok c2 (ls c1) 1 (by decide)).trans rfl) (foc_ops o66_ok c2 (ls c1) 1 (by decide) _) ?_
        obtain ⟨x5, hx5, h⟩ := Option.bind_eq_some_iff.mp h
        refine .reg' [0, 1, 5] [.no, .no, .no, .no, .v (.rf 1000000001 0 ((at_ (x1.set x3.toNat (⟨x4, (at_ x1 x3).f1⟩ : S66)) x3).f1.length) 3 ((at_ (x1.set x3.toNat (⟨x4, (at_ x1 x3).f1⟩ : S66)) x3).f1.length * 3)), .no, .c ⟨70, [(.rf 0 0 ((at_ (x1.set x3.toNat (⟨x4, (at_ x1 x3).f1⟩ : S66)) x3).f1.length) 3 ((at_ (x1.set x3.toNat (⟨x4, (at_ x1 x3).f1⟩ : S66)) x3).f1.length * 3)), (I (wrap64 (x2 + 1)))], [(0, ((at_ (x1.set x3.toNat (⟨x4, (at_ x1 x3).f1⟩ : S66)) x3).f1.flatMap e89))], (I x5.1), [(0, (x5.2.flatMap e89))], [], [(1000000001, 0)], [(1000000001, 0)], (I x5.1), [(1000000001, (x5.2.flatMap e89))]⟩] ⟨[(0, (.rf 4000000000 0 ((x1.set x3.toNat (⟨x4, (at_ x1 x3).f1⟩ : S66)).length) 2 ((x1.set x3.toNat (⟨x4, (at_ x1 x3).f1⟩ : S66)).length * 2))), (1, (I x5.1)), (5, (I x3))], [(4000000000, (foc o66 (x1.set x3.toNat (⟨x4, (at_ x1 x3).f1⟩ : S66)) x3.toNat [(S (at_ (x1.set x3.toNat (⟨x4, (at_ x1 x3).f1⟩ : S66)) x3).f0), (.rf 1000000001 0 ((at_ (x1.set x3.toNat (⟨x4, (at_ x1 x3).f1⟩ : S66)) x3).f1.length) 3 ((at_ (x1.set x3.toNat (⟨x4, (at_ x1 x3).f1⟩ : S66)) x3).f1.length * 3))])), (1000000001, (x5.2.flatMap e89))], [(0 : Int) ≤ x3 ∧ x3 < ((x1.set x3.toNat (⟨x4, (at_ x1 x3).f1⟩ : S66)).length : Int), rdC prog 65 ((foc o66 (x1.set x3.toNat (⟨x4, (at_ x1 x3).f1⟩ : S66)) x3.toNat [(S (at_ (x1.set x3.toNat (⟨x4, (at_ x1 x3).f1⟩ : S66)) x3).f0), (.rf 1000000001 0 ((at_ (x1.set x3.toNat (⟨x4, (at_ x1 x3).f1⟩ : S66)) x3).f1.length) 3 ((at_ (x1.set x3.toNat (⟨x4, (at_ x1 x3).f1⟩ : S66)) x3).f1.length * 3))]).drop (0 + x3.toNat * 2 + 1)) = (.rf 1000000001 0 ((at_ (x1.set x3.toNat (⟨x4, (at_ x1 x3).f1⟩ : S66)) x3).f1.length) 3 ((at_ (x1.set x3.toNat (⟨x4, (at_ x1 x3).f1⟩ : S66)) x3).f1.length * 3)), (x1.set x3.toNat (⟨x4, (at_ x1 x3).f1⟩ : S66)).length * 2 = (foc o66 (x1.set x3.toNat (⟨x4, (at_ x1 x3).f1⟩ : S66)) x3.toNat [(S (at_ (x1.set x3.toNat (⟨x4, (at_ x1 x3).f1⟩ : S66)) x3).f0), (.rf 1000000001 0 ((at_ (x1.set x3.toNat (⟨x4, (at_ x1 x3).f1⟩ : S66)) x3).f1.length) 3 ((at_ (x1.set x3.toNat (⟨x4, (at_ x1 x3).f1⟩ : S66)) x3).f1.length * 3))]).length ∧ 0 + x3.toNat * 2 + 1 + 1 ≤ (foc o66 (x1.set x3.toNat (⟨x4, (at_ x1 x3).f1⟩ : S66)) x3.toNat [(S (at_ (x1.set x3.toNat (⟨x4, (at_ x1 x3).f1⟩ : S66)) x3).f0), (.rf 1000000001 0 ((at_ (x1.set x3.toNat (⟨x4, (at_ x1 x3).f1⟩ : S66)) x3).f1.length) 3 ((at_ (x1.set x3.toNat (⟨x4, (at_ x1 x3).f1⟩ : S66)) x3).f1.length * 3))]).length, COK (hget [(4000000000, (foc o66 (x1.set x3.toNat (⟨x4, (at_ x1 x3).f1⟩ : S66)) x3.toNat [(S (at_ (x1.set x3.toNat (⟨x4, (at_ x1 x3).f1⟩ : S66)) x3).f0), (.rf 1000000001 0 ((at_ (x1.set x3.toNat (⟨x4, (at_ x1 x3).f1⟩ : S66)) x3).f1.length) 3 ((at_ (x1.set x3.toNat (⟨x4, (at_ x1 x3).f1⟩ : S66)) x3).f1.length * 3))])), (1000000001, ((at_ (x1.set x3.toNat (⟨x4, (at_ x1 x3).f1⟩ : S66)) x3).f1.flatMap e89))]) [(.rf 1000000001 0 ((at_ (x1.set x3.toNat (⟨x4, (at_ x1 x3).f1⟩ : S66)) x3).f1.length) 3 ((at_ (x1.set x3.toNat (⟨x4, (at_ x1 x3).f1⟩ : S66)) x3).f1.length * 3)), (I (wrap64 (x2 + 1)))] ⟨70, [(.rf 0 0 ((at_ (x1.set x3.toNat (⟨x4, (at_ x1 x3).f1⟩ : S66)) x3).f1.length) 3 ((at_ (x1.set x3.toNat (⟨x4, (at_ x1 x3).f1⟩ : S66)) x3).f1.length * 3)), (I (wrap64 (x2 + 1)))], [(0, ((at_ (x1.set x3.toNat (⟨x4, (at_ x1 x3).f1⟩ : S66)) x3).f1.flatMap e89))], (I x5.1), [(0, (x5.2.flatMap e89))], [], [(1000000001, 0)], [(1000000001, 0)], (I x5.1), [(1000000001, (x5.2.flatMap e89))]⟩], [⟨70, [(.rf 0 0 ((at_ (x1.set x3.toNat (⟨x4, (at_ x1 x3).f1⟩ : S66)) x3).f1.length) 3 ((at_ (x1.set x3.toNat (⟨x4, (at_ x1 x3).f1⟩ : S66)) x3).f1.length * 3)), (I (wrap64 (x2 + 1)))], [(0, ((at_ (x1.set x3.toNat (⟨x4, (at_ x1 x3).f1⟩ : S66)) x3).f1.flatMap e89))], (I x5.1), [(0, (x5.2.flatMap e89))], [], [(1000000001, 0)], [(1000000001, 0)], (I x5.1), [(1000000001, (x5.2.flatMap e89))]⟩]⟩ [c_ 211, l_ 26, b_ 0, c_ 7] (alc ⟨c2, (ls c1)⟩ (alc ((foc_ld o66_ok c2 (ls c1) rfl 1 (by decide) rfl).trans rfl) (alc (foc_ok o66_ok c2 (ls c1) rfl (by decide)) (alc (cokW false (a2c (.rf (memP_mem (p := (1000000001, 0)) rfl)) (a2c (.z .s) a2n)) (akc ⟨_, _, rfl, rfl, (rowF e89_ok _)⟩ akn) (akc (.inl rfl) akn) (.z .s) (akc ⟨_, _, rfl, rfl, rowB e89_c _⟩ akn) (fun h => absurd h (by decide))) aln)))) (acal (laws_markCallS.J k ((at_ (x1.set x3.toNat (⟨x4, (at_ x1 x3).f1⟩ : S66)) x3).f1) (wrap64 (x2 + 1)) _ hx5) nocal) ?_
        refine .eqs (env2 := [(0, (.rf 4000000000 0 ((x1.set x3.toNat (⟨x4, (at_ x1 x3).f1⟩ : S66)).length) 2 ((x1.set x3.toNat (⟨x4, (at_ x1 x3).f1⟩ : S66)).length * 2))), (1, (I x5.1)), (5, (I x3))]) (H2 := [(4000000000, (foc o66 (x1.set x3.toNat (⟨x4, (at_ x1 x3).f1⟩ : S66)) x3.toNat [(S (at_ (x1.set x3.toNat (⟨x4, (at_ x1 x3).f1⟩ : S66)) x3).f0), (.rf 1000000001 0 x5.2.length 3 (x5.2.length * 3))])), (1000000001, (x5.2.flatMap e89))]) (by first | (simp only [List.length_set, (laws_markCallS.len k ((at_ (x1.set x3.toNat (⟨x4, (at_ x1 x3).f1⟩ : S66)) x3).f1) (wrap64 (x2 + 1)) _ hx5)]; done) | simp) (by first | rfl | (simp only [List.length_set, (laws_markCallS.len k ((at_ (x1.set x3.toNat (⟨x4, (at_ x1 x3).f1⟩ : S66)) x3).f1) (wrap64 (x2 + 1)) _ hx5)]; done) | simp) ?_
        refine .clX [1000000001] 1000000001 4000000000 (x3.toNat * 2 + 1) x5.2.length 3 (cs' := (((x1.set x3.toNat (⟨x4, (at_ x1 x3).f1⟩ : S66)).set x3.toNat (⟨(at_ (x1.set x3.toNat (⟨x4, (at_ x1 x3).f1⟩ : S66)) x3).f0, x5.2⟩ : S66)).flatMap o66)) (ds := (x5.2.flatMap e89)) (H2 := []) ((foc_get (vs := [(S (at_ (x1.set x3.toNat (⟨x4, (at_ x1 x3).f1⟩ : S66)) x3).f0), (.rf 1000000001 0 x5.2.length 3 (x5.2.length * 3))]) o66_ok c2 (ls c1) rfl 1 (by decide)).trans rfl) ((foc_set (vs := [(S (at_ (x1.set x3.toNat (⟨x4, (at_ x1 x3).f1⟩ : S66)) x3).f0), (.rf 1000000001 0 x5.2.length 3 (x5.2.length * 3))]) o66_ok c2 (ls c1) rfl 1 (by decide) _).trans (foc_end o66_ok c2 (ls c1) (⟨(at_ (x1.set x3.toNat (⟨x4, (at_ x1 x3).f1⟩ : S66)) x3).f0, x5.2⟩ : S66))) (row_len e89_ok _) (rowS e89_s _) (rsc (rqE o66_ok _) rsn) ?_
        refine .reg' [0, 1, 5] [] ⟨[(0, (.rf 4000000000 0 ((x1.set x3.toNat (⟨x4, (at_ x1 x3).f1⟩ : S66)).length) 2 ((x1.set x3.toNat (⟨x4, (at_ x1 x3).f1⟩ : S66)).length * 2))), (1, (I x5.1)), (5, (I (wrap64 (x3 + 1))))], [(4000000000, (((x1.set x3.toNat (⟨x4, (at_ x1 x3).f1⟩ : S66)).set x3.toNat (⟨(at_ (x1.set x3.toNat (⟨x4, (at_ x1 x3).f1⟩ : S66)) x3).f0, x5.2⟩ : S66)).flatMap o66))], [], []⟩ [l_ 26, b_ 0, c_ 7] aln nocal ?_
        refine .eqs (env2 := [(0, (.rf 4000000000 0 (((x1.set x3.toNat (⟨x4, (at_ x1 x3).f1⟩ : S66)).set x3.toNat (⟨(at_ (x1.set x3.toNat (⟨x4, (at_ x1 x3).f1⟩ : S66)) x3).f0, x5.2⟩ : S66)).length) 2 (((x1.set x3.toNat (⟨x4, (at_ x1 x3).f1⟩ : S66)).set x3.toNat (⟨(at_ (x1.set x3.toNat (⟨x4, (at_ x1 x3).f1⟩ : S66)) x3).f0, x5.2⟩ : S66)).length * 2))), (1, (I x5.1)), (5, (I (wrap64 (x3 + 1))))]) (H2 := [(4000000000, (((x1.set x3.toNat (⟨x4, (at_ x1 x3).f1⟩ : S66)).set x3.toNat (⟨(at_ (x1.set x3.toNat (⟨x4, (at_ x1 x3).f1⟩ : S66)) x3).f0, x5.2⟩ : S66)).flatMap o66))]) (by first | (simp only [List.length_set]; done) | simp) (by first | rfl | (simp only [List.length_set]; done) | simp) ?_
        exact ih0 ((x1.set x3.toNat (⟨x4, (at_ x1 x3).f1⟩ : S66)).set x3.toNat (⟨(at_ (x1.set x3.toNat (⟨x4, (at_ x1 x3).f1⟩ : S66)) x3).f0, x5.2⟩ : S66)) x5.1 (wrap64 (x3 + 1)) _ h
      · rw [if_neg c2] at h
        cases h
    · rw [if_neg c1] at h
      refine .cond' (.tmp 9) false [c_ 14, c_ 15] (bF (dF c1)) ?_
      refine .reg' [4] [] ⟨[(4, (I x2))], [(4000000000, (x1.flatMap o66))], [], []⟩ [c_ 15] aln nocal ?_
      have h := Option.some.inj h
      subst h
      exact .fin' [] [(4000000000, 4000000000)] (I x2) [] aln (shc 4000000000 (rowF o66_ok _) shn) (.z .s)
theorem laws_markTripS.J (k : Nat) (a0 : (List S66)) (a1 : Int) (r : (Int × (List S66))) (h : laws_markTripS.f k a0 a1 = some r) : J prog (.call 34 [(.rf 4000000000 0 a0.length 2 (a0.length * 2)), (I a1)] [(4000000000, (a0.flatMap o66))] (I r.1) [(4000000000, (r.2.flatMap o66))]) := by
  unfold laws_markTripS.f at h
  have ih0 := laws_markTripS.lab k
  refine .call' [c_ 2, c_ 3] ?_
  refine .reg' [0, 1] [] ⟨[(0, (.rf 4000000000 0 a0.length 2 (a0.length * 2))), (1, (I a1))], [(4000000000, (a0.flatMap o66))], [], []⟩ [c_ 12, c_ 13, c_ 7] aln nocal ?_
  refine .reg' [0, 1, 5] [] ⟨[(0, (.rf 4000000000 0 a0.length 2 (a0.length * 2))), (1, (I a1)), (5, (I 0))], [(4000000000, (a0.flatMap o66))], [], []⟩ [l_ 26, b_ 0, c_ 7] aln nocal ?_
  exact ih0 a0 a1 0 _ h
theorem laws_markTripS.lenl : ∀ k, (∀ (x1 : (List S66)) (x2 : Int) (x3 : Int) (r : (Int × (List S66))), laws_markTripS.l0 k x1 x2 x3 = some r → r.2.length = x1.length)
 | 0 => (by intro x1 x2 x3 r h; unfold laws_markTripS.l0 at h; cases h)
 | k + 1 => by
  have ih0 := laws_markTripS.lenl k
  · intro x1 x2 x3 r h
    unfold laws_markTripS.l0 at h
    by_cases c1 : x3 < (x1.length : Int)
    · rw [if_pos c1] at h
      obtain ⟨x4, hx4, h⟩ := Option.bind_eq_some_iff.mp h
      by_cases c2 : 0 ≤ x3
      · rw [if_pos c2] at h
        obtain ⟨x5, hx5, h⟩ := Option.bind_eq_some_iff.mp h
        have lhx5 := laws_markCallS.len k ((at_ (x1.set x3.toNat (⟨x4, (at_ x1 x3).f1⟩ : S66)) x3).f1) (wrap64 (x2 + 1)) _ hx5
        have q := ih0 ((x1.set x3.toNat (⟨x4, (at_ x1 x3).f1⟩ : S66)).set x3.toNat (⟨(at_ (x1.set x3.toNat (⟨x4, (at_ x1 x3).f1⟩ : S66)) x3).f0, x5.2⟩ : S66)) x5.1 (wrap64 (x3 + 1)) _ h
        first | exact q | (simp only [List.length_set, lhx5] at q; exact q)
      · rw [if_neg c2] at h
        cases h
    · rw [if_neg c1] at h
      have h := Option.some.inj h
      subst h
      first | rfl | (simp only [List.length_set]; done) | exact ⟨by first | rfl | simp only [List.length_set]⟩
theorem laws_markTripS.len (k : Nat) (a0 : (List S66)) (a1 : Int) (r : (Int × (List S66))) (h : laws_markTripS.f k a0 a1 = some r) : r.2.length = a0.length := by
  unfold laws_markTripS.f at h
  have ih0 := laws_markTripS.lenl k
  have q := ih0 a0 a1 0 _ h
  first | exact q | (simp only [List.length_set] at q; exact q)
/-! laws_markIntS: function 47 -/
def laws_markIntS.l0 : Nat → (List Int) → Int → Int → Option (Int × (List Int))
 | 0, _, _, _ => none
 | k + 1, x1, x2, x3 => (if x3 < (x1.length : Int) then (if 0 ≤ x3 then (laws_markIntS.l0 k (x1.set x3.toNat x2) (wrap64 (x2 + 1)) (wrap64 (x3 + 1))) else none) else (some (x2, x1)))
def laws_markIntS.f (k : Nat) (a0 : (List Int)) (a1 : Int) : Option (Int × (List Int)) := (laws_markIntS.l0 k a0 a1 0)
theorem laws_markIntS.lab : ∀ k, (∀ (x1 : (List Int)) (x2 : Int) (x3 : Int) (r : (Int × (List Int))), laws_markIntS.l0 k x1 x2 x3 = some r → J prog (.run 47 [0] [l_ 26, b_ 0, c_ 7] [(0, (.rf 0 0 x1.length 1 (x1.length * 1))), (1, (I x2)), (5, (I x3))] [(0, (x1.flatMap encI))] (I r.1) [(0, (r.2.flatMap encI))]))
 | 0 => (by intro x1 x2 x3 r h; unfold laws_markIntS.l0 at h; cases h)
 | k + 1 => by
  have ih0 := laws_markIntS.lab k
  · intro x1 x2 x3 r h
    unfold laws_markIntS.l0 at h
    refine .loop' [c_ 208, c_ 209, c_ 105, l_ 26, b_ 0, c_ 7] ?_
    refine .reg' [0, 1, 5, 9] [] ⟨[(0, (.rf 0 0 x1.length 1 (x1.length * 1))), (1, (I x2)), (5, (I x3)), (9, (B (decide (x3 < (x1.length : Int)))))], [(0, (x1.flatMap encI))], [], []⟩ [c_ 209, c_ 105, l_ 26, b_ 0, c_ 7] aln nocal ?_
    by_cases c1 : x3 < (x1.length : Int)
    · rw [if_pos c1] at h
      refine .cond' (.tmp 9) true [c_ 840, c_ 841, b_ 1, c_ 211, l_ 26, b_ 0, c_ 7] (bT (dT c1)) ?_
      by_cases c2 : 0 ≤ x3
      · rw [if_pos c2] at h
        refine .reg' [0, 1, 5] [.no, .no, .no, .no, .w .un ((x1.set x3.toNat x2).flatMap encI)] ⟨[(0, (.rf 0 0 x1.length 1 (x1.length * 1))), (1, (I x2)), (5, (I x3))], [(0, ((x1.set x3.toNat x2).flatMap encI))], [(0 : Int) ≤ x3 ∧ x3 < (x1.length : Int), V.un = V.un, spl (x1.flatMap encI) (0 + x3.toNat * 1) [(I x2)] = ((x1.set x3.toNat x2).flatMap encI), x1.length * 1 = (x1.flatMap encI).length ∧ 0 + x3.toNat * 1 + 1 ≤ (x1.flatMap encI).length], []⟩ [c_ 841, b_ 1, c_ 211, l_ 26, b_ 0, c_ 7] (alc ⟨c2, c1⟩ (alc rfl (alc (st_row1 encI_ok c2 c1 (I x2) rfl) (alc (okA0 encI_ok c2 c1 (by decide)) aln)))) nocal ?_
        refine .eqs (env2 := [(0, (.rf 0 0 ((x1.set x3.toNat x2).length) 1 ((x1.set x3.toNat x2).length * 1))), (1, (I x2)), (5, (I x3))]) (H2 := [(0, ((x1.set x3.toNat x2).flatMap encI))]) (by first | (simp only [List.length_set]; done) | simp) (by first | rfl | (simp only [List.length_set]; done) | simp) ?_
        refine .reg' [0, 1, 5] [] ⟨[(0, (.rf 0 0 ((x1.set x3.toNat x2).length) 1 ((x1.set x3.toNat x2).length * 1))), (1, (I (wrap64 (x2 + 1)))), (5, (I x3))], [(0, ((x1.set x3.toNat x2).flatMap encI))], [], []⟩ [c_ 211, l_ 26, b_ 0, c_ 7] aln nocal ?_
        refine .reg' [0, 1, 5] [] ⟨[(0, (.rf 0 0 ((x1.set x3.toNat x2).length) 1 ((x1.set x3.toNat x2).length * 1))), (1, (I (wrap64 (x2 + 1)))), (5, (I (wrap64 (x3 + 1))))], [(0, ((x1.set x3.toNat x2).flatMap encI))], [], []⟩ [l_ 26, b_ 0, c_ 7] aln nocal ?_
        exact ih0 (x1.set x3.toNat x2) (wrap64 (x2 + 1)) (wrap64 (x3 + 1)) _ h
      · rw [if_neg c2] at h
        cases h
    · rw [if_neg c1] at h
      refine .cond' (.tmp 9) false [c_ 14, c_ 15] (bF (dF c1)) ?_
      refine .reg' [4] [] ⟨[(4, (I x2))], [(0, (x1.flatMap encI))], [], []⟩ [c_ 15] aln nocal ?_
      have h := Option.some.inj h
      subst h
      exact .fin' [] [(0, 0)] (I x2) [] aln (shc 0 (rowF encI_ok _) shn) (.z .s)
theorem laws_markIntS.J (k : Nat) (a0 : (List Int)) (a1 : Int) (r : (Int × (List Int))) (h : laws_markIntS.f k a0 a1 = some r) : J prog (.call 47 [(.rf 0 0 a0.length 1 (a0.length * 1)), (I a1)] [(0, (a0.flatMap encI))] (I r.1) [(0, (r.2.flatMap encI))]) := by
  unfold laws_markIntS.f at h
  have ih0 := laws_markIntS.lab k
  refine .call' [c_ 2, c_ 3] ?_
  refine .reg' [0, 1] [] ⟨[(0, (.rf 0 0 a0.length 1 (a0.length * 1))), (1, (I a1))], [(0, (a0.flatMap encI))], [], []⟩ [c_ 12, c_ 13, c_ 7] aln nocal ?_
  refine .reg' [0, 1, 5] [] ⟨[(0, (.rf 0 0 a0.length 1 (a0.length * 1))), (1, (I a1)), (5, (I 0))], [(0, (a0.flatMap encI))], [], []⟩ [l_ 26, b_ 0, c_ 7] aln nocal ?_
  exact ih0 a0 a1 0 _ h
theorem laws_markIntS.lenl : ∀ k, (∀ (x1 : (List Int)) (x2 : Int) (x3 : Int) (r : (Int × (List Int))), laws_markIntS.l0 k x1 x2 x3 = some r → r.2.length = x1.length)
 | 0 => (by intro x1 x2 x3 r h; unfold laws_markIntS.l0 at h; cases h)
 | k + 1 => by
  have ih0 := laws_markIntS.lenl k
  · intro x1 x2 x3 r h
    unfold laws_markIntS.l0 at h
    by_cases c1 : x3 < (x1.length : Int)
    · rw [if_pos c1] at h
      by_cases c2 : 0 ≤ x3
      · rw [if_pos c2] at h
        have q := ih0 (x1.set x3.toNat x2) (wrap64 (x2 + 1)) (wrap64 (x3 + 1)) _ h
        first | exact q | (simp only [List.length_set] at q; exact q)
      · rw [if_neg c2] at h
        cases h
    · rw [if_neg c1] at h
      have h := Option.some.inj h
      subst h
      first | rfl | (simp only [List.length_set]; done) | exact ⟨by first | rfl | simp only [List.length_set]⟩
theorem laws_markIntS.len (k : Nat) (a0 : (List Int)) (a1 : Int) (r : (Int × (List Int))) (h : laws_markIntS.f k a0 a1 = some r) : r.2.length = a0.length := by
  unfold laws_markIntS.f at h
  have ih0 := laws_markIntS.lenl k
  have q := ih0 a0 a1 0 _ h
  first | exact q | (simp only [List.length_set] at q; exact q)
/-! laws_heldCallS: function 81 -/
def laws_heldCallS.l0 : Nat → (List S89) → Int → Int → Option Int
 | 0, _, _, _ => none
 | k + 1, a0, x1, x2 => (if x2 < (a0.length : Int) then (if 0 ≤ x2 then (if (at_ a0 x2).f0 = x1 then (if (at_ a0 x2).f1 = (wrap64 (x1 + 1)) then (if (at_ a0 x2).f2 = (wrap64 ((wrap64 (x1 + 1)) + 1)) then (laws_heldCallS.l0 k a0 (wrap64 ((wrap64 ((wrap64 (x1 + 1)) + 1)) + 1)) (wrap64 (x2 + 1))) else (some (-1))) else (some (-1))) else (some (-1))) else none) else (some x1))
def laws_heldCallS.f (k : Nat) (a0 : (List S89)) (a1 : Int) : Option Int := (laws_heldCallS.l0 k a0 a1 0)
theorem laws_heldCallS.lab : ∀ k, (∀ (a0 : (List S89)) (x1 : Int) (x2 : Int) (r : Int), laws_heldCallS.l0 k a0 x1 x2 = some r → J prog (.run 81 [] [l_ 26, b_ 0, c_ 7] [(0, (.sl true a0.length 3 (a0.flatMap e89))), (1, (I x1)), (5, (I x2))] [] (I r) []))
 | 0 => (by intro a0 x1 x2 r h; unfold laws_heldCallS.l0 at h; cases h)
 | k + 1 => by
  have ih0 := laws_heldCallS.lab k
  · intro a0 x1 x2 r h
    unfold laws_heldCallS.l0 at h
    refine .loop' [c_ 208, c_ 209, c_ 105, l_ 26, b_ 0, c_ 7] ?_
    refine .reg' [0, 1, 5, 9] [] ⟨[(0, (.sl true a0.length 3 (a0.flatMap e89))), (1, (I x1)), (5, (I x2)), (9, (B (decide (x2 < (a0.length : Int)))))], [], [], []⟩ [c_ 209, c_ 105, l_ 26, b_ 0, c_ 7] aln nocal ?_
    by_cases c1 : x2 < (a0.length : Int)
    · rw [if_pos c1] at h
      refine .cond' (.tmp 9) true [c_ 1680, c_ 1681, c_ 841, b_ 1, c_ 211, l_ 26, b_ 0, c_ 7] (bT (dT c1)) ?_
      by_cases c2 : 0 ≤ x2
      · rw [if_pos c2] at h
        refine .reg' [0, 1, 5, 18] [.no, .no, .no, .no, .v (I (at_ a0 x2).f0)] ⟨[(0, (.sl true a0.length 3 (a0.flatMap e89))), (1, (I x1)), (5, (I x2)), (18, (B (!((at_ a0 x2).f0 == x1))))], [], [(0 : Int) ≤ x2 ∧ x2 < (a0.length : Int), rdC prog 3 (((a0.flatMap e89).drop (x2.toNat * 3)).drop 0) = (I (at_ a0 x2).f0), 1 ≤ (((a0.flatMap e89).drop (x2.toNat * 3)).drop 0).length], []⟩ [c_ 1681, c_ 841, b_ 1, c_ 211, l_ 26, b_ 0, c_ 7] (alc ⟨c2, c1⟩ (alc (ldC e89_ok 0 (by decide) rfl c2 c1) (alc (okIj e89_ok c2 c1 (by decide)) aln))) nocal ?_
        by_cases c3 : (at_ a0 x2).f0 = x1
        · rw [if_pos c3] at h
          refine .cond' (.tmp 18) false [c_ 1682, c_ 1683, b_ 1, c_ 211, l_ 26, b_ 0, c_ 7] (bF (nF (qT c3))) ?_
          refine .reg' [0, 1, 5] [] ⟨[(0, (.sl true a0.length 3 (a0.flatMap e89))), (1, (I (wrap64 (x1 + 1)))), (5, (I x2))], [], [], []⟩ [c_ 6732, c_ 6733, c_ 3367, b_ 1, c_ 211, l_ 26, b_ 0, c_ 7] aln nocal ?_
          refine .reg' [0, 1, 5, 27] [.no, .no, .no, .no, .v (I (at_ a0 x2).f1)] ⟨[(0, (.sl true a0.length 3 (a0.flatMap e89))), (1, (I (wrap64 (x1 + 1)))), (5, (I x2)), (27, (B (!((at_ a0 x2).f1 == (wrap64 (x1 + 1))))))], [], [(0 : Int) ≤ x2 ∧ x2 < (a0.length : Int), rdC prog 3 (((a0.flatMap e89).drop (x2.toNat * 3)).drop 1) = (I (at_ a0 x2).f1), 1 ≤ (((a0.flatMap e89).drop (x2.toNat * 3)).drop 1).length], []⟩ [c_ 6733, c_ 3367, b_ 1, c_ 211, l_ 26, b_ 0, c_ 7] (alc ⟨c2, c1⟩ (alc (ldC e89_ok 1 (by decide) rfl c2 c1) (alc (okIj e89_ok c2 c1 (by decide)) aln))) nocal ?_
          by_cases c4 : (at_ a0 x2).f1 = (wrap64 (x1 + 1))
          · rw [if_pos c4] at h
            refine .cond' (.tmp 27) false [c_ 6734, c_ 6735, b_ 1, c_ 211, l_ 26, b_ 0, c_ 7] (bF (nF (qT c4))) ?_
            refine .reg' [0, 1, 5] [] ⟨[(0, (.sl true a0.length 3 (a0.flatMap e89))), (1, (I (wrap64 ((wrap64 (x1 + 1)) + 1)))), (5, (I x2))], [], [], []⟩ [c_ 26940, c_ 26941, c_ 13471, b_ 1, c_ 211, l_ 26, b_ 0, c_ 7] aln nocal ?_
            refine .reg' [0, 1, 5, 36] [.no, .no, .no, .no, .v (I (at_ a0 x2).f2)] ⟨[(0, (.sl true a0.length 3 (a0.flatMap e89))), (1, (I (wrap64 ((wrap64 (x1 + 1)) + 1)))), (5, (I x2)), (36, (B (!((at_ a0 x2).f2 == (wrap64 ((wrap64 (x1 + 1)) + 1))))))], [], [(0 : Int) ≤ x2 ∧ x2 < (a0.length : Int), rdC prog 3 (((a0.flatMap e89).drop (x2.toNat * 3)).drop 2) = (I (at_ a0 x2).f2), 1 ≤ (((a0.flatMap e89).drop (x2.toNat * 3)).drop 2).length], []⟩ [c_ 26941, c_ 13471, b_ 1, c_ 211, l_ 26, b_ 0, c_ 7] (alc ⟨c2, c1⟩ (alc (ldC e89_ok 2 (by decide) rfl c2 c1) (alc (okIj e89_ok c2 c1 (by decide)) aln))) nocal ?_
            by_cases c5 : (at_ a0 x2).f2 = (wrap64 ((wrap64 (x1 + 1)) + 1))
            · rw [if_pos c5] at h
              refine .cond' (.tmp 36) false [c_ 13471, b_ 1, c_ 211, l_ 26, b_ 0, c_ 7] (bF (nF (qT c5))) ?_
              refine .reg' [0, 1, 5] [] ⟨[(0, (.sl true a0.length 3 (a0.flatMap e89))), (1, (I (wrap64 ((wrap64 ((wrap64 (x1 + 1)) + 1)) + 1)))), (5, (I x2))], [], [], []⟩ [c_ 211, l_ 26, b_ 0, c_ 7] aln nocal ?_
              refine .reg' [0, 1, 5] [] ⟨[(0, (.sl true a0.length 3 (a0.flatMap e89))), (1, (I (wrap64 ((wrap64 ((wrap64 (x1 + 1)) + 1)) + 1)))), (5, (I (wrap64 (x2 + 1))))], [], [], []⟩ [l_ 26, b_ 0, c_ 7] aln nocal ?_
              exact ih0 a0 (wrap64 ((wrap64 ((wrap64 (x1 + 1)) + 1)) + 1)) (wrap64 (x2 + 1)) _ h
            · rw [if_neg c5] at h
              refine .cond' (.tmp 36) true [c_ 107764, c_ 107765, c_ 13471, b_ 1, c_ 211, l_ 26, b_ 0, c_ 7] (bT (nT (qF c5))) ?_
              refine .reg' [4] [] ⟨[(4, (I (-1)))], [], [], []⟩ [c_ 107765, c_ 13471, b_ 1, c_ 211, l_ 26, b_ 0, c_ 7] aln nocal ?_
              have h := Option.some.inj h
              subst h
              exact .fin0 [] (I (-1)) [] aln (.z .s)
          · rw [if_neg c4] at h
            refine .cond' (.tmp 27) true [c_ 26932, c_ 26933, c_ 3367, b_ 1, c_ 211, l_ 26, b_ 0, c_ 7] (bT (nT (qF c4))) ?_
            refine .reg' [4] [] ⟨[(4, (I (-1)))], [], [], []⟩ [c_ 26933, c_ 3367, b_ 1, c_ 211, l_ 26, b_ 0, c_ 7] aln nocal ?_
            have h := Option.some.inj h
            subst h
            exact .fin0 [] (I (-1)) [] aln (.z .s)
        · rw [if_neg c3] at h
          refine .cond' (.tmp 18) true [c_ 6724, c_ 6725, c_ 841, b_ 1, c_ 211, l_ 26, b_ 0, c_ 7] (bT (nT (qF c3))) ?_
          refine .reg' [4] [] ⟨[(4, (I (-1)))], [], [], []⟩ [c_ 6725, c_ 841, b_ 1, c_ 211, l_ 26, b_ 0, c_ 7] aln nocal ?_
          have h := Option.some.inj h
          subst h
          exact .fin0 [] (I (-1)) [] aln (.z .s)
      · rw [if_neg c2] at h
        cases h
    · rw [if_neg c1] at h
      refine .cond' (.tmp 9) false [c_ 14, c_ 15] (bF (dF c1)) ?_
      refine .reg' [4] [] ⟨[(4, (I x1))], [], [], []⟩ [c_ 15] aln nocal ?_
      have h := Option.some.inj h
      subst h
      exact .fin0 [] (I x1) [] aln (.z .s)
theorem laws_heldCallS.J (k : Nat) (a0 : (List S89)) (a1 : Int) (r : Int) (h : laws_heldCallS.f k a0 a1 = some r) : J prog (.call 81 [(.sl true a0.length 3 (a0.flatMap e89)), (I a1)] [] (I r) []) := by
  unfold laws_heldCallS.f at h
  have ih0 := laws_heldCallS.lab k
  refine .call' [c_ 2, c_ 3] ?_
  refine .reg' [0, 1] [] ⟨[(0, (.sl true a0.length 3 (a0.flatMap e89))), (1, (I a1))], [], [], []⟩ [c_ 12, c_ 13, c_ 7] aln nocal ?_
  refine .reg' [0, 1, 5] [] ⟨[(0, (.sl true a0.length 3 (a0.flatMap e89))), (1, (I a1)), (5, (I 0))], [], [], []⟩ [l_ 26, b_ 0, c_ 7] aln nocal ?_
  exact ih0 a0 a1 0 _ h
/-! laws_heldTripS: function 48 -/
def laws_heldTripS.l0 : Nat → (List S66) → Int → Int → Option Int
 | 0, _, _, _ => none
 | k + 1, a0, x1, x2 => (if x2 < (a0.length : Int) then (if 0 ≤ x2 then ((laws_markText.f k x1).bind fun x3 => (if (sEq (at_ a0 x2).f0 x3) = true then ((laws_heldCallS.f k ((at_ a0 x2).f1) (wrap64 (x1 + 1))).bind fun x4 => (if x4 < 0 then (some (-1)) else (laws_heldTripS.l0 k a0 x4 (wrap64 (x2 + 1))))) else (some (-1)))) else none) else (some x1))
def laws_heldTripS.f (k : Nat) (a0 : (List S66)) (a1 : Int) : Option Int := (laws_heldTripS.l0 k a0 a1 0)
theorem laws_heldTripS.lab : ∀ k, (∀ (a0 : (List S66)) (x1 : Int) (x2 : Int) (r : Int), laws_heldTripS.l0 k a0 x1 x2 = some r → J prog (.run 48 [] [l_ 26, b_ 0, c_ 7] [(0, (.sl true a0.length 2 (a0.flatMap (e66 true)))), (1, (I x1)), (5, (I x2))] [] (I r) []))
 | 0 => (by intro a0 x1 x2 r h; unfold laws_heldTripS.l0 at h; cases h)
 | k + 1 => by
  have ih0 := laws_heldTripS.lab k
  · intro a0 x1 x2 r h
    unfold laws_heldTripS.l0 at h
    refine .loop' [c_ 208, c_ 209, c_ 105, l_ 26, b_ 0, c_ 7] ?_
    refine .reg' [0, 1, 5, 9] [] ⟨[(0, (.sl true a0.length 2 (a0.flatMap (e66 true)))), (1, (I x1)), (5, (I x2)), (9, (B (decide (x2 < (a0.length : Int)))))], [], [], []⟩ [c_ 209, c_ 105, l_ 26, b_ 0, c_ 7] aln nocal ?_
    by_cases c1 : x2 < (a0.length : Int)
    · rw [if_pos c1] at h
      refine .cond' (.tmp 9) true [c_ 1680, c_ 1681, c_ 841, b_ 1, c_ 211, l_ 26, b_ 0, c_ 7] (bT (dT c1)) ?_
      by_cases c2 : 0 ≤ x2
      · rw [if_pos c2] at h
        obtain ⟨x3, hx3, h⟩ := Option.bind_eq_some_iff.mp h
        refine .reg' [0, 1, 5, 19] [.no, .no, .no, .no, .v (S (at_ a0 x2).f0), .no, .c ⟨69, [(I x1)], [], (S x3), [], [], [], [], (S x3), []⟩] ⟨[(0, (.sl true a0.length 2 (a0.flatMap (e66 true)))), (1, (I x1)), (5, (I x2)), (19, (B (!(sEq (at_ a0 x2).f0 x3))))], [], [(0 : Int) ≤ x2 ∧ x2 < (a0.length : Int), rdC prog 9 (((a0.flatMap (e66 true)).drop (x2.toNat * 2)).drop 0) = (S (at_ a0 x2).f0), 1 ≤ (((a0.flatMap (e66 true)).drop (x2.toNat * 2)).drop 0).length, COK (hget []) [(I x1)] ⟨69, [(I x1)], [], (S x3), [], [], [], [], (S x3), []⟩], [⟨69, [(I x1)], [], (S x3), [], [], [], [], (S x3), []⟩]⟩ [c_ 1681, c_ 841, b_ 1, c_ 211, l_ 26, b_ 0, c_ 7] (alc ⟨c2, c1⟩ (alc (ldC (e66_ok true) 0 (by decide) rfl c2 c1) (alc (okIj (e66_ok true) c2 c1 (by decide)) (alc (cok0 false (a2c (.z .s) a2n) (.z .s) (fun h => absurd h (by decide))) aln)))) (acal (laws_markText.J k x1 _ hx3) nocal) ?_
        by_cases c3 : (sEq (at_ a0 x2).f0 x3) = true
        · rw [if_pos c3] at h
          refine .cond' (.tmp 19) false [c_ 1682, c_ 1683, b_ 1, c_ 211, l_ 26, b_ 0, c_ 7] (bF (nF c3)) ?_
          refine .reg' [0, 1, 5] [] ⟨[(0, (.sl true a0.length 2 (a0.flatMap (e66 true)))), (1, (I (wrap64 (x1 + 1)))), (5, (I x2))], [], [], []⟩ [c_ 3366, c_ 3367, b_ 1, c_ 211, l_ 26, b_ 0, c_ 7] aln nocal ?_
          obtain ⟨x4, hx4, h⟩ := Option.bind_eq_some_iff.mp h
          refine .reg' [0, 1, 5] [.no, .no, .no, .no, .v (.sl true (at_ a0 x2).f1.length 3 ((at_ a0 x2).f1.flatMap e89)), .no, .c ⟨81, [(.sl true (at_ a0 x2).f1.length 3 ((at_ a0 x2).f1.flatMap e89)), (I (wrap64 (x1 + 1)))], [], (I x4), [], [], [], [], (I x4), []⟩] ⟨[(0, (.sl true a0.length 2 (a0.flatMap (e66 true)))), (1, (I x4)), (5, (I x2))], [], [(0 : Int) ≤ x2 ∧ x2 < (a0.length : Int), rdC prog 65 (((a0.flatMap (e66 true)).drop (x2.toNat * 2)).drop 1) = (.sl true (at_ a0 x2).f1.length 3 ((at_ a0 x2).f1.flatMap e89)), 1 ≤ (((a0.flatMap (e66 true)).drop (x2.toNat * 2)).drop 1).length, COK (hget []) [(.sl true (at_ a0 x2).f1.length 3 ((at_ a0 x2).f1.flatMap e89)), (I (wrap64 (x1 + 1)))] ⟨81, [(.sl true (at_ a0 x2).f1.length 3 ((at_ a0 x2).f1.flatMap e89)), (I (wrap64 (x1 + 1)))], [], (I x4), [], [], [], [], (I x4), []⟩], [⟨81, [(.sl true (at_ a0 x2).f1.length 3 ((at_ a0 x2).f1.flatMap e89)), (I (wrap64 (x1 + 1)))], [], (I x4), [], [], [], [], (I x4), []⟩]⟩ [c_ 6734, c_ 6735, b_ 1, c_ 211, l_ 26, b_ 0, c_ 7] (alc ⟨c2, c1⟩ (alc (ldC (e66_ok true) 1 (by decide) rfl c2 c1) (alc (okIj (e66_ok true) c2 c1 (by decide)) (alc (cok0 false (a2c (.z (frz_sl e89_ok (fun h => h))) (a2c (.z .s) a2n)) (.z .s) (fun h => absurd h (by decide))) aln)))) (acal (laws_heldCallS.J k ((at_ a0 x2).f1) (wrap64 (x1 + 1)) _ hx4) nocal) ?_
          refine .reg' [0, 1, 5, 30] [] ⟨[(0, (.sl true a0.length 2 (a0.flatMap (e66 true)))), (1, (I x4)), (5, (I x2)), (30, (B (decide (x4 < 0))))], [], [], []⟩ [c_ 6735, b_ 1, c_ 211, l_ 26, b_ 0, c_ 7] aln nocal ?_
          by_cases c4 : x4 < 0
          · rw [if_pos c4] at h
            refine .cond' (.tmp 30) true [c_ 26940, c_ 26941, b_ 1, c_ 211, l_ 26, b_ 0, c_ 7] (bT (dT c4)) ?_
            refine .reg' [4] [] ⟨[(4, (I (-1)))], [], [], []⟩ [c_ 26941, b_ 1, c_ 211, l_ 26, b_ 0, c_ 7] aln nocal ?_
            have h := Option.some.inj h
            subst h
            exact .fin0 [] (I (-1)) [] aln (.z .s)
          · rw [if_neg c4] at h
            refine .cond' (.tmp 30) false [c_ 211, l_ 26, b_ 0, c_ 7] (bF (dF c4)) ?_
            refine .reg' [0, 1, 5] [] ⟨[(0, (.sl true a0.length 2 (a0.flatMap (e66 true)))), (1, (I x4)), (5, (I (wrap64 (x2 + 1))))], [], [], []⟩ [l_ 26, b_ 0, c_ 7] aln nocal ?_
            exact ih0 a0 x4 (wrap64 (x2 + 1)) _ h
        · rw [if_neg c3] at h
          refine .cond' (.tmp 19) true [c_ 6724, c_ 6725, c_ 841, b_ 1, c_ 211, l_ 26, b_ 0, c_ 7] (bT (nT (vF c3))) ?_
          refine .reg' [4] [] ⟨[(4, (I (-1)))], [], [], []⟩ [c_ 6725, c_ 841, b_ 1, c_ 211, l_ 26, b_ 0, c_ 7] aln nocal ?_
          have h := Option.some.inj h
          subst h
          exact .fin0 [] (I (-1)) [] aln (.z .s)
      · rw [if_neg c2] at h
        cases h
    · rw [if_neg c1] at h
      refine .cond' (.tmp 9) false [c_ 14, c_ 15] (bF (dF c1)) ?_
      refine .reg' [4] [] ⟨[(4, (I x1))], [], [], []⟩ [c_ 15] aln nocal ?_
      have h := Option.some.inj h
      subst h
      exact .fin0 [] (I x1) [] aln (.z .s)
theorem laws_heldTripS.J (k : Nat) (a0 : (List S66)) (a1 : Int) (r : Int) (h : laws_heldTripS.f k a0 a1 = some r) : J prog (.call 48 [(.sl true a0.length 2 (a0.flatMap (e66 true))), (I a1)] [] (I r) []) := by
  unfold laws_heldTripS.f at h
  have ih0 := laws_heldTripS.lab k
  refine .call' [c_ 2, c_ 3] ?_
  refine .reg' [0, 1] [] ⟨[(0, (.sl true a0.length 2 (a0.flatMap (e66 true)))), (1, (I a1))], [], [], []⟩ [c_ 12, c_ 13, c_ 7] aln nocal ?_
  refine .reg' [0, 1, 5] [] ⟨[(0, (.sl true a0.length 2 (a0.flatMap (e66 true)))), (1, (I a1)), (5, (I 0))], [], [], []⟩ [l_ 26, b_ 0, c_ 7] aln nocal ?_
  exact ih0 a0 a1 0 _ h
/-! laws_heldIntS: function 49 -/
def laws_heldIntS.l0 : Nat → (List Int) → Int → Int → Option Int
 | 0, _, _, _ => none
 | k + 1, a0, x1, x2 => (if x2 < (a0.length : Int) then (if 0 ≤ x2 then (if (at_ a0 x2) = x1 then (laws_heldIntS.l0 k a0 (wrap64 (x1 + 1)) (wrap64 (x2 + 1))) else (some (-1))) else none) else (some x1))
def laws_heldIntS.f (k : Nat) (a0 : (List Int)) (a1 : Int) : Option Int := (laws_heldIntS.l0 k a0 a1 0)
theorem laws_heldIntS.lab : ∀ k, (∀ (a0 : (List Int)) (x1 : Int) (x2 : Int) (r : Int), laws_heldIntS.l0 k a0 x1 x2 = some r → J prog (.run 49 [] [l_ 26, b_ 0, c_ 7] [(0, (.sl true a0.length 1 (a0.flatMap encI))), (1, (I x1)), (5, (I x2))] [] (I r) []))
 | 0 => (by intro a0 x1 x2 r h; unfold laws_heldIntS.l0 at h; cases h)
 | k + 1 => by
  have ih0 := laws_heldIntS.lab k
  · intro a0 x1 x2 r h
    unfold laws_heldIntS.l0 at h
    refine .loop' [c_ 208, c_ 209, c_ 105, l_ 26, b_ 0, c_ 7] ?_
    refine .reg' [0, 1, 5, 9] [] ⟨[(0, (.sl true a0.length 1 (a0.flatMap encI))), (1, (I x1)), (5, (I x2)), (9, (B (decide (x2 < (a0.length : Int)))))], [], [], []⟩ [c_ 209, c_ 105, l_ 26, b_ 0, c_ 7] aln nocal ?_
    by_cases c1 : x2 < (a0.length : Int)
    · rw [if_pos c1] at h
      refine .cond' (.tmp 9) true [c_ 1680, c_ 1681, c_ 841, b_ 1, c_ 211, l_ 26, b_ 0, c_ 7] (bT (dT c1)) ?_
      by_cases c2 : 0 ≤ x2
      · rw [if_pos c2] at h
        refine .reg' [0, 1, 5, 17] [.no, .no, .no, .v (I (at_ a0 x2))] ⟨[(0, (.sl true a0.length 1 (a0.flatMap encI))), (1, (I x1)), (5, (I x2)), (17, (B (!((at_ a0 x2) == x1))))], [], [(0 : Int) ≤ x2 ∧ x2 < (a0.length : Int), rdC prog 3 ((a0.flatMap encI).drop (x2.toNat * 1)) = (I (at_ a0 x2)), 1 ≤ ((a0.flatMap encI).drop (x2.toNat * 1)).length], []⟩ [c_ 1681, c_ 841, b_ 1, c_ 211, l_ 26, b_ 0, c_ 7] (alc ⟨c2, c1⟩ (alc (ldC1 encI_ok rfl c2 c1) (alc (okI encI_ok c2 c1 (by decide)) aln))) nocal ?_
        by_cases c3 : (at_ a0 x2) = x1
        · rw [if_pos c3] at h
          refine .cond' (.tmp 17) false [c_ 841, b_ 1, c_ 211, l_ 26, b_ 0, c_ 7] (bF (nF (qT c3))) ?_
          refine .reg' [0, 1, 5] [] ⟨[(0, (.sl true a0.length 1 (a0.flatMap encI))), (1, (I (wrap64 (x1 + 1)))), (5, (I x2))], [], [], []⟩ [c_ 211, l_ 26, b_ 0, c_ 7] aln nocal ?_
          refine .reg' [0, 1, 5] [] ⟨[(0, (.sl true a0.length 1 (a0.flatMap encI))), (1, (I (wrap64 (x1 + 1)))), (5, (I (wrap64 (x2 + 1))))], [], [], []⟩ [l_ 26, b_ 0, c_ 7] aln nocal ?_
          exact ih0 a0 (wrap64 (x1 + 1)) (wrap64 (x2 + 1)) _ h
        · rw [if_neg c3] at h
          refine .cond' (.tmp 17) true [c_ 6724, c_ 6725, c_ 841, b_ 1, c_ 211, l_ 26, b_ 0, c_ 7] (bT (nT (qF c3))) ?_
          refine .reg' [4] [] ⟨[(4, (I (-1)))], [], [], []⟩ [c_ 6725, c_ 841, b_ 1, c_ 211, l_ 26, b_ 0, c_ 7] aln nocal ?_
          have h := Option.some.inj h
          subst h
          exact .fin0 [] (I (-1)) [] aln (.z .s)
      · rw [if_neg c2] at h
        cases h
    · rw [if_neg c1] at h
      refine .cond' (.tmp 9) false [c_ 14, c_ 15] (bF (dF c1)) ?_
      refine .reg' [4] [] ⟨[(4, (I x1))], [], [], []⟩ [c_ 15] aln nocal ?_
      have h := Option.some.inj h
      subst h
      exact .fin0 [] (I x1) [] aln (.z .s)
theorem laws_heldIntS.J (k : Nat) (a0 : (List Int)) (a1 : Int) (r : Int) (h : laws_heldIntS.f k a0 a1 = some r) : J prog (.call 49 [(.sl true a0.length 1 (a0.flatMap encI)), (I a1)] [] (I r) []) := by
  unfold laws_heldIntS.f at h
  have ih0 := laws_heldIntS.lab k
  refine .call' [c_ 2, c_ 3] ?_
  refine .reg' [0, 1] [] ⟨[(0, (.sl true a0.length 1 (a0.flatMap encI))), (1, (I a1))], [], [], []⟩ [c_ 12, c_ 13, c_ 7] aln nocal ?_
  refine .reg' [0, 1, 5] [] ⟨[(0, (.sl true a0.length 1 (a0.flatMap encI))), (1, (I a1)), (5, (I 0))], [], [], []⟩ [l_ 26, b_ 0, c_ 7] aln nocal ?_
  exact ih0 a0 a1 0 _ h
/-! laws_FnExactSettle: function 10 -/
def laws_FnExactSettle.f (k : Nat) (a0 : S39) (a1 : (List S61)) (a2 : Int) : Option Bool := ((laws_szNet.f a0 1048576).bind fun x1 => (if x1 < 0 then (some true) else ((laws_szTripS.f k a1 x1).bind fun x2 => (if x2 < 0 then (some true) else ((laws_toNet.f k a0).bind fun x3 => ((laws_toTripS.f k a1).bind fun x4 => ((spec_Settle.f k x3 x4 a2).bind fun x5 => ((laws_toNet.f k a0).bind fun x6 => ((laws_toTripS.f k a1).bind fun x7 => ((impl_Settle.f k x6 x7 a2).bind fun x8 => ((laws_eqTripS.f k x8.1 x5.1).bind fun x9 => (if x9 = true then ((laws_eqIntS.f k x8.2 x5.2).bind fun x10 => (if x10 = true then ((laws_toNet.f k a0).bind fun x11 => ((laws_eqNet.f k x6 x11).bind fun x12 => (if x12 = true then ((laws_toTripS.f k a1).bind fun x13 => ((laws_eqTripS.f k x7 x13).bind fun x14 => (if x14 = true then ((laws_markNet.f k x6 1).bind fun x15 => ((laws_markTripS.f k x7 x15.1).bind fun x16 => (if x16.1 < 0 then (some false) else ((laws_eqTripS.f k x8.1 x5.1).bind fun x17 => (if x17 = true then ((laws_eqIntS.f k x8.2 x5.2).bind fun x18 => (if x18 = true then ((laws_markTripS.f k x8.1 1).bind fun x19 => ((laws_markIntS.f k x8.2 x19.1).bind fun x20 => ((laws_heldTripS.f k x19.2 1).bind fun x21 => (if x21 < 0 then (some false) else ((laws_heldIntS.f k x20.2 x21).bind fun x22 => (if x22 < 0 then (some false) else (if x22 = x20.1 then ((laws_toNet.f k a0).bind fun x23 => ((laws_toTripS.f k a1).bind fun x24 => ((impl_Settle.f k x23 x24 a2).bind fun x25 => ((laws_eqTripS.f k x25.1 x5.1).bind fun x26 => (if x26 = true then ((laws_eqIntS.f k x25.2 x5.2).bind fun x27 => (if x27 = true then ((laws_heldTripS.f k x19.2 1).bind fun x28 => (if x28 < 0 then (some false) else ((laws_heldIntS.f k x20.2 x28).bind fun x29 => (if x29 < 0 then (some false) else (if x29 = x20.1 then (some true) else (some false)))))) else (some false))) else (some false)))))) else (some false)))))))) else (some false))) else (some false)))))) else (some false)))) else (some false)))) else (some false))) else (some false)))))))))))))
end Go.Proofs.Ytebgaiokpncacaa.Fns
