/- The functions that the law FnExactPushOf reaches, by the engine. Printed by a program of this seat. -/
import Derived.Test.YtebgaiokpncacaaE5
import Derived.Test.YtebgaiokpncacaaProg
import Derived.Test.YtebgaiokpncacaaFFnExactPushOfx5
namespace Go.Proofs.Ytebgaiokpncacaa.Fns
open Go.Proofs.Try Go.Proofs.Ytebgaiokpncacaa.Eng Go.RowKit
set_option maxRecDepth 100000
set_option linter.unusedVariables false
set_option linter.unusedSimpArgs false
theorem laws_eqEdgeS.J (k : Nat) (a0 : (List S95)) (a1 : (List S95)) (r : Bool) (h : laws_eqEdgeS.f k a0 a1 = some r) : J prog (.call 67 [(.sl true a0.length 4 (a0.flatMap e95)), (.sl true a1.length 4 (a1.flatMap e95))] [] (B r) []) := by
  unfold laws_eqEdgeS.f at h
  have ih0 := laws_eqEdgeS.lab k
  refine .call' [c_ 2, c_ 3] ?_
  refine .reg' [0, 1] [] ⟨[(0, (.sl true a0.length 4 (a0.flatMap e95))), (1, (.sl true a1.length 4 (a1.flatMap e95)))], [], [], []⟩ [c_ 12, c_ 13, c_ 7] aln nocal ?_
  refine .reg' [0, 1, 10] [] ⟨[(0, (.sl true a0.length 4 (a0.flatMap e95))), (1, (.sl true a1.length 4 (a1.flatMap e95))), (10, (B (!((a0.length : Int) == (a1.length : Int)))))], [], [], []⟩ [c_ 13, c_ 7] aln nocal ?_
  by_cases c1 : (a0.length : Int) = (a1.length : Int)
  · rw [if_pos c1] at h
    refine .cond' (.tmp 10) false [c_ 28, c_ 29, c_ 15] (bF (nF (qT c1))) ?_
    refine .reg' [0, 1, 5] [] ⟨[(0, (.sl true a0.length 4 (a0.flatMap e95))), (1, (.sl true a1.length 4 (a1.flatMap e95))), (5, (I 0))], [], [], []⟩ [l_ 58, b_ 0, c_ 15] aln nocal ?_
    exact ih0 a0 a1 0 _ h
  · rw [if_neg c1] at h
    refine .cond' (.tmp 10) true [c_ 52, c_ 53, c_ 7] (bT (nT (qF c1))) ?_
    refine .reg' [4] [] ⟨[(4, (B false))], [], [], []⟩ [c_ 53, c_ 7] aln nocal ?_
    have h := Option.some.inj h
    subst h
    exact .fin0 [] (B false) [] aln (.z .s)
/-! laws_eqNet: function 29 -/
def laws_eqNet.f (k : Nat) (a0 : S46) (a1 : S46) : Option Bool := (if a0.f0 = a1.f0 then ((laws_eqEdgeS.f k a0.f1 a1.f1).bind fun x1 => (if x1 = true then (some true) else (some false))) else (some false))
theorem laws_eqNet.J (k : Nat) (a0 : S46) (a1 : S46) (r : Bool) (h : laws_eqNet.f k a0 a1 = some r) : J prog (.call 29 [(.ag [(I a0.f0), (.sl true a0.f1.length 4 (a0.f1.flatMap e95))]), (.ag [(I a1.f0), (.sl true a1.f1.length 4 (a1.f1.flatMap e95))])] [] (B r) []) := by
  unfold laws_eqNet.f at h
  refine .call' [c_ 2, c_ 3] ?_
  refine .reg' [2, 3] [] ⟨[(2, (.pt 256 0 2)), (3, (.pt 257 0 2))], [(256, [(I a0.f0), (.sl true a0.f1.length 4 (a0.f1.flatMap e95))]), (257, [(I a1.f0), (.sl true a1.f1.length 4 (a1.f1.flatMap e95))])], [], []⟩ [c_ 12, c_ 13, c_ 7] aln nocal ?_
  refine .reg' [2, 3, 9] [] ⟨[(2, (.pt 256 0 2)), (3, (.pt 257 0 2)), (9, (B (!(a0.f0 == a1.f0))))], [(256, [(I a0.f0), (.sl true a0.f1.length 4 (a0.f1.flatMap e95))]), (257, [(I a1.f0), (.sl true a1.f1.length 4 (a1.f1.flatMap e95))])], [2 = 2 ∧ 0 + 1 ≤ 2, 2 = 2 ∧ 0 + 1 ≤ 2], []⟩ [c_ 13, c_ 7] (alc ⟨rfl, by decide⟩ (alc ⟨rfl, by decide⟩ aln)) nocal ?_
  by_cases c1 : a0.f0 = a1.f0
  · rw [if_pos c1] at h
    refine .cond' (.tmp 9) false [c_ 28, c_ 29, c_ 15] (bF (nF (qT c1))) ?_
    obtain ⟨x1, hx1, h⟩ := Option.bind_eq_some_iff.mp h
    refine .reg' [15] [.no, .no, .no, .no, .c ⟨67, [(.sl true a0.f1.length 4 (a0.f1.flatMap e95)), (.sl true a1.f1.length 4 (a1.f1.flatMap e95))], [], (B x1), [], [], [], [], (B x1), []⟩] ⟨[(15, (B (!x1)))], [(256, [(I a0.f0), (.sl true a0.f1.length 4 (a0.f1.flatMap e95))]), (257, [(I a1.f0), (.sl true a1.f1.length 4 (a1.f1.flatMap e95))])], [2 = 2 ∧ 1 + 1 ≤ 2, 2 = 2 ∧ 1 + 1 ≤ 2, COK (hget [(256, [(I a0.f0), (.sl true a0.f1.length 4 (a0.f1.flatMap e95))]), (257, [(I a1.f0), (.sl true a1.f1.length 4 (a1.f1.flatMap e95))])]) [(.sl true a0.f1.length 4 (a0.f1.flatMap e95)), (.sl true a1.f1.length 4 (a1.f1.flatMap e95))] ⟨67, [(.sl true a0.f1.length 4 (a0.f1.flatMap e95)), (.sl true a1.f1.length 4 (a1.f1.flatMap e95))], [], (B x1), [], [], [], [], (B x1), []⟩], [⟨67, [(.sl true a0.f1.length 4 (a0.f1.flatMap e95)), (.sl true a1.f1.length 4 (a1.f1.flatMap e95))], [], (B x1), [], [], [], [], (B x1), []⟩]⟩ [c_ 29, c_ 15] (alc ⟨rfl, by decide⟩ (alc ⟨rfl, by decide⟩ (alc (cok0 false (a2c (.z (frz_sl e95_ok (fun h => h))) (a2c (.z (frz_sl e95_ok (fun h => h))) a2n)) (.z .s) (fun h => absurd h (by decide))) aln))) (acal (laws_eqEdgeS.J k a0.f1 a1.f1 _ hx1) nocal) ?_
    by_cases c2 : x1 = true
    · rw [if_pos c2] at h
      refine .cond' (.tmp 15) false [c_ 30, c_ 31] (bF (nF c2)) ?_
      refine .reg' [4] [] ⟨[(4, (B true))], [(256, [(I a0.f0), (.sl true a0.f1.length 4 (a0.f1.flatMap e95))]), (257, [(I a1.f0), (.sl true a1.f1.length 4 (a1.f1.flatMap e95))])], [], []⟩ [c_ 31] aln nocal ?_
      have h := Option.some.inj h
      subst h
      exact .fin0 [] (B true) [] aln (.z .s)
    · rw [if_neg c2] at h
      refine .cond' (.tmp 15) true [c_ 116, c_ 117, c_ 15] (bT (nT (vF c2))) ?_
      refine .reg' [4] [] ⟨[(4, (B false))], [(256, [(I a0.f0), (.sl true a0.f1.length 4 (a0.f1.flatMap e95))]), (257, [(I a1.f0), (.sl true a1.f1.length 4 (a1.f1.flatMap e95))])], [], []⟩ [c_ 117, c_ 15] aln nocal ?_
      have h := Option.some.inj h
      subst h
      exact .fin0 [] (B false) [] aln (.z .s)
  · rw [if_neg c1] at h
    refine .cond' (.tmp 9) true [c_ 52, c_ 53, c_ 7] (bT (nT (qF c1))) ?_
    refine .reg' [4] [] ⟨[(4, (B false))], [(256, [(I a0.f0), (.sl true a0.f1.length 4 (a0.f1.flatMap e95))]), (257, [(I a1.f0), (.sl true a1.f1.length 4 (a1.f1.flatMap e95))])], [], []⟩ [c_ 53, c_ 7] aln nocal ?_
    have h := Option.some.inj h
    subst h
    exact .fin0 [] (B false) [] aln (.z .s)
/-! laws_eqCall: function 97 -/
def laws_eqCall.f (a0 : S89) (a1 : S89) : Option Bool := (if a0.f0 = a1.f0 then (if a0.f1 = a1.f1 then (if a0.f2 = a1.f2 then (some true) else (some false)) else (some false)) else (some false))
theorem laws_eqCall.J (a0 : S89) (a1 : S89) (r : Bool) (h : laws_eqCall.f a0 a1 = some r) : J prog (.call 97 [(.ag [(I a0.f0), (I a0.f1), (I a0.f2)]), (.ag [(I a1.f0), (I a1.f1), (I a1.f2)])] [] (B r) []) := by
  unfold laws_eqCall.f at h
  refine .call' [c_ 2, c_ 3] ?_
  refine .reg' [2, 3] [] ⟨[(2, (.pt 256 0 3)), (3, (.pt 257 0 3))], [(256, [(I a0.f0), (I a0.f1), (I a0.f2)]), (257, [(I a1.f0), (I a1.f1), (I a1.f2)])], [], []⟩ [c_ 12, c_ 13, c_ 7] aln nocal ?_
  refine .reg' [2, 3, 9] [] ⟨[(2, (.pt 256 0 3)), (3, (.pt 257 0 3)), (9, (B (!(a0.f0 == a1.f0))))], [(256, [(I a0.f0), (I a0.f1), (I a0.f2)]), (257, [(I a1.f0), (I a1.f1), (I a1.f2)])], [3 = 3 ∧ 0 + 1 ≤ 3, 3 = 3 ∧ 0 + 1 ≤ 3], []⟩ [c_ 13, c_ 7] (alc ⟨rfl, by decide⟩ (alc ⟨rfl, by decide⟩ aln)) nocal ?_
  by_cases c1 : a0.f0 = a1.f0
  · rw [if_pos c1] at h
    refine .cond' (.tmp 9) false [c_ 28, c_ 29, c_ 15] (bF (nF (qT c1))) ?_
    refine .reg' [2, 3, 14] [] ⟨[(2, (.pt 256 0 3)), (3, (.pt 257 0 3)), (14, (B (!(a0.f1 == a1.f1))))], [(256, [(I a0.f0), (I a0.f1), (I a0.f2)]), (257, [(I a1.f0), (I a1.f1), (I a1.f2)])], [3 = 3 ∧ 1 + 1 ≤ 3, 3 = 3 ∧ 1 + 1 ≤ 3], []⟩ [c_ 29, c_ 15] (alc ⟨rfl, by decide⟩ (alc ⟨rfl, by decide⟩ aln)) nocal ?_
    by_cases c2 : a0.f1 = a1.f1
    · rw [if_pos c2] at h
      refine .cond' (.tmp 14) false [c_ 60, c_ 61, c_ 31] (bF (nF (qT c2))) ?_
      refine .reg' [19] [] ⟨[(19, (B (!(a0.f2 == a1.f2))))], [(256, [(I a0.f0), (I a0.f1), (I a0.f2)]), (257, [(I a1.f0), (I a1.f1), (I a1.f2)])], [3 = 3 ∧ 2 + 1 ≤ 3, 3 = 3 ∧ 2 + 1 ≤ 3], []⟩ [c_ 61, c_ 31] (alc ⟨rfl, by decide⟩ (alc ⟨rfl, by decide⟩ aln)) nocal ?_
      by_cases c3 : a0.f2 = a1.f2
      · rw [if_pos c3] at h
        refine .cond' (.tmp 19) false [c_ 62, c_ 63] (bF (nF (qT c3))) ?_
        refine .reg' [4] [] ⟨[(4, (B true))], [(256, [(I a0.f0), (I a0.f1), (I a0.f2)]), (257, [(I a1.f0), (I a1.f1), (I a1.f2)])], [], []⟩ [c_ 63] aln nocal ?_
        have h := Option.some.inj h
        subst h
        exact .fin0 [] (B true) [] aln (.z .s)
      · rw [if_neg c3] at h
        refine .cond' (.tmp 19) true [c_ 244, c_ 245, c_ 31] (bT (nT (qF c3))) ?_
        refine .reg' [4] [] ⟨[(4, (B false))], [(256, [(I a0.f0), (I a0.f1), (I a0.f2)]), (257, [(I a1.f0), (I a1.f1), (I a1.f2)])], [], []⟩ [c_ 245, c_ 31] aln nocal ?_
        have h := Option.some.inj h
        subst h
        exact .fin0 [] (B false) [] aln (.z .s)
    · rw [if_neg c2] at h
      refine .cond' (.tmp 14) true [c_ 116, c_ 117, c_ 15] (bT (nT (qF c2))) ?_
      refine .reg' [4] [] ⟨[(4, (B false))], [(256, [(I a0.f0), (I a0.f1), (I a0.f2)]), (257, [(I a1.f0), (I a1.f1), (I a1.f2)])], [], []⟩ [c_ 117, c_ 15] aln nocal ?_
      have h := Option.some.inj h
      subst h
      exact .fin0 [] (B false) [] aln (.z .s)
  · rw [if_neg c1] at h
    refine .cond' (.tmp 9) true [c_ 52, c_ 53, c_ 7] (bT (nT (qF c1))) ?_
    refine .reg' [4] [] ⟨[(4, (B false))], [(256, [(I a0.f0), (I a0.f1), (I a0.f2)]), (257, [(I a1.f0), (I a1.f1), (I a1.f2)])], [], []⟩ [c_ 53, c_ 7] aln nocal ?_
    have h := Option.some.inj h
    subst h
    exact .fin0 [] (B false) [] aln (.z .s)
/-! laws_eqCallS: function 80 -/
def laws_eqCallS.l0 : Nat → (List S89) → (List S89) → Int → Option Bool
 | 0, _, _, _ => none
 | k + 1, a0, a1, x1 => (if x1 < (a0.length : Int) then (if 0 ≤ x1 then (if x1 < (a1.length : Int) then ((laws_eqCall.f (at_ a0 x1) (at_ a1 x1)).bind fun x2 => (if x2 = true then (laws_eqCallS.l0 k a0 a1 (wrap64 (x1 + 1))) else (some false))) else none) else none) else (some true))
def laws_eqCallS.f (k : Nat) (a0 : (List S89)) (a1 : (List S89)) : Option Bool := (if (a0.length : Int) = (a1.length : Int) then (laws_eqCallS.l0 k a0 a1 0) else (some false))
theorem laws_eqCallS.lab : ∀ k, (∀ (a0 : (List S89)) (a1 : (List S89)) (x1 : Int) (r : Bool), laws_eqCallS.l0 k a0 a1 x1 = some r → J prog (.run 80 [] [l_ 58, b_ 0, c_ 15] [(0, (.sl true a0.length 3 (a0.flatMap e89))), (1, (.sl true a1.length 3 (a1.flatMap e89))), (5, (I x1))] [] (B r) []))
 | 0 => (by intro a0 a1 x1 r h; unfold laws_eqCallS.l0 at h; cases h)
 | k + 1 => by
  have ih0 := laws_eqCallS.lab k
  · intro a0 a1 x1 r h
    unfold laws_eqCallS.l0 at h
    refine .loop' [c_ 464, c_ 465, c_ 233, l_ 58, b_ 0, c_ 15] ?_
    refine .reg' [0, 1, 5, 14] [] ⟨[(0, (.sl true a0.length 3 (a0.flatMap e89))), (1, (.sl true a1.length 3 (a1.flatMap e89))), (5, (I x1)), (14, (B (decide (x1 < (a0.length : Int)))))], [], [], []⟩ [c_ 465, c_ 233, l_ 58, b_ 0, c_ 15] aln nocal ?_
    by_cases c2 : x1 < (a0.length : Int)
    · rw [if_pos c2] at h
      refine .cond' (.tmp 14) true [c_ 1864, c_ 1865, b_ 1, c_ 467, l_ 58, b_ 0, c_ 15] (bT (dT c2)) ?_
      by_cases c3 : 0 ≤ x1
      · rw [if_pos c3] at h
        by_cases c4 : x1 < (a1.length : Int)
        · rw [if_pos c4] at h
          obtain ⟨x2, hx2, h⟩ := Option.bind_eq_some_iff.mp h
          refine .reg' [0, 1, 5, 26] [.no, .no, .no, .v (.ag [(I (at_ a0 x1).f0), (I (at_ a0 x1).f1), (I (at_ a0 x1).f2)]), .no, .no, .no, .v (.ag [(I (at_ a1 x1).f0), (I (at_ a1 x1).f1), (I (at_ a1 x1).f2)]), .c ⟨97, [(.ag [(I (at_ a0 x1).f0), (I (at_ a0 x1).f1), (I (at_ a0 x1).f2)]), (.ag [(I (at_ a1 x1).f0), (I (at_ a1 x1).f1), (I (at_ a1 x1).f2)])], [], (B x2), [], [], [], [], (B x2), []⟩] ⟨[(0, (.sl true a0.length 3 (a0.flatMap e89))), (1, (.sl true a1.length 3 (a1.flatMap e89))), (5, (I x1)), (26, (B (!x2)))], [], [(0 : Int) ≤ x1 ∧ x1 < (a0.length : Int), rdC prog 90 ((a0.flatMap e89).drop (x1.toNat * 3)) = (.ag [(I (at_ a0 x1).f0), (I (at_ a0 x1).f1), (I (at_ a0 x1).f2)]), 3 ≤ ((a0.flatMap e89).drop (x1.toNat * 3)).length, (0 : Int) ≤ x1 ∧ x1 < (a1.length : Int), rdC prog 90 ((a1.flatMap e89).drop (x1.toNat * 3)) = (.ag [(I (at_ a1 x1).f0), (I (at_ a1 x1).f1), (I (at_ a1 x1).f2)]), 3 ≤ ((a1.flatMap e89).drop (x1.toNat * 3)).length, COK (hget []) [(.ag [(I (at_ a0 x1).f0), (I (at_ a0 x1).f1), (I (at_ a0 x1).f2)]), (.ag [(I (at_ a1 x1).f0), (I (at_ a1 x1).f1), (I (at_ a1 x1).f2)])] ⟨97, [(.ag [(I (at_ a0 x1).f0), (I (at_ a0 x1).f1), (I (at_ a0 x1).f2)]), (.ag [(I (at_ a1 x1).f0), (I (at_ a1 x1).f1), (I (at_ a1 x1).f2)])], [], (B x2), [], [], [], [], (B x2), []⟩], [⟨97, [(.ag [(I (at_ a0 x1).f0), (I (at_ a0 x1).f1), (I (at_ a0 x1).f2)]), (.ag [(I (at_ a1 x1).f0), (I (at_ a1 x1).f1), (I (at_ a1 x1).f2)])], [], (B x2), [], [], [], [], (B x2), []⟩]⟩ [c_ 1865, b_ 1, c_ 467, l_ 58, b_ 0, c_ 15] (alc ⟨c3, c2⟩ (alc (ldA e89_ok rfl rfl c3 c2) (alc (okI e89_ok c3 c2 (by decide)) (alc ⟨c3, c4⟩ (alc (ldA e89_ok rfl rfl c3 c4) (alc (okI e89_ok c3 c4 (by decide)) (alc (cok0 false (a2c (.z (frz_ag (a2c .s (a2c .s (a2c .s a2n))))) (a2c (.z (frz_ag (a2c .s (a2c .s (a2c .s a2n))))) a2n)) (.z .s) (fun h => absurd h (by decide))) aln))))))) (acal (laws_eqCall.J (at_ a0 x1) (at_ a1 x1) _ hx2) nocal) ?_
          by_cases c5 : x2 = true
          · rw [if_pos c5] at h
            refine .cond' (.tmp 26) false [c_ 467, l_ 58, b_ 0, c_ 15] (bF (nF c5)) ?_
            refine .reg' [0, 1, 5] [] ⟨[(0, (.sl true a0.length 3 (a0.flatMap e89))), (1, (.sl true a1.length 3 (a1.flatMap e89))), (5, (I (wrap64 (x1 + 1))))], [], [], []⟩ [l_ 58, b_ 0, c_ 15] aln nocal ?_
            exact ih0 a0 a1 (wrap64 (x1 + 1)) _ h
          · rw [if_neg c5] at h
            refine .cond' (.tmp 26) true [c_ 7460, c_ 7461, b_ 1, c_ 467, l_ 58, b_ 0, c_ 15] (bT (nT (vF c5))) ?_
            refine .reg' [4] [] ⟨[(4, (B false))], [], [], []⟩ [c_ 7461, b_ 1, c_ 467, l_ 58, b_ 0, c_ 15] aln nocal ?_
            have h := Option.some.inj h
            subst h
            exact .fin0 [] (B false) [] aln (.z .s)
        · rw [if_neg c4] at h
          cases h
      · rw [if_neg c3] at h
        cases h
    · rw [if_neg c2] at h
      refine .cond' (.tmp 14) false [c_ 30, c_ 31] (bF (dF c2)) ?_
      refine .reg' [4] [] ⟨[(4, (B true))], [], [], []⟩ [c_ 31] aln nocal ?_
      have h := Option.some.inj h
      subst h
      exact .fin0 [] (B true) [] aln (.z .s)
theorem laws_eqCallS.J (k : Nat) (a0 : (List S89)) (a1 : (List S89)) (r : Bool) (h : laws_eqCallS.f k a0 a1 = some r) : J prog (.call 80 [(.sl true a0.length 3 (a0.flatMap e89)), (.sl true a1.length 3 (a1.flatMap e89))] [] (B r) []) := by
  unfold laws_eqCallS.f at h
  have ih0 := laws_eqCallS.lab k
  refine .call' [c_ 2, c_ 3] ?_
  refine .reg' [0, 1] [] ⟨[(0, (.sl true a0.length 3 (a0.flatMap e89))), (1, (.sl true a1.length 3 (a1.flatMap e89)))], [], [], []⟩ [c_ 12, c_ 13, c_ 7] aln nocal ?_
  refine .reg' [0, 1, 10] [] ⟨[(0, (.sl true a0.length 3 (a0.flatMap e89))), (1, (.sl true a1.length 3 (a1.flatMap e89))), (10, (B (!((a0.length : Int) == (a1.length : Int)))))], [], [], []⟩ [c_ 13, c_ 7] aln nocal ?_
  by_cases c1 : (a0.length : Int) = (a1.length : Int)
  · rw [if_pos c1] at h
    refine .cond' (.tmp 10) false [c_ 28, c_ 29, c_ 15] (bF (nF (qT c1))) ?_
    refine .reg' [0, 1, 5] [] ⟨[(0, (.sl true a0.length 3 (a0.flatMap e89))), (1, (.sl true a1.length 3 (a1.flatMap e89))), (5, (I 0))], [], [], []⟩ [l_ 58, b_ 0, c_ 15] aln nocal ?_
    exact ih0 a0 a1 0 _ h
  · rw [if_neg c1] at h
    refine .cond' (.tmp 10) true [c_ 52, c_ 53, c_ 7] (bT (nT (qF c1))) ?_
    refine .reg' [4] [] ⟨[(4, (B false))], [], [], []⟩ [c_ 53, c_ 7] aln nocal ?_
    have h := Option.some.inj h
    subst h
    exact .fin0 [] (B false) [] aln (.z .s)
/-! laws_eqTrip: function 43 -/
def laws_eqTrip.f (k : Nat) (a0 : S66) (a1 : S66) : Option Bool := (if (sEq a0.f0 a1.f0) = true then ((laws_eqCallS.f k a0.f1 a1.f1).bind fun x1 => (if x1 = true then (some true) else (some false))) else (some false))
theorem laws_eqTrip.J (k : Nat) (a0 : S66) (a1 : S66) (r : Bool) (h : laws_eqTrip.f k a0 a1 = some r) : J prog (.call 43 [(.ag [(S a0.f0), (.sl true a0.f1.length 3 (a0.f1.flatMap e89))]), (.ag [(S a1.f0), (.sl true a1.f1.length 3 (a1.f1.flatMap e89))])] [] (B r) []) := by
  unfold laws_eqTrip.f at h
  refine .call' [c_ 2, c_ 3] ?_
  refine .reg' [2, 3] [] ⟨[(2, (.pt 256 0 2)), (3, (.pt 257 0 2))], [(256, [(S a0.f0), (.sl true a0.f1.length 3 (a0.f1.flatMap e89))]), (257, [(S a1.f0), (.sl true a1.f1.length 3 (a1.f1.flatMap e89))])], [], []⟩ [c_ 12, c_ 13, c_ 7] aln nocal ?_
  refine .reg' [2, 3, 9] [] ⟨[(2, (.pt 256 0 2)), (3, (.pt 257 0 2)), (9, (B (!(sEq a0.f0 a1.f0))))], [(256, [(S a0.f0), (.sl true a0.f1.length 3 (a0.f1.flatMap e89))]), (257, [(S a1.f0), (.sl true a1.f1.length 3 (a1.f1.flatMap e89))])], [2 = 2 ∧ 0 + 1 ≤ 2, 2 = 2 ∧ 0 + 1 ≤ 2], []⟩ [c_ 13, c_ 7] (alc ⟨rfl, by decide⟩ (alc ⟨rfl, by decide⟩ aln)) nocal ?_
  by_cases c1 : (sEq a0.f0 a1.f0) = true
  · rw [if_pos c1] at h
    refine .cond' (.tmp 9) false [c_ 28, c_ 29, c_ 15] (bF (nF c1)) ?_
    obtain ⟨x1, hx1, h⟩ := Option.bind_eq_some_iff.mp h
    refine .reg' [15] [.no, .no, .no, .no, .c ⟨80, [(.sl true a0.f1.length 3 (a0.f1.flatMap e89)), (.sl true a1.f1.length 3 (a1.f1.flatMap e89))], [], (B x1), [], [], [], [], (B x1), []⟩] ⟨[(15, (B (!x1)))], [(256, [(S a0.f0), (.sl true a0.f1.length 3 (a0.f1.flatMap e89))]), (257, [(S a1.f0), (.sl true a1.f1.length 3 (a1.f1.flatMap e89))])], [2 = 2 ∧ 1 + 1 ≤ 2, 2 = 2 ∧ 1 + 1 ≤ 2, COK (hget [(256, [(S a0.f0), (.sl true a0.f1.length 3 (a0.f1.flatMap e89))]), (257, [(S a1.f0), (.sl true a1.f1.length 3 (a1.f1.flatMap e89))])]) [(.sl true a0.f1.length 3 (a0.f1.flatMap e89)), (.sl true a1.f1.length 3 (a1.f1.flatMap e89))] ⟨80, [(.sl true a0.f1.length 3 (a0.f1.flatMap e89)), (.sl true a1.f1.length 3 (a1.f1.flatMap e89))], [], (B x1), [], [], [], [], (B x1), []⟩], [⟨80, [(.sl true a0.f1.length 3 (a0.f1.flatMap e89)), (.sl true a1.f1.length 3 (a1.f1.flatMap e89))], [], (B x1), [], [], [], [], (B x1), []⟩]⟩ [c_ 29, c_ 15] (alc ⟨rfl, by decide⟩ (alc ⟨rfl, by decide⟩ (alc (cok0 false (a2c (.z (frz_sl e89_ok (fun h => h))) (a2c (.z (frz_sl e89_ok (fun h => h))) a2n)) (.z .s) (fun h => absurd h (by decide))) aln))) (acal (laws_eqCallS.J k a0.f1 a1.f1 _ hx1) nocal) ?_
    by_cases c2 : x1 = true
    · rw [if_pos c2] at h
      refine .cond' (.tmp 15) false [c_ 30, c_ 31] (bF (nF c2)) ?_
      refine .reg' [4] [] ⟨[(4, (B true))], [(256, [(S a0.f0), (.sl true a0.f1.length 3 (a0.f1.flatMap e89))]), (257, [(S a1.f0), (.sl true a1.f1.length 3 (a1.f1.flatMap e89))])], [], []⟩ [c_ 31] aln nocal ?_
      have h := Option.some.inj h
      subst h
      exact .fin0 [] (B true) [] aln (.z .s)
    · rw [if_neg c2] at h
      refine .cond' (.tmp 15) true [c_ 116, c_ 117, c_ 15] (bT (nT (vF c2))) ?_
      refine .reg' [4] [] ⟨[(4, (B false))], [(256, [(S a0.f0), (.sl true a0.f1.length 3 (a0.f1.flatMap e89))]), (257, [(S a1.f0), (.sl true a1.f1.length 3 (a1.f1.flatMap e89))])], [], []⟩ [c_ 117, c_ 15] aln nocal ?_
      have h := Option.some.inj h
      subst h
      exact .fin0 [] (B false) [] aln (.z .s)
  · rw [if_neg c1] at h
    refine .cond' (.tmp 9) true [c_ 52, c_ 53, c_ 7] (bT (nT (vF c1))) ?_
    refine .reg' [4] [] ⟨[(4, (B false))], [(256, [(S a0.f0), (.sl true a0.f1.length 3 (a0.f1.flatMap e89))]), (257, [(S a1.f0), (.sl true a1.f1.length 3 (a1.f1.flatMap e89))])], [], []⟩ [c_ 53, c_ 7] aln nocal ?_
    have h := Option.some.inj h
    subst h
    exact .fin0 [] (B false) [] aln (.z .s)
/-! laws_eqTripS: function 30 -/
def laws_eqTripS.l0 : Nat → (List S66) → (List S66) → Int → Option Bool
 | 0, _, _, _ => none
 | k + 1, a0, a1, x1 => (if x1 < (a0.length : Int) then (if 0 ≤ x1 then (if x1 < (a1.length : Int) then ((laws_eqTrip.f k (at_ a0 x1) (at_ a1 x1)).bind fun x2 => (if x2 = true then (laws_eqTripS.l0 k a0 a1 (wrap64 (x1 + 1))) else (some false))) else none) else none) else (some true))
def laws_eqTripS.f (k : Nat) (a0 : (List S66)) (a1 : (List S66)) : Option Bool := (if (a0.length : Int) = (a1.length : Int) then (laws_eqTripS.l0 k a0 a1 0) else (some false))
theorem laws_eqTripS.lab : ∀ k, (∀ (a0 : (List S66)) (a1 : (List S66)) (x1 : Int) (r : Bool), laws_eqTripS.l0 k a0 a1 x1 = some r → J prog (.run 30 [] [l_ 58, b_ 0, c_ 15] [(0, (.sl true a0.length 2 (a0.flatMap (e66 true)))), (1, (.sl true a1.length 2 (a1.flatMap (e66 true)))), (5, (I x1))] [] (B r) []))
 | 0 => (by intro a0 a1 x1 r h; unfold laws_eqTripS.l0 at h; cases h)
 | k + 1 => by
  have ih0 := laws_eqTripS.lab k
  · intro a0 a1 x1 r h
    unfold laws_eqTripS.l0 at h
    refine .loop' [c_ 464, c_ 465, c_ 233, l_ 58, b_ 0, c_ 15] ?_
    refine .reg' [0, 1, 5, 14] [] ⟨[(0, (.sl true a0.length 2 (a0.flatMap (e66 true)))), (1, (.sl true a1.length 2 (a1.flatMap (e66 true)))), (5, (I x1)), (14, (B (decide (x1 < (a0.length : Int)))))], [], [], []⟩ [c_ 465, c_ 233, l_ 58, b_ 0, c_ 15] aln nocal ?_
    by_cases c2 : x1 < (a0.length : Int)
    · rw [if_pos c2] at h
      refine .cond' (.tmp 14) true [c_ 1864, c_ 1865, b_ 1, c_ 467, l_ 58, b_ 0, c_ 15] (bT (dT c2)) ?_
      by_cases c3 : 0 ≤ x1
      · rw [if_pos c3] at h
        by_cases c4 : x1 < (a1.length : Int)
        · rw [if_pos c4] at h
          obtain ⟨x2, hx2, h⟩ := Option.bind_eq_some_iff.mp h
          refine .reg' [0, 1, 5, 26] [.no, .no, .no, .v (.ag [(S (at_ a0 x1).f0), (.sl true (at_ a0 x1).f1.length 3 ((at_ a0 x1).f1.flatMap e89))]), .no, .no, .no, .v (.ag [(S (at_ a1 x1).f0), (.sl true (at_ a1 x1).f1.length 3 ((at_ a1 x1).f1.flatMap e89))]), .c ⟨43, [(.ag [(S (at_ a0 x1).f0), (.sl true (at_ a0 x1).f1.length 3 ((at_ a0 x1).f1.flatMap e89))]), (.ag [(S (at_ a1 x1).f0), (.sl true (at_ a1 x1).f1.length 3 ((at_ a1 x1).f1.flatMap e89))])], [], (B x2), [], [], [], [], (B x2), []⟩] ⟨[(0, (.sl true a0.length 2 (a0.flatMap (e66 true)))), (1, (.sl true a1.length 2 (a1.flatMap (e66 true)))), (5, (I x1)), (26, (B (!x2)))], [], [(0 : Int) ≤ x1 ∧ x1 < (a0.length : Int), rdC prog 67 ((a0.flatMap (e66 true)).drop (x1.toNat * 2)) = (.ag [(S (at_ a0 x1).f0), (.sl true (at_ a0 x1).f1.length 3 ((at_ a0 x1).f1.flatMap e89))]), 2 ≤ ((a0.flatMap (e66 true)).drop (x1.toNat * 2)).length, (0 : Int) ≤ x1 ∧ x1 < (a1.length : Int), rdC prog 67 ((a1.flatMap (e66 true)).drop (x1.toNat * 2)) = (.ag [(S (at_ a1 x1).f0), (.sl true (at_ a1 x1).f1.length 3 ((at_ a1 x1).f1.flatMap e89))]), 2 ≤ ((a1.flatMap (e66 true)).drop (x1.toNat * 2)).length, COK (hget []) [(.ag [(S (at_ a0 x1).f0), (.sl true (at_ a0 x1).f1.length 3 ((at_ a0 x1).f1.flatMap e89))]), (.ag [(S (at_ a1 x1).f0), (.sl true (at_ a1 x1).f1.length 3 ((at_ a1 x1).f1.flatMap e89))])] ⟨43, [(.ag [(S (at_ a0 x1).f0), (.sl true (at_ a0 x1).f1.length 3 ((at_ a0 x1).f1.flatMap e89))]), (.ag [(S (at_ a1 x1).f0), (.sl true (at_ a1 x1).f1.length 3 ((at_ a1 x1).f1.flatMap e89))])], [], (B x2), [], [], [], [], (B x2), []⟩], [⟨43, [(.ag [(S (at_ a0 x1).f0), (.sl true (at_ a0 x1).f1.length 3 ((at_ a0 x1).f1.flatMap e89))]), (.ag [(S (at_ a1 x1).f0), (.sl true (at_ a1 x1).f1.length 3 ((at_ a1 x1).f1.flatMap e89))])], [], (B x2), [], [], [], [], (B x2), []⟩]⟩ [c_ 1865, b_ 1, c_ 467, l_ 58, b_ 0, c_ 15] (alc ⟨c3, c2⟩ (alc (ldA (e66_ok true) rfl rfl c3 c2) (alc (okI (e66_ok true) c3 c2 (by decide)) (alc ⟨c3, c4⟩ (alc (ldA (e66_ok true) rfl rfl c3 c4) (alc (okI (e66_ok true) c3 c4 (by decide)) (alc (cok0 false (a2c (.z (frz_ag (a2c .s (a2c (frz_sl e89_ok (fun h => h)) a2n)))) (a2c (.z (frz_ag (a2c .s (a2c (frz_sl e89_ok (fun h => h)) a2n)))) a2n)) (.z .s) (fun h => absurd h (by decide))) aln))))))) (acal (laws_eqTrip.J k (at_ a0 x1) (at_ a1 x1) _ hx2) nocal) ?_
          by_cases c5 : x2 = true
          · rw [if_pos c5] at h
            refine .cond' (.tmp 26) false [c_ 467, l_ 58, b_ 0, c_ 15] (bF (nF c5)) ?_
            refine .reg' [0, 1, 5] [] ⟨[(0, (.sl true a0.length 2 (a0.flatMap (e66 true)))), (1, (.sl true a1.length 2 (a1.flatMap (e66 true)))), (5, (I (wrap64 (x1 + 1))))], [], [], []⟩ [l_ 58, b_ 0, c_ 15] aln nocal ?_
            exact ih0 a0 a1 (wrap64 (x1 + 1)) _ h
          · rw [if_neg c5] at h
            refine .cond' (.tmp 26) true [c_ 7460, c_ 7461, b_ 1, c_ 467, l_ 58, b_ 0, c_ 15] (bT (nT (vF c5))) ?_
            refine .reg' [4] [] ⟨[(4, (B false))], [], [], []⟩ [c_ 7461, b_ 1, c_ 467, l_ 58, b_ 0, c_ 15] aln nocal ?_
            have h := Option.some.inj h
            subst h
            exact .fin0 [] (B false) [] aln (.z .s)
        · rw [if_neg c4] at h
          cases h
      · rw [if_neg c3] at h
        cases h
    · rw [if_neg c2] at h
      refine .cond' (.tmp 14) false [c_ 30, c_ 31] (bF (dF c2)) ?_
      refine .reg' [4] [] ⟨[(4, (B true))], [], [], []⟩ [c_ 31] aln nocal ?_
      have h := Option.some.inj h
      subst h
      exact .fin0 [] (B true) [] aln (.z .s)
theorem laws_eqTripS.J (k : Nat) (a0 : (List S66)) (a1 : (List S66)) (r : Bool) (h : laws_eqTripS.f k a0 a1 = some r) : J prog (.call 30 [(.sl true a0.length 2 (a0.flatMap (e66 true))), (.sl true a1.length 2 (a1.flatMap (e66 true)))] [] (B r) []) := by
  unfold laws_eqTripS.f at h
  have ih0 := laws_eqTripS.lab k
  refine .call' [c_ 2, c_ 3] ?_
  refine .reg' [0, 1] [] ⟨[(0, (.sl true a0.length 2 (a0.flatMap (e66 true)))), (1, (.sl true a1.length 2 (a1.flatMap (e66 true))))], [], [], []⟩ [c_ 12, c_ 13, c_ 7] aln nocal ?_
  refine .reg' [0, 1, 10] [] ⟨[(0, (.sl true a0.length 2 (a0.flatMap (e66 true)))), (1, (.sl true a1.length 2 (a1.flatMap (e66 true)))), (10, (B (!((a0.length : Int) == (a1.length : Int)))))], [], [], []⟩ [c_ 13, c_ 7] aln nocal ?_
  by_cases c1 : (a0.length : Int) = (a1.length : Int)
  · rw [if_pos c1] at h
    refine .cond' (.tmp 10) false [c_ 28, c_ 29, c_ 15] (bF (nF (qT c1))) ?_
    refine .reg' [0, 1, 5] [] ⟨[(0, (.sl true a0.length 2 (a0.flatMap (e66 true)))), (1, (.sl true a1.length 2 (a1.flatMap (e66 true)))), (5, (I 0))], [], [], []⟩ [l_ 58, b_ 0, c_ 15] aln nocal ?_
    exact ih0 a0 a1 0 _ h
  · rw [if_neg c1] at h
    refine .cond' (.tmp 10) true [c_ 52, c_ 53, c_ 7] (bT (nT (qF c1))) ?_
    refine .reg' [4] [] ⟨[(4, (B false))], [], [], []⟩ [c_ 53, c_ 7] aln nocal ?_
    have h := Option.some.inj h
    subst h
    exact .fin0 [] (B false) [] aln (.z .s)
/-! laws_FnExactPushOf: function 9 -/
def laws_FnExactPushOf.f (k : Nat) (a0 : S39) (a1 : (List S61)) (a2 : S61) (a3 : Int) : Option Bool := ((laws_szNet.f a0 1048576).bind fun x1 => (if x1 < 0 then (some true) else ((laws_szTripS.f k a1 x1).bind fun x2 => (if x2 < 0 then (some true) else ((laws_szTrip.f a2 x2).bind fun x3 => (if x3 < 0 then (some true) else ((laws_toNet.f k a0).bind fun x4 => ((laws_toTripS.f k a1).bind fun x5 => ((laws_toTrip.f k a2).bind fun x6 => ((spec_PushOf.f k x4 x5 x6 a3).bind fun x7 => ((laws_toNet.f k a0).bind fun x8 => ((laws_toTripS.f k a1).bind fun x9 => ((laws_toTrip.f k a2).bind fun x10 => ((impl_PushOf.f k x8 x9 x10 a3).bind fun x11 => (if x11 = x7 then ((laws_toNet.f k a0).bind fun x12 => ((laws_eqNet.f k x8 x12).bind fun x13 => (if x13 = true then ((laws_toTripS.f k a1).bind fun x14 => ((laws_eqTripS.f k x9 x14).bind fun x15 => (if x15 = true then ((laws_toTrip.f k a2).bind fun x16 => ((laws_eqTrip.f k x10 x16).bind fun x17 => (if x17 = true then (some true) else (some false)))) else (some false)))) else (some false)))) else (some false))))))))))))))))
theorem laws_FnExactPushOf.J (k : Nat) (a0 : S39) (a1 : (List S61)) (a2 : S61) (a3 : Int) (r : Bool) (h : laws_FnExactPushOf.f k a0 a1 a2 a3 = some r) : J prog (.call 9 [(.ag [(I a0.f0), (.sl true a0.f1.length 4 (a0.f1.flatMap e95))]), (.sl true a1.length 2 (a1.flatMap (e61 true))), (.ag [(S a2.f0), (.sl true a2.f1.length 3 (a2.f1.flatMap e89))]), (I a3)] [] (B r) []) := by
  unfold laws_FnExactPushOf.f at h
  refine .call' [c_ 2, c_ 3] ?_
  refine .reg' [1, 3, 4, 6] [] ⟨[(1, (.sl true a1.length 2 (a1.flatMap (e61 true)))), (3, (I a3)), (4, (.pt 256 0 2)), (6, (.pt 257 0 2))], [(256, [(I a0.f0), (.sl true a0.f1.length 4 (a0.f1.flatMap e95))]), (257, [(S a2.f0), (.sl true a2.f1.length 3 (a2.f1.flatMap e89))])], [], []⟩ [c_ 6, c_ 7] aln nocal ?_
  refine .reg' [1, 3, 4, 6, 9] [] ⟨[(1, (.sl true a1.length 2 (a1.flatMap (e61 true)))), (3, (I a3)), (4, (.pt 256 0 2)), (6, (.pt 257 0 2)), (9, (I 1048576))], [(256, [(I a0.f0), (.sl true a0.f1.length 4 (a0.f1.flatMap e95))]), (257, [(S a2.f0), (.sl true a2.f1.length 3 (a2.f1.flatMap e89))])], [], []⟩ [c_ 14, c_ 15] aln nocal ?_
  obtain ⟨x1, hx1, h⟩ := Option.bind_eq_some_iff.mp h
  refine .reg' [1, 3, 4, 6, 9] [.no, .no, .c ⟨23, [(.ag [(I a0.f0), (.sl true a0.f1.length 4 (a0.f1.flatMap e95))]), (I 1048576)], [], (I x1), [], [], [], [], (I x1), []⟩] ⟨[(1, (.sl true a1.length 2 (a1.flatMap (e61 true)))), (3, (I a3)), (4, (.pt 256 0 2)), (6, (.pt 257 0 2)), (9, (I x1))], [(256, [(I a0.f0), (.sl true a0.f1.length 4 (a0.f1.flatMap e95))]), (257, [(S a2.f0), (.sl true a2.f1.length 3 (a2.f1.flatMap e89))])], [2 = 2 ∧ 0 + 2 ≤ 2, COK (hget [(256, [(I a0.f0), (.sl true a0.f1.length 4 (a0.f1.flatMap e95))]), (257, [(S a2.f0), (.sl true a2.f1.length 3 (a2.f1.flatMap e89))])]) [(.ag [(I a0.f0), (.sl true a0.f1.length 4 (a0.f1.flatMap e95))]), (I 1048576)] ⟨23, [(.ag [(I a0.f0), (.sl true a0.f1.length 4 (a0.f1.flatMap e95))]), (I 1048576)], [], (I x1), [], [], [], [], (I x1), []⟩], [⟨23, [(.ag [(I a0.f0), (.sl true a0.f1.length 4 (a0.f1.flatMap e95))]), (I 1048576)], [], (I x1), [], [], [], [], (I x1), []⟩]⟩ [c_ 60, c_ 61, c_ 31] (alc ⟨rfl, by decide⟩ (alc (cok0 false (a2c (.z (frz_ag (a2c .s (a2c (frz_sl e95_ok (fun h => h)) a2n)))) (a2c (.z .s) a2n)) (.z .s) (fun h => absurd h (by decide))) aln)) (acal (laws_szNet.J a0 1048576 _ hx1) nocal) ?_
  refine .reg' [1, 3, 4, 6, 9, 19] [] ⟨[(1, (.sl true a1.length 2 (a1.flatMap (e61 true)))), (3, (I a3)), (4, (.pt 256 0 2)), (6, (.pt 257 0 2)), (9, (I x1)), (19, (B (decide (x1 < 0))))], [(256, [(I a0.f0), (.sl true a0.f1.length 4 (a0.f1.flatMap e95))]), (257, [(S a2.f0), (.sl true a2.f1.length 3 (a2.f1.flatMap e89))])], [], []⟩ [c_ 61, c_ 31] aln nocal ?_
  by_cases c1 : x1 < 0
  · rw [if_pos c1] at h
    refine .cond' (.tmp 19) true [c_ 244, c_ 245, c_ 31] (bT (dT c1)) ?_
    refine .reg' [8] [] ⟨[(8, (B true))], [(256, [(I a0.f0), (.sl true a0.f1.length 4 (a0.f1.flatMap e95))]), (257, [(S a2.f0), (.sl true a2.f1.length 3 (a2.f1.flatMap e89))])], [], []⟩ [c_ 245, c_ 31] aln nocal ?_
    have h := Option.some.inj h
    subst h
    exact .fin0 [] (B true) [] aln (.z .s)
  · rw [if_neg c1] at h
    refine .cond' (.tmp 19) false [c_ 62, c_ 63] (bF (dF c1)) ?_
    obtain ⟨x2, hx2, h⟩ := Option.bind_eq_some_iff.mp h
    refine .reg' [1, 3, 4, 6, 9] [.no, .no, .c ⟨24, [(.sl true a1.length 2 (a1.flatMap (e61 true))), (I x1)], [], (I x2), [], [], [], [], (I x2), []⟩] ⟨[(1, (.sl true a1.length 2 (a1.flatMap (e61 true)))), (3, (I a3)), (4, (.pt 256 0 2)), (6, (.pt 257 0 2)), (9, (I x2))], [(256, [(I a0.f0), (.sl true a0.f1.length 4 (a0.f1.flatMap e95))]), (257, [(S a2.f0), (.sl true a2.f1.length 3 (a2.f1.flatMap e89))])], [COK (hget [(256, [(I a0.f0), (.sl true a0.f1.length 4 (a0.f1.flatMap e95))]), (257, [(S a2.f0), (.sl true a2.f1.length 3 (a2.f1.flatMap e89))])]) [(.sl true a1.length 2 (a1.flatMap (e61 true))), (I x1)] ⟨24, [(.sl true a1.length 2 (a1.flatMap (e61 true))), (I x1)], [], (I x2), [], [], [], [], (I x2), []⟩], [⟨24, [(.sl true a1.length 2 (a1.flatMap (e61 true))), (I x1)], [], (I x2), [], [], [], [], (I x2), []⟩]⟩ [c_ 252, c_ 253, c_ 127] (alc (cok0 false (a2c (.z (frz_sl (e61_ok true) (fun h => h))) (a2c (.z .s) a2n)) (.z .s) (fun h => absurd h (by decide))) aln) (acal (laws_szTripS.J k a1 x1 _ hx2) nocal) ?_
    refine .reg' [1, 3, 4, 6, 9, 24] [] ⟨[(1, (.sl true a1.length 2 (a1.flatMap (e61 true)))), (3, (I a3)), (4, (.pt 256 0 2)), (6, (.pt 257 0 2)), (9, (I x2)), (24, (B (decide (x2 < 0))))], [(256, [(I a0.f0), (.sl true a0.f1.length 4 (a0.f1.flatMap e95))]), (257, [(S a2.f0), (.sl true a2.f1.length 3 (a2.f1.flatMap e89))])], [], []⟩ [c_ 253, c_ 127] aln nocal ?_
    by_cases c2 : x2 < 0
    · rw [if_pos c2] at h
      refine .cond' (.tmp 24) true [c_ 1012, c_ 1013, c_ 127] (bT (dT c2)) ?_
      refine .reg' [8] [] ⟨[(8, (B true))], [(256, [(I a0.f0), (.sl true a0.f1.length 4 (a0.f1.flatMap e95))]), (257, [(S a2.f0), (.sl true a2.f1.length 3 (a2.f1.flatMap e89))])], [], []⟩ [c_ 1013, c_ 127] aln nocal ?_
      have h := Option.some.inj h
      subst h
      exact .fin0 [] (B true) [] aln (.z .s)
    · rw [if_neg c2] at h
      refine .cond' (.tmp 24) false [c_ 254, c_ 255] (bF (dF c2)) ?_
      obtain ⟨x3, hx3, h⟩ := Option.bind_eq_some_iff.mp h
      refine .reg' [1, 3, 4, 6, 9] [.no, .no, .c ⟨39, [(.ag [(S a2.f0), (.sl true a2.f1.length 3 (a2.f1.flatMap e89))]), (I x2)], [], (I x3), [], [], [], [], (I x3), []⟩] ⟨[(1, (.sl true a1.length 2 (a1.flatMap (e61 true)))), (3, (I a3)), (4, (.pt 256 0 2)), (6, (.pt 257 0 2)), (9, (I x3))], [(256, [(I a0.f0), (.sl true a0.f1.length 4 (a0.f1.flatMap e95))]), (257, [(S a2.f0), (.sl true a2.f1.length 3 (a2.f1.flatMap e89))])], [2 = 2 ∧ 0 + 2 ≤ 2, COK (hget [(256, [(I a0.f0), (.sl true a0.f1.length 4 (a0.f1.flatMap e95))]), (257, [(S a2.f0), (.sl true a2.f1.length 3 (a2.f1.flatMap e89))])]) [(.ag [(S a2.f0), (.sl true a2.f1.length 3 (a2.f1.flatMap e89))]), (I x2)] ⟨39, [(.ag [(S a2.f0), (.sl true a2.f1.length 3 (a2.f1.flatMap e89))]), (I x2)], [], (I x3), [], [], [], [], (I x3), []⟩], [⟨39, [(.ag [(S a2.f0), (.sl true a2.f1.length 3 (a2.f1.flatMap e89))]), (I x2)], [], (I x3), [], [], [], [], (I x3), []⟩]⟩ [c_ 1020, c_ 1021, c_ 511] (alc ⟨rfl, by decide⟩ (alc (cok0 false (a2c (.z (frz_ag (a2c .s (a2c (frz_sl e89_ok (fun h => h)) a2n)))) (a2c (.z .s) a2n)) (.z .s) (fun h => absurd h (by decide))) aln)) (acal (laws_szTrip.J a2 x2 _ hx3) nocal) ?_
      refine .reg' [1, 3, 4, 6, 29] [] ⟨[(1, (.sl true a1.length 2 (a1.flatMap (e61 true)))), (3, (I a3)), (4, (.pt 256 0 2)), (6, (.pt 257 0 2)), (29, (B (decide (x3 < 0))))], [(256, [(I a0.f0), (.sl true a0.f1.length 4 (a0.f1.flatMap e95))]), (257, [(S a2.f0), (.sl true a2.f1.length 3 (a2.f1.flatMap e89))])], [], []⟩ [c_ 1021, c_ 511] aln nocal ?_
      by_cases c3 : x3 < 0
      · rw [if_pos c3] at h
        refine .cond' (.tmp 29) true [c_ 4084, c_ 4085, c_ 511] (bT (dT c3)) ?_
        refine .reg' [8] [] ⟨[(8, (B true))], [(256, [(I a0.f0), (.sl true a0.f1.length 4 (a0.f1.flatMap e95))]), (257, [(S a2.f0), (.sl true a2.f1.length 3 (a2.f1.flatMap e89))])], [], []⟩ [c_ 4085, c_ 511] aln nocal ?_
        have h := Option.some.inj h
        subst h
        exact .fin0 [] (B true) [] aln (.z .s)
      · rw [if_neg c3] at h
        refine .cond' (.tmp 29) false [c_ 1022, c_ 1023] (bF (dF c3)) ?_
        obtain ⟨x4, hx4, h⟩ := Option.bind_eq_some_iff.mp h
        obtain ⟨x5, hx5, h⟩ := Option.bind_eq_some_iff.mp h
        obtain ⟨x6, hx6, h⟩ := Option.bind_eq_some_iff.mp h
        obtain ⟨x7, hx7, h⟩ := Option.bind_eq_some_iff.mp h
        refine .reg' [1, 3, 4, 6, 10] [.no, .c ⟨26, [(.ag [(I a0.f0), (.sl true a0.f1.length 4 (a0.f1.flatMap e95))])], [], (.ag [(I x4.f0), (.rf 1001026 0 x4.f1.length 4 (x4.f1.length * 4))]), [(1001026, (x4.f1.flatMap e95))], [], [], [(1003073, 1001026)], (.ag [(I x4.f0), (.rf 1003073 0 x4.f1.length 4 (x4.f1.length * 4))]), [(1003073, (x4.f1.flatMap e95))]⟩, .no, .c ⟨27, [(.sl true a1.length 2 (a1.flatMap (e61 true)))], [], (.sl false x5.length 2 (x5.flatMap (e66 false))), [], [], [], [], (.sl false x5.length 2 (x5.flatMap (e66 false))), []⟩, .no, .c ⟨41, [(.ag [(S a2.f0), (.sl true a2.f1.length 3 (a2.f1.flatMap e89))])], [], (.ag [(S x6.f0), (.rf 1001026 0 x6.f1.length 3 (x6.f1.length * 3))]), [(1001026, (x6.f1.flatMap e89))], [], [], [(1003077, 1001026)], (.ag [(S x6.f0), (.rf 1003077 0 x6.f1.length 3 (x6.f1.length * 3))]), [(1003077, (x6.f1.flatMap e89))]⟩, .no, .c ⟨40, [(.ag [(I x4.f0), (.sl true x4.f1.length 4 (x4.f1.flatMap e95))]), (.sl false x5.length 2 (x5.flatMap (e66 false))), (.ag [(S x6.f0), (.sl true x6.f1.length 3 (x6.f1.flatMap e89))]), (I a3)], [], (I x7), [], [1003073, 1003077], [], [], (I x7), []⟩] ⟨[(1, (.sl true a1.length 2 (a1.flatMap (e61 true)))), (3, (I a3)), (4, (.pt 256 0 2)), (6, (.pt 257 0 2)), (10, (I x7))], [(256, [(I a0.f0), (.sl true a0.f1.length 4 (a0.f1.flatMap e95))]), (257, [(S a2.f0), (.sl true a2.f1.length 3 (a2.f1.flatMap e89))]), (1003073, (x4.f1.flatMap e95)), (1003077, (x6.f1.flatMap e89))], [2 = 2 ∧ 0 + 2 ≤ 2, COK (hget [(256, [(I a0.f0), (.sl true a0.f1.length 4 (a0.f1.flatMap e95))]), (257, [(S a2.f0), (.sl true a2.f1.length 3 (a2.f1.flatMap e89))])]) [(.ag [(I a0.f0), (.sl true a0.f1.length 4 (a0.f1.flatMap e95))])] ⟨26, [(.ag [(I a0.f0), (.sl true a0.f1.length 4 (a0.f1.flatMap e95))])], [], (.ag [(I x4.f0), (.rf 1001026 0 x4.f1.length 4 (x4.f1.length * 4))]), [(1001026, (x4.f1.flatMap e95))], [], [], [(1003073, 1001026)], (.ag [(I x4.f0), (.rf 1003073 0 x4.f1.length 4 (x4.f1.length * 4))]), [(1003073, (x4.f1.flatMap e95))]⟩, COK (hget [(256, [(I a0.f0), (.sl true a0.f1.length 4 (a0.f1.flatMap e95))]), (257, [(S a2.f0), (.sl true a2.f1.length 3 (a2.f1.flatMap e89))]), (1003073, (x4.f1.flatMap e95))]) [(.sl true a1.length 2 (a1.flatMap (e61 true)))] ⟨27, [(.sl true a1.length 2 (a1.flatMap (e61 true)))], [], (.sl false x5.length 2 (x5.flatMap (e66 false))), [], [], [], [], (.sl false x5.length 2 (x5.flatMap (e66 false))), []⟩, 2 = 2 ∧ 0 + 2 ≤ 2, COK (hget [(256, [(I a0.f0), (.sl true a0.f1.length 4 (a0.f1.flatMap e95))]), (257, [(S a2.f0), (.sl true a2.f1.length 3 (a2.f1.flatMap e89))]), (1003073, (x4.f1.flatMap e95))]) [(.ag [(S a2.f0), (.sl true a2.f1.length 3 (a2.f1.flatMap e89))])] ⟨41, [(.ag [(S a2.f0), (.sl true a2.f1.length 3 (a2.f1.flatMap e89))])], [], (.ag [(S x6.f0), (.rf 1001026 0 x6.f1.length 3 (x6.f1.length * 3))]), [(1001026, (x6.f1.flatMap e89))], [], [], [(1003077, 1001026)], (.ag [(S x6.f0), (.rf 1003077 0 x6.f1.length 3 (x6.f1.length * 3))]), [(1003077, (x6.f1.flatMap e89))]⟩, COK (hget [(256, [(I a0.f0), (.sl true a0.f1.length 4 (a0.f1.flatMap e95))]), (257, [(S a2.f0), (.sl true a2.f1.length 3 (a2.f1.flatMap e89))]), (1003073, (x4.f1.flatMap e95)), (1003077, (x6.f1.flatMap e89))]) [(.ag [(I x4.f0), (.rf 1003073 0 x4.f1.length 4 (x4.f1.length * 4))]), (.sl false x5.length 2 (x5.flatMap (e66 false))), (.ag [(S x6.f0), (.rf 1003077 0 x6.f1.length 3 (x6.f1.length * 3))]), (I a3)] ⟨40, [(.ag [(I x4.f0), (.sl true x4.f1.length 4 (x4.f1.flatMap e95))]), (.sl false x5.length 2 (x5.flatMap (e66 false))), (.ag [(S x6.f0), (.sl true x6.f1.length 3 (x6.f1.flatMap e89))]), (I a3)], [], (I x7), [], [1003073, 1003077], [], [], (I x7), []⟩], [⟨26, [(.ag [(I a0.f0), (.sl true a0.f1.length 4 (a0.f1.flatMap e95))])], [], (.ag [(I x4.f0), (.rf 1001026 0 x4.f1.length 4 (x4.f1.length * 4))]), [(1001026, (x4.f1.flatMap e95))], [], [], [(1003073, 1001026)], (.ag [(I x4.f0), (.rf 1003073 0 x4.f1.length 4 (x4.f1.length * 4))]), [(1003073, (x4.f1.flatMap e95))]⟩, ⟨27, [(.sl true a1.length 2 (a1.flatMap (e61 true)))], [], (.sl false x5.length 2 (x5.flatMap (e66 false))), [], [], [], [], (.sl false x5.length 2 (x5.flatMap (e66 false))), []⟩, ⟨41, [(.ag [(S a2.f0), (.sl true a2.f1.length 3 (a2.f1.flatMap e89))])], [], (.ag [(S x6.f0), (.rf 1001026 0 x6.f1.length 3 (x6.f1.length * 3))]), [(1001026, (x6.f1.flatMap e89))], [], [], [(1003077, 1001026)], (.ag [(S x6.f0), (.rf 1003077 0 x6.f1.length 3 (x6.f1.length * 3))]), [(1003077, (x6.f1.flatMap e89))]⟩, ⟨40, [(.ag [(I x4.f0), (.sl true x4.f1.length 4 (x4.f1.flatMap e95))]), (.sl false x5.length 2 (x5.flatMap (e66 false))), (.ag [(S x6.f0), (.sl true x6.f1.length 3 (x6.f1.flatMap e89))]), (I a3)], [], (I x7), [], [1003073, 1003077], [], [], (I x7), []⟩]⟩ [c_ 2046, c_ 2047] (alc ⟨rfl, by decide⟩ (alc (cokW false (a2c (.z (frz_ag (a2c .s (a2c (frz_sl e95_ok (fun h => h)) a2n)))) a2n) akn (akc (.inr rfl) akn) (bck_ag (a2c (.z .s) (a2c (.rf (memP_mem (p := (1003073, 1001026)) rfl)) a2n))) (akc ⟨_, _, rfl, rfl, rowB e95_c _⟩ akn) (fun h => absurd h (by decide))) (alc (cok0 false (a2c (.z (frz_sl (e61_ok true) (fun h => h))) a2n) (.z (clnS e66_c0 (fun h => absurd h (by decide)))) (fun h => absurd h (by decide))) (alc ⟨rfl, by decide⟩ (alc (cokW false (a2c (.z (frz_ag (a2c .s (a2c (frz_sl e89_ok (fun h => h)) a2n)))) a2n) akn (akc (.inr rfl) akn) (bck_ag (a2c (.z .s) (a2c (.rf (memP_mem (p := (1003077, 1001026)) rfl)) a2n))) (akc ⟨_, _, rfl, rfl, rowB e89_c _⟩ akn) (fun h => absurd h (by decide))) (alc (cok0 false (a2c (cnv_ag (a2c (.z .s) (a2c (.z (frz_rf (k := 1003073) e95_ok (by simp) rfl rfl (row_len e95_ok _).symm)) a2n))) (a2c (.z (frz_sl (e66_ok false) (fun h => h))) (a2c (cnv_ag (a2c (.z .s) (a2c (.z (frz_rf (k := 1003077) e89_ok (by simp) rfl rfl (row_len e89_ok _).symm)) a2n))) (a2c (.z .s) a2n)))) (.z .s) (fun h => absurd h (by decide))) aln)))))) (acal (laws_toNet.J k a0 _ hx4) (acal (.cw' [514] [] (laws_toTripS.J k a1 _ hx5) shn (.z (frz_rf (k := 514) (e66_ok false) (by simp) rfl rfl (row_len (e66_ok false) _).symm))) (acal (laws_toTrip.J k a2 _ hx6) (acal (spec_PushOf.J k x4 x5 x6 a3 _ hx7) nocal)))) ?_
        obtain ⟨x8, hx8, h⟩ := Option.bind_eq_some_iff.mp h
        refine .reg' [1, 3, 4, 6, 10, 11] [.no, .c ⟨26, [(.ag [(I a0.f0), (.sl true a0.f1.length 4 (a0.f1.flatMap e95))])], [], (.ag [(I x8.f0), (.rf 1001026 0 x8.f1.length 4 (x8.f1.length * 4))]), [(1001026, (x8.f1.flatMap e95))], [], [], [(1003329, 1001026)], (.ag [(I x8.f0), (.rf 1003329 0 x8.f1.length 4 (x8.f1.length * 4))]), [(1003329, (x8.f1.flatMap e95))]⟩] ⟨[(1, (.sl true a1.length 2 (a1.flatMap (e61 true)))), (3, (I a3)), (4, (.pt 256 0 2)), (6, (.pt 257 0 2)), (10, (I x7)), (11, (.pt 3330 0 2))], [(256, [(I a0.f0), (.sl true a0.f1.length 4 (a0.f1.flatMap e95))]), (257, [(S a2.f0), (.sl true a2.f1.length 3 (a2.f1.flatMap e89))]), (1003073, (x4.f1.flatMap e95)), (1003077, (x6.f1.flatMap e89)), (1003329, (x8.f1.flatMap e95)), (3330, [(I x8.f0), (.rf 1003329 0 x8.f1.length 4 (x8.f1.length * 4))])], [2 = 2 ∧ 0 + 2 ≤ 2, COK (hget [(256, [(I a0.f0), (.sl true a0.f1.length 4 (a0.f1.flatMap e95))]), (257, [(S a2.f0), (.sl true a2.f1.length 3 (a2.f1.flatMap e89))]), (1003073, (x4.f1.flatMap e95)), (1003077, (x6.f1.flatMap e89))]) [(.ag [(I a0.f0), (.sl true a0.f1.length 4 (a0.f1.flatMap e95))])] ⟨26, [(.ag [(I a0.f0), (.sl true a0.f1.length 4 (a0.f1.flatMap e95))])], [], (.ag [(I x8.f0), (.rf 1001026 0 x8.f1.length 4 (x8.f1.length * 4))]), [(1001026, (x8.f1.flatMap e95))], [], [], [(1003329, 1001026)], (.ag [(I x8.f0), (.rf 1003329 0 x8.f1.length 4 (x8.f1.length * 4))]), [(1003329, (x8.f1.flatMap e95))]⟩, 2 = 2 ∧ 0 + 2 ≤ 2], [⟨26, [(.ag [(I a0.f0), (.sl true a0.f1.length 4 (a0.f1.flatMap e95))])], [], (.ag [(I x8.f0), (.rf 1001026 0 x8.f1.length 4 (x8.f1.length * 4))]), [(1001026, (x8.f1.flatMap e95))], [], [], [(1003329, 1001026)], (.ag [(I x8.f0), (.rf 1003329 0 x8.f1.length 4 (x8.f1.length * 4))]), [(1003329, (x8.f1.flatMap e95))]⟩]⟩ [c_ 4094, c_ 4095] (alc ⟨rfl, by decide⟩ (alc (cokW false (a2c (.z (frz_ag (a2c .s (a2c (frz_sl e95_ok (fun h => h)) a2n)))) a2n) akn (akc (.inr rfl) akn) (bck_ag (a2c (.z .s) (a2c (.rf (memP_mem (p := (1003329, 1001026)) rfl)) a2n))) (akc ⟨_, _, rfl, rfl, rowB e95_c _⟩ akn) (fun h => absurd h (by decide))) (alc ⟨rfl, by decide⟩ aln))) (acal (laws_toNet.J k a0 _ hx8) nocal) ?_
        obtain ⟨x9, hx9, h⟩ := Option.bind_eq_some_iff.mp h
        refine .reg' [1, 3, 4, 6, 10, 11, 12] [.no, .c ⟨27, [(.sl true a1.length 2 (a1.flatMap (e61 true)))], [], (.rf 514 0 x9.length 2 (x9.length * 2)), [(514, (x9.flatMap (e66 false)))], [], [], [(1003585, 514)], (.rf 1003585 0 x9.length 2 (x9.length * 2)), [(1003585, (x9.flatMap (e66 false)))]⟩] ⟨[(1, (.sl true a1.length 2 (a1.flatMap (e61 true)))), (3, (I a3)), (4, (.pt 256 0 2)), (6, (.pt 257 0 2)), (10, (I x7)), (11, (.pt 3330 0 2)), (12, (.rf 1003585 0 x9.length 2 (x9.length * 2)))], [(256, [(I a0.f0), (.sl true a0.f1.length 4 (a0.f1.flatMap e95))]), (257, [(S a2.f0), (.sl true a2.f1.length 3 (a2.f1.flatMap e89))]), (1003073, (x4.f1.flatMap e95)), (1003077, (x6.f1.flatMap e89)), (1003329, (x8.f1.flatMap e95)), (3330, [(I x8.f0), (.rf 1003329 0 x8.f1.length 4 (x8.f1.length * 4))]), (1003585, (x9.flatMap (e66 false)))], [COK (hget [(256, [(I a0.f0), (.sl true a0.f1.length 4 (a0.f1.flatMap e95))]), (257, [(S a2.f0), (.sl true a2.f1.length 3 (a2.f1.flatMap e89))]), (1003073, (x4.f1.flatMap e95)), (1003077, (x6.f1.flatMap e89)), (1003329, (x8.f1.flatMap e95)), (3330, [(I x8.f0), (.rf 1003329 0 x8.f1.length 4 (x8.f1.length * 4))])]) [(.sl true a1.length 2 (a1.flatMap (e61 true)))] ⟨27, [(.sl true a1.length 2 (a1.flatMap (e61 true)))], [], (.rf 514 0 x9.length 2 (x9.length * 2)), [(514, (x9.flatMap (e66 false)))], [], [], [(1003585, 514)], (.rf 1003585 0 x9.length 2 (x9.length * 2)), [(1003585, (x9.flatMap (e66 false)))]⟩], [⟨27, [(.sl true a1.length 2 (a1.flatMap (e61 true)))], [], (.rf 514 0 x9.length 2 (x9.length * 2)), [(514, (x9.flatMap (e66 false)))], [], [], [(1003585, 514)], (.rf 1003585 0 x9.length 2 (x9.length * 2)), [(1003585, (x9.flatMap (e66 false)))]⟩]⟩ [c_ 8190, c_ 8191] (alc (cokW false (a2c (.z (frz_sl (e61_ok true) (fun h => h))) a2n) akn (akc (.inr rfl) akn) (.rf (memP_mem (p := (1003585, 514)) rfl)) (akc ⟨_, _, rfl, rfl, rowB e66_c0 _⟩ akn) (fun h => absurd h (by decide))) aln) (acal (laws_toTripS.J k a1 _ hx9) nocal) ?_
        obtain ⟨x10, hx10, h⟩ := Option.bind_eq_some_iff.mp h
        refine .reg' [1, 3, 4, 6, 10, 11, 12, 13] [.no, .c ⟨41, [(.ag [(S a2.f0), (.sl true a2.f1.length 3 (a2.f1.flatMap e89))])], [], (.ag [(S x10.f0), (.rf 1001026 0 x10.f1.length 3 (x10.f1.length * 3))]), [(1001026, (x10.f1.flatMap e89))], [], [], [(1003841, 1001026)], (.ag [(S x10.f0), (.rf 1003841 0 x10.f1.length 3 (x10.f1.length * 3))]), [(1003841, (x10.f1.flatMap e89))]⟩] ⟨[(1, (.sl true a1.length 2 (a1.flatMap (e61 true)))), (3, (I a3)), (4, (.pt 256 0 2)), (6, (.pt 257 0 2)), (10, (I x7)), (11, (.pt 3330 0 2)), (12, (.rf 1003585 0 x9.length 2 (x9.length * 2))), (13, (.pt 3842 0 2))], [(256, [(I a0.f0), (.sl true a0.f1.length 4 (a0.f1.flatMap e95))]), (257, [(S a2.f0), (.sl true a2.f1.length 3 (a2.f1.flatMap e89))]), (1003073, (x4.f1.flatMap e95)), (1003077, (x6.f1.flatMap e89)), (1003329, (x8.f1.flatMap e95)), (3330, [(I x8.f0), (.rf 1003329 0 x8.f1.length 4 (x8.f1.length * 4))]), (1003585, (x9.flatMap (e66 false))), (1003841, (x10.f1.flatMap e89)), (3842, [(S x10.f0), (.rf 1003841 0 x10.f1.length 3 (x10.f1.length * 3))])], [2 = 2 ∧ 0 + 2 ≤ 2, COK (hget [(256, [(I a0.f0), (.sl true a0.f1.length 4 (a0.f1.flatMap e95))]), (257, [(S a2.f0), (.sl true a2.f1.length 3 (a2.f1.flatMap e89))]), (1003073, (x4.f1.flatMap e95)), (1003077, (x6.f1.flatMap e89)), (1003329, (x8.f1.flatMap e95)), (3330, [(I x8.f0), (.rf 1003329 0 x8.f1.length 4 (x8.f1.length * 4))]), (1003585, (x9.flatMap (e66 false)))]) [(.ag [(S a2.f0), (.sl true a2.f1.length 3 (a2.f1.flatMap e89))])] ⟨41, [(.ag [(S a2.f0), (.sl true a2.f1.length 3 (a2.f1.flatMap e89))])], [], (.ag [(S x10.f0), (.rf 1001026 0 x10.f1.length 3 (x10.f1.length * 3))]), [(1001026, (x10.f1.flatMap e89))], [], [], [(1003841, 1001026)], (.ag [(S x10.f0), (.rf 1003841 0 x10.f1.length 3 (x10.f1.length * 3))]), [(1003841, (x10.f1.flatMap e89))]⟩, 2 = 2 ∧ 0 + 2 ≤ 2], [⟨41, [(.ag [(S a2.f0), (.sl true a2.f1.length 3 (a2.f1.flatMap e89))])], [], (.ag [(S x10.f0), (.rf 1001026 0 x10.f1.length 3 (x10.f1.length * 3))]), [(1001026, (x10.f1.flatMap e89))], [], [], [(1003841, 1001026)], (.ag [(S x10.f0), (.rf 1003841 0 x10.f1.length 3 (x10.f1.length * 3))]), [(1003841, (x10.f1.flatMap e89))]⟩]⟩ [c_ 16382, c_ 16383] (alc ⟨rfl, by decide⟩ (alc (cokW false (a2c (.z (frz_ag (a2c .s (a2c (frz_sl e89_ok (fun h => h)) a2n)))) a2n) akn (akc (.inr rfl) akn) (bck_ag (a2c (.z .s) (a2c (.rf (memP_mem (p := (1003841, 1001026)) rfl)) a2n))) (akc ⟨_, _, rfl, rfl, rowB e89_c _⟩ akn) (fun h => absurd h (by decide))) (alc ⟨rfl, by decide⟩ aln))) (acal (laws_toTrip.J k a2 _ hx10) nocal) ?_
        obtain ⟨x11, hx11, h⟩ := Option.bind_eq_some_iff.mp h
        refine .reg' [1, 4, 6, 10, 11, 12, 13, 14] [.no, .no, .no, .no, .c ⟨42, [(.ag [(I x8.f0), (.sl true x8.f1.length 4 (x8.f1.flatMap e95))]), (.sl true x9.length 2 (x9.flatMap (e66 true))), (.ag [(S x10.f0), (.sl true x10.f1.length 3 (x10.f1.flatMap e89))]), (I a3)], [], (I x11), [], [1003329, 1003585, 1003841], [], [], (I x11), []⟩] ⟨[(1, (.sl true a1.length 2 (a1.flatMap (e61 true)))), (4, (.pt 256 0 2)), (6, (.pt 257 0 2)), (10, (I x7)), (11, (.pt 3330 0 2)), (12, (.rf 1003585 0 x9.length 2 (x9.length * 2))), (13, (.pt 3842 0 2)), (14, (I x11))], [(256, [(I a0.f0), (.sl true a0.f1.length 4 (a0.f1.flatMap e95))]), (257, [(S a2.f0), (.sl true a2.f1.length 3 (a2.f1.flatMap e89))]), (1003073, (x4.f1.flatMap e95)), (1003077, (x6.f1.flatMap e89)), (1003329, (x8.f1.flatMap e95)), (3330, [(I x8.f0), (.rf 1003329 0 x8.f1.length 4 (x8.f1.length * 4))]), (1003585, (x9.flatMap (e66 false))), (1003841, (x10.f1.flatMap e89)), (3842, [(S x10.f0), (.rf 1003841 0 x10.f1.length 3 (x10.f1.length * 3))])], [2 = 2 ∧ 0 + 2 ≤ 2, 2 = 2 ∧ 0 + 2 ≤ 2, COK (hget [(256, [(I a0.f0), (.sl true a0.f1.length 4 (a0.f1.flatMap e95))]), (257, [(S a2.f0), (.sl true a2.f1.length 3 (a2.f1.flatMap e89))]), (1003073, (x4.f1.flatMap e95)), (1003077, (x6.f1.flatMap e89)), (1003329, (x8.f1.flatMap e95)), (3330, [(I x8.f0), (.rf 1003329 0 x8.f1.length 4 (x8.f1.length * 4))]), (1003585, (x9.flatMap (e66 false))), (1003841, (x10.f1.flatMap e89)), (3842, [(S x10.f0), (.rf 1003841 0 x10.f1.length 3 (x10.f1.length * 3))])]) [(.ag [(I x8.f0), (.rf 1003329 0 x8.f1.length 4 (x8.f1.length * 4))]), (.rf 1003585 0 x9.length 2 (x9.length * 2)), (.ag [(S x10.f0), (.rf 1003841 0 x10.f1.length 3 (x10.f1.length * 3))]), (I a3)] ⟨42, [(.ag [(I x8.f0), (.sl true x8.f1.length 4 (x8.f1.flatMap e95))]), (.sl true x9.length 2 (x9.flatMap (e66 true))), (.ag [(S x10.f0), (.sl true x10.f1.length 3 (x10.f1.flatMap e89))]), (I a3)], [], (I x11), [], [1003329, 1003585, 1003841], [], [], (I x11), []⟩], [⟨42, [(.ag [(I x8.f0), (.sl true x8.f1.length 4 (x8.f1.flatMap e95))]), (.sl true x9.length 2 (x9.flatMap (e66 true))), (.ag [(S x10.f0), (.sl true x10.f1.length 3 (x10.f1.flatMap e89))]), (I a3)], [], (I x11), [], [1003329, 1003585, 1003841], [], [], (I x11), []⟩]⟩ [c_ 65532, c_ 65533, c_ 32767] (alc ⟨rfl, by decide⟩ (alc ⟨rfl, by decide⟩ (alc (cok0 false (a2c (cnv_ag (a2c (.z .s) (a2c (.z (frz_rf (k := 1003329) e95_ok (by simp) rfl rfl (row_len e95_ok _).symm)) a2n))) (a2c (.z (frz_rfT (k := 1003585) (fun x => e66_to x) (e66_ok false) (by simp) rfl rfl (row_len (e66_ok false) _).symm)) (a2c (cnv_ag (a2c (.z .s) (a2c (.z (frz_rf (k := 1003841) e89_ok (by simp) rfl rfl (row_len e89_ok _).symm)) a2n))) (a2c (.z .s) a2n)))) (.z .s) (fun h => absurd h (by decide))) aln))) (acal (impl_PushOf.J k x8 x9 x10 a3 _ hx11) nocal) ?_
        refine .reg' [1, 4, 6, 11, 12, 13, 51] [] ⟨[(1, (.sl true a1.length 2 (a1.flatMap (e61 true)))), (4, (.pt 256 0 2)), (6, (.pt 257 0 2)), (11, (.pt 3330 0 2)), (12, (.rf 1003585 0 x9.length 2 (x9.length * 2))), (13, (.pt 3842 0 2)), (51, (B (!(x11 == x7))))], [(256, [(I a0.f0), (.sl true a0.f1.length 4 (a0.f1.flatMap e95))]), (257, [(S a2.f0), (.sl true a2.f1.length 3 (a2.f1.flatMap e89))]), (1003073, (x4.f1.flatMap e95)), (1003077, (x6.f1.flatMap e89)), (1003329, (x8.f1.flatMap e95)), (3330, [(I x8.f0), (.rf 1003329 0 x8.f1.length 4 (x8.f1.length * 4))]), (1003585, (x9.flatMap (e66 false))), (1003841, (x10.f1.flatMap e89)), (3842, [(S x10.f0), (.rf 1003841 0 x10.f1.length 3 (x10.f1.length * 3))])], [], []⟩ [c_ 65533, c_ 32767] aln nocal ?_
        by_cases c4 : x11 = x7
        · rw [if_pos c4] at h
          refine .cond' (.tmp 51) false [c_ 131068, c_ 131069, c_ 65535] (bF (nF (qT c4))) ?_
          obtain ⟨x12, hx12, h⟩ := Option.bind_eq_some_iff.mp h
          obtain ⟨x13, hx13, h⟩ := Option.bind_eq_some_iff.mp h
          refine .reg' [1, 6, 12, 13, 56] [.no, .no, .c ⟨26, [(.ag [(I a0.f0), (.sl true a0.f1.length 4 (a0.f1.flatMap e95))])], [], (.ag [(I x12.f0), (.rf 1001026 0 x12.f1.length 4 (x12.f1.length * 4))]), [(1001026, (x12.f1.flatMap e95))], [], [], [(1004866, 1001026)], (.ag [(I x12.f0), (.rf 1004866 0 x12.f1.length 4 (x12.f1.length * 4))]), [(1004866, (x12.f1.flatMap e95))]⟩, .c ⟨29, [(.ag [(I x8.f0), (.sl true x8.f1.length 4 (x8.f1.flatMap e95))]), (.ag [(I x12.f0), (.sl true x12.f1.length 4 (x12.f1.flatMap e95))])], [], (B x13), [], [1003329, 1004866], [], [], (B x13), []⟩] ⟨[(1, (.sl true a1.length 2 (a1.flatMap (e61 true)))), (6, (.pt 257 0 2)), (12, (.rf 1003585 0 x9.length 2 (x9.length * 2))), (13, (.pt 3842 0 2)), (56, (B (!x13)))], [(256, [(I a0.f0), (.sl true a0.f1.length 4 (a0.f1.flatMap e95))]), (257, [(S a2.f0), (.sl true a2.f1.length 3 (a2.f1.flatMap e89))]), (1003073, (x4.f1.flatMap e95)), (1003077, (x6.f1.flatMap e89)), (1003329, (x8.f1.flatMap e95)), (3330, [(I x8.f0), (.rf 1003329 0 x8.f1.length 4 (x8.f1.length * 4))]), (1003585, (x9.flatMap (e66 false))), (1003841, (x10.f1.flatMap e89)), (3842, [(S x10.f0), (.rf 1003841 0 x10.f1.length 3 (x10.f1.length * 3))]), (1004866, (x12.f1.flatMap e95))], [2 = 2 ∧ 0 + 2 ≤ 2, 2 = 2 ∧ 0 + 2 ≤ 2, COK (hget [(256, [(I a0.f0), (.sl true a0.f1.length 4 (a0.f1.flatMap e95))]), (257, [(S a2.f0), (.sl true a2.f1.length 3 (a2.f1.flatMap e89))]), (1003073, (x4.f1.flatMap e95)), (1003077, (x6.f1.flatMap e89)), (1003329, (x8.f1.flatMap e95)), (3330, [(I x8.f0), (.rf 1003329 0 x8.f1.length 4 (x8.f1.length * 4))]), (1003585, (x9.flatMap (e66 false))), (1003841, (x10.f1.flatMap e89)), (3842, [(S x10.f0), (.rf 1003841 0 x10.f1.length 3 (x10.f1.length * 3))])]) [(.ag [(I a0.f0), (.sl true a0.f1.length 4 (a0.f1.flatMap e95))])] ⟨26, [(.ag [(I a0.f0), (.sl true a0.f1.length 4 (a0.f1.flatMap e95))])], [], (.ag [(I x12.f0), (.rf 1001026 0 x12.f1.length 4 (x12.f1.length * 4))]), [(1001026, (x12.f1.flatMap e95))], [], [], [(1004866, 1001026)], (.ag [(I x12.f0), (.rf 1004866 0 x12.f1.length 4 (x12.f1.length * 4))]), [(1004866, (x12.f1.flatMap e95))]⟩, COK (hget [(256, [(I a0.f0), (.sl true a0.f1.length 4 (a0.f1.flatMap e95))]), (257, [(S a2.f0), (.sl true a2.f1.length 3 (a2.f1.flatMap e89))]), (1003073, (x4.f1.flatMap e95)), (1003077, (x6.f1.flatMap e89)), (1003329, (x8.f1.flatMap e95)), (3330, [(I x8.f0), (.rf 1003329 0 x8.f1.length 4 (x8.f1.length * 4))]), (1003585, (x9.flatMap (e66 false))), (1003841, (x10.f1.flatMap e89)), (3842, [(S x10.f0), (.rf 1003841 0 x10.f1.length 3 (x10.f1.length * 3))]), (1004866, (x12.f1.flatMap e95))]) [(.ag [(I x8.f0), (.rf 1003329 0 x8.f1.length 4 (x8.f1.length * 4))]), (.ag [(I x12.f0), (.rf 1004866 0 x12.f1.length 4 (x12.f1.length * 4))])] ⟨29, [(.ag [(I x8.f0), (.sl true x8.f1.length 4 (x8.f1.flatMap e95))]), (.ag [(I x12.f0), (.sl true x12.f1.length 4 (x12.f1.flatMap e95))])], [], (B x13), [], [1003329, 1004866], [], [], (B x13), []⟩], [⟨26, [(.ag [(I a0.f0), (.sl true a0.f1.length 4 (a0.f1.flatMap e95))])], [], (.ag [(I x12.f0), (.rf 1001026 0 x12.f1.length 4 (x12.f1.length * 4))]), [(1001026, (x12.f1.flatMap e95))], [], [], [(1004866, 1001026)], (.ag [(I x12.f0), (.rf 1004866 0 x12.f1.length 4 (x12.f1.length * 4))]), [(1004866, (x12.f1.flatMap e95))]⟩, ⟨29, [(.ag [(I x8.f0), (.sl true x8.f1.length 4 (x8.f1.flatMap e95))]), (.ag [(I x12.f0), (.sl true x12.f1.length 4 (x12.f1.flatMap e95))])], [], (B x13), [], [1003329, 1004866], [], [], (B x13), []⟩]⟩ [c_ 131069, c_ 65535] (alc ⟨rfl, by decide⟩ (alc ⟨rfl, by decide⟩ (alc (cokW false (a2c (.z (frz_ag (a2c .s (a2c (frz_sl e95_ok (fun h => h)) a2n)))) a2n) akn (akc (.inr rfl) akn) (bck_ag (a2c (.z .s) (a2c (.rf (memP_mem (p := (1004866, 1001026)) rfl)) a2n))) (akc ⟨_, _, rfl, rfl, rowB e95_c _⟩ akn) (fun h => absurd h (by decide))) (alc (cok0 false (a2c (cnv_ag (a2c (.z .s) (a2c (.z (frz_rf (k := 1003329) e95_ok (by simp) rfl rfl (row_len e95_ok _).symm)) a2n))) (a2c (cnv_ag (a2c (.z .s) (a2c (.z (frz_rf (k := 1004866) e95_ok (by simp) rfl rfl (row_len e95_ok _).symm)) a2n))) a2n)) (.z .s) (fun h => absurd h (by decide))) aln)))) (acal (laws_toNet.J k a0 _ hx12) (acal (laws_eqNet.J k x8 x12 _ hx13) nocal)) ?_
          by_cases c5 : x13 = true
          · rw [if_pos c5] at h
            refine .cond' (.tmp 56) false [c_ 262140, c_ 262141, c_ 131071] (bF (nF c5)) ?_
            obtain ⟨x14, hx14, h⟩ := Option.bind_eq_some_iff.mp h
            obtain ⟨x15, hx15, h⟩ := Option.bind_eq_some_iff.mp h
            refine .reg' [6, 13, 61] [.no, .no, .c ⟨27, [(.sl true a1.length 2 (a1.flatMap (e61 true)))], [], (.rf 514 0 x14.length 2 (x14.length * 2)), [(514, (x14.flatMap (e66 false)))], [], [], [(1005378, 514)], (.rf 1005378 0 x14.length 2 (x14.length * 2)), [(1005378, (x14.flatMap (e66 false)))]⟩, .c ⟨30, [(.sl true x9.length 2 (x9.flatMap (e66 true))), (.sl true x14.length 2 (x14.flatMap (e66 true)))], [], (B x15), [], [1003585, 1005378], [], [], (B x15), []⟩] ⟨[(6, (.pt 257 0 2)), (13, (.pt 3842 0 2)), (61, (B (!x15)))], [(256, [(I a0.f0), (.sl true a0.f1.length 4 (a0.f1.flatMap e95))]), (257, [(S a2.f0), (.sl true a2.f1.length 3 (a2.f1.flatMap e89))]), (1003073, (x4.f1.flatMap e95)), (1003077, (x6.f1.flatMap e89)), (1003329, (x8.f1.flatMap e95)), (3330, [(I x8.f0), (.rf 1003329 0 x8.f1.length 4 (x8.f1.length * 4))]), (1003585, (x9.flatMap (e66 false))), (1003841, (x10.f1.flatMap e89)), (3842, [(S x10.f0), (.rf 1003841 0 x10.f1.length 3 (x10.f1.length * 3))]), (1004866, (x12.f1.flatMap e95)), (1005378, (x14.flatMap (e66 false)))], [COK (hget [(256, [(I a0.f0), (.sl true a0.f1.length 4 (a0.f1.flatMap e95))]), (257, [(S a2.f0), (.sl true a2.f1.length 3 (a2.f1.flatMap e89))]), (1003073, (x4.f1.flatMap e95)), (1003077, (x6.f1.flatMap e89)), (1003329, (x8.f1.flatMap e95)), (3330, [(I x8.f0), (.rf 1003329 0 x8.f1.length 4 (x8.f1.length * 4))]), (1003585, (x9.flatMap (e66 false))), (1003841, (x10.f1.flatMap e89)), (3842, [(S x10.f0), (.rf 1003841 0 x10.f1.length 3 (x10.f1.length * 3))]), (1004866, (x12.f1.flatMap e95))]) [(.sl true a1.length 2 (a1.flatMap (e61 true)))] ⟨27, [(.sl true a1.length 2 (a1.flatMap (e61 true)))], [], (.rf 514 0 x14.length 2 (x14.length * 2)), [(514, (x14.flatMap (e66 false)))], [], [], [(1005378, 514)], (.rf 1005378 0 x14.length 2 (x14.length * 2)), [(1005378, (x14.flatMap (e66 false)))]⟩, COK (hget [(256, [(I a0.f0), (.sl true a0.f1.length 4 (a0.f1.flatMap e95))]), (257, [(S a2.f0), (.sl true a2.f1.length 3 (a2.f1.flatMap e89))]), (1003073, (x4.f1.flatMap e95)), (1003077, (x6.f1.flatMap e89)), (1003329, (x8.f1.flatMap e95)), (3330, [(I x8.f0), (.rf 1003329 0 x8.f1.length 4 (x8.f1.length * 4))]), (1003585, (x9.flatMap (e66 false))), (1003841, (x10.f1.flatMap e89)), (3842, [(S x10.f0), (.rf 1003841 0 x10.f1.length 3 (x10.f1.length * 3))]), (1004866, (x12.f1.flatMap e95)), (1005378, (x14.flatMap (e66 false)))]) [(.rf 1003585 0 x9.length 2 (x9.length * 2)), (.rf 1005378 0 x14.length 2 (x14.length * 2))] ⟨30, [(.sl true x9.length 2 (x9.flatMap (e66 true))), (.sl true x14.length 2 (x14.flatMap (e66 true)))], [], (B x15), [], [1003585, 1005378], [], [], (B x15), []⟩], [⟨27, [(.sl true a1.length 2 (a1.flatMap (e61 true)))], [], (.rf 514 0 x14.length 2 (x14.length * 2)), [(514, (x14.flatMap (e66 false)))], [], [], [(1005378, 514)], (.rf 1005378 0 x14.length 2 (x14.length * 2)), [(1005378, (x14.flatMap (e66 false)))]⟩, ⟨30, [(.sl true x9.length 2 (x9.flatMap (e66 true))), (.sl true x14.length 2 (x14.flatMap (e66 true)))], [], (B x15), [], [1003585, 1005378], [], [], (B x15), []⟩]⟩ [c_ 262141, c_ 131071] (alc (cokW false (a2c (.z (frz_sl (e61_ok true) (fun h => h))) a2n) akn (akc (.inr rfl) akn) (.rf (memP_mem (p := (1005378, 514)) rfl)) (akc ⟨_, _, rfl, rfl, rowB e66_c0 _⟩ akn) (fun h => absurd h (by decide))) (alc (cok0 false (a2c (.z (frz_rfT (k := 1003585) (fun x => e66_to x) (e66_ok false) (by simp) rfl rfl (row_len (e66_ok false) _).symm)) (a2c (.z (frz_rfT (k := 1005378) (fun x => e66_to x) (e66_ok false) (by simp) rfl rfl (row_len (e66_ok false) _).symm)) a2n)) (.z .s) (fun h => absurd h (by decide))) aln)) (acal (laws_toTripS.J k a1 _ hx14) (acal (laws_eqTripS.J k x9 x14 _ hx15) nocal)) ?_
            by_cases c6 : x15 = true
            · rw [if_pos c6] at h
              refine .cond' (.tmp 61) false [c_ 524284, c_ 524285, c_ 262143] (bF (nF c6)) ?_
              obtain ⟨x16, hx16, h⟩ := Option.bind_eq_some_iff.mp h
              obtain ⟨x17, hx17, h⟩ := Option.bind_eq_some_iff.mp h
              refine .reg' [66] [.no, .no, .c ⟨41, [(.ag [(S a2.f0), (.sl true a2.f1.length 3 (a2.f1.flatMap e89))])], [], (.ag [(S x16.f0), (.rf 1001026 0 x16.f1.length 3 (x16.f1.length * 3))]), [(1001026, (x16.f1.flatMap e89))], [], [], [(1005890, 1001026)], (.ag [(S x16.f0), (.rf 1005890 0 x16.f1.length 3 (x16.f1.length * 3))]), [(1005890, (x16.f1.flatMap e89))]⟩, .c ⟨43, [(.ag [(S x10.f0), (.sl true x10.f1.length 3 (x10.f1.flatMap e89))]), (.ag [(S x16.f0), (.sl true x16.f1.length 3 (x16.f1.flatMap e89))])], [], (B x17), [], [1003841, 1005890], [], [], (B x17), []⟩] ⟨[(66, (B (!x17)))], [(256, [(I a0.f0), (.sl true a0.f1.length 4 (a0.f1.flatMap e95))]), (257, [(S a2.f0), (.sl true a2.f1.length 3 (a2.f1.flatMap e89))]), (1003073, (x4.f1.flatMap e95)), (1003077, (x6.f1.flatMap e89)), (1003329, (x8.f1.flatMap e95)), (3330, [(I x8.f0), (.rf 1003329 0 x8.f1.length 4 (x8.f1.length * 4))]), (1003585, (x9.flatMap (e66 false))), (1003841, (x10.f1.flatMap e89)), (3842, [(S x10.f0), (.rf 1003841 0 x10.f1.length 3 (x10.f1.length * 3))]), (1004866, (x12.f1.flatMap e95)), (1005378, (x14.flatMap (e66 false))), (1005890, (x16.f1.flatMap e89))], [2 = 2 ∧ 0 + 2 ≤ 2, 2 = 2 ∧ 0 + 2 ≤ 2, COK (hget [(256, [(I a0.f0), (.sl true a0.f1.length 4 (a0.f1.flatMap e95))]), (257, [(S a2.f0), (.sl true a2.f1.length 3 (a2.f1.flatMap e89))]), (1003073, (x4.f1.flatMap e95)), (1003077, (x6.f1.flatMap e89)), (1003329, (x8.f1.flatMap e95)), (3330, [(I x8.f0), (.rf 1003329 0 x8.f1.length 4 (x8.f1.length * 4))]), (1003585, (x9.flatMap (e66 false))), (1003841, (x10.f1.flatMap e89)), (3842, [(S x10.f0), (.rf 1003841 0 x10.f1.length 3 (x10.f1.length * 3))]), (1004866, (x12.f1.flatMap e95)), (1005378, (x14.flatMap (e66 false)))]) [(.ag [(S a2.f0), (.sl true a2.f1.length 3 (a2.f1.flatMap e89))])] ⟨41, [(.ag [(S a2.f0), (.sl true a2.f1.length 3 (a2.f1.flatMap e89))])], [], (.ag [(S x16.f0), (.rf 1001026 0 x16.f1.length 3 (x16.f1.length * 3))]), [(1001026, (x16.f1.flatMap e89))], [], [], [(1005890, 1001026)], (.ag [(S x16.f0), (.rf 1005890 0 x16.f1.length 3 (x16.f1.length * 3))]), [(1005890, (x16.f1.flatMap e89))]⟩, COK (hget [(256, [(I a0.f0), (.sl true a0.f1.length 4 (a0.f1.flatMap e95))]), (257, [(S a2.f0), (.sl true a2.f1.length 3 (a2.f1.flatMap e89))]), (1003073, (x4.f1.flatMap e95)), (1003077, (x6.f1.flatMap e89)), (1003329, (x8.f1.flatMap e95)), (3330, [(I x8.f0), (.rf 1003329 0 x8.f1.length 4 (x8.f1.length * 4))]), (1003585, (x9.flatMap (e66 false))), (1003841, (x10.f1.flatMap e89)), (3842, [(S x10.f0), (.rf 1003841 0 x10.f1.length 3 (x10.f1.length * 3))]), (1004866, (x12.f1.flatMap e95)), (1005378, (x14.flatMap (e66 false))), (1005890, (x16.f1.flatMap e89))]) [(.ag [(S x10.f0), (.rf 1003841 0 x10.f1.length 3 (x10.f1.length * 3))]), (.ag [(S x16.f0), (.rf 1005890 0 x16.f1.length 3 (x16.f1.length * 3))])] ⟨43, [(.ag [(S x10.f0), (.sl true x10.f1.length 3 (x10.f1.flatMap e89))]), (.ag [(S x16.f0), (.sl true x16.f1.length 3 (x16.f1.flatMap e89))])], [], (B x17), [], [1003841, 1005890], [], [], (B x17), []⟩], [⟨41, [(.ag [(S a2.f0), (.sl true a2.f1.length 3 (a2.f1.flatMap e89))])], [], (.ag [(S x16.f0), (.rf 1001026 0 x16.f1.length 3 (x16.f1.length * 3))]), [(1001026, (x16.f1.flatMap e89))], [], [], [(1005890, 1001026)], (.ag [(S x16.f0), (.rf 1005890 0 x16.f1.length 3 (x16.f1.length * 3))]), [(1005890, (x16.f1.flatMap e89))]⟩, ⟨43, [(.ag [(S x10.f0), (.sl true x10.f1.length 3 (x10.f1.flatMap e89))]), (.ag [(S x16.f0), (.sl true x16.f1.length 3 (x16.f1.flatMap e89))])], [], (B x17), [], [1003841, 1005890], [], [], (B x17), []⟩]⟩ [c_ 524285, c_ 262143] (alc ⟨rfl, by decide⟩ (alc ⟨rfl, by decide⟩ (alc (cokW false (a2c (.z (frz_ag (a2c .s (a2c (frz_sl e89_ok (fun h => h)) a2n)))) a2n) akn (akc (.inr rfl) akn) (bck_ag (a2c (.z .s) (a2c (.rf (memP_mem (p := (1005890, 1001026)) rfl)) a2n))) (akc ⟨_, _, rfl, rfl, rowB e89_c _⟩ akn) (fun h => absurd h (by decide))) (alc (cok0 false (a2c (cnv_ag (a2c (.z .s) (a2c (.z (frz_rf (k := 1003841) e89_ok (by simp) rfl rfl (row_len e89_ok _).symm)) a2n))) (a2c (cnv_ag (a2c (.z .s) (a2c (.z (frz_rf (k := 1005890) e89_ok (by simp) rfl rfl (row_len e89_ok _).symm)) a2n))) a2n)) (.z .s) (fun h => absurd h (by decide))) aln)))) (acal (laws_toTrip.J k a2 _ hx16) (acal (laws_eqTrip.J k x10 x16 _ hx17) nocal)) ?_
              by_cases c7 : x17 = true
              · rw [if_pos c7] at h
                refine .cond' (.tmp 66) false [c_ 524286, c_ 524287] (bF (nF c7)) ?_
                refine .reg' [8] [] ⟨[(8, (B true))], [(256, [(I a0.f0), (.sl true a0.f1.length 4 (a0.f1.flatMap e95))]), (257, [(S a2.f0), (.sl true a2.f1.length 3 (a2.f1.flatMap e89))]), (1003073, (x4.f1.flatMap e95)), (1003077, (x6.f1.flatMap e89)), (1003329, (x8.f1.flatMap e95)), (3330, [(I x8.f0), (.rf 1003329 0 x8.f1.length 4 (x8.f1.length * 4))]), (1003585, (x9.flatMap (e66 false))), (1003841, (x10.f1.flatMap e89)), (3842, [(S x10.f0), (.rf 1003841 0 x10.f1.length 3 (x10.f1.length * 3))]), (1004866, (x12.f1.flatMap e95)), (1005378, (x14.flatMap (e66 false))), (1005890, (x16.f1.flatMap e89))], [], []⟩ [c_ 524287] aln nocal ?_
                have h := Option.some.inj h
                subst h
                exact .fin0 [] (B true) [] aln (.z .s)
              · rw [if_neg c7] at h
                refine .cond' (.tmp 66) true [c_ 2097140, c_ 2097141, c_ 262143] (bT (nT (vF c7))) ?_
                refine .reg' [8] [] ⟨[(8, (B false))], [(256, [(I a0.f0), (.sl true a0.f1.length 4 (a0.f1.flatMap e95))]), (257, [(S a2.f0), (.sl true a2.f1.length 3 (a2.f1.flatMap e89))]), (1003073, (x4.f1.flatMap e95)), (1003077, (x6.f1.flatMap e89)), (1003329, (x8.f1.flatMap e95)), (3330, [(I x8.f0), (.rf 1003329 0 x8.f1.length 4 (x8.f1.length * 4))]), (1003585, (x9.flatMap (e66 false))), (1003841, (x10.f1.flatMap e89)), (3842, [(S x10.f0), (.rf 1003841 0 x10.f1.length 3 (x10.f1.length * 3))]), (1004866, (x12.f1.flatMap e95)), (1005378, (x14.flatMap (e66 false))), (1005890, (x16.f1.flatMap e89))], [], []⟩ [c_ 2097141, c_ 262143] aln nocal ?_
                have h := Option.some.inj h
                subst h
                exact .fin0 [] (B false) [] aln (.z .s)
            · rw [if_neg c6] at h
              refine .cond' (.tmp 61) true [c_ 1048564, c_ 1048565, c_ 131071] (bT (nT (vF c6))) ?_
              refine .reg' [8] [] ⟨[(8, (B false))], [(256, [(I a0.f0), (.sl true a0.f1.length 4 (a0.f1.flatMap e95))]), (257, [(S a2.f0), (.sl true a2.f1.length 3 (a2.f1.flatMap e89))]), (1003073, (x4.f1.flatMap e95)), (1003077, (x6.f1.flatMap e89)), (1003329, (x8.f1.flatMap e95)), (3330, [(I x8.f0), (.rf 1003329 0 x8.f1.length 4 (x8.f1.length * 4))]), (1003585, (x9.flatMap (e66 false))), (1003841, (x10.f1.flatMap e89)), (3842, [(S x10.f0), (.rf 1003841 0 x10.f1.length 3 (x10.f1.length * 3))]), (1004866, (x12.f1.flatMap e95)), (1005378, (x14.flatMap (e66 false)))], [], []⟩ [c_ 1048565, c_ 131071] aln nocal ?_
              have h := Option.some.inj h
              subst h
              exact .fin0 [] (B false) [] aln (.z .s)
          · rw [if_neg c5] at h
            refine .cond' (.tmp 56) true [c_ 524276, c_ 524277, c_ 65535] (bT (nT (vF c5))) ?_
            refine .reg' [8] [] ⟨[(8, (B false))], [(256, [(I a0.f0), (.sl true a0.f1.length 4 (a0.f1.flatMap e95))]), (257, [(S a2.f0), (.sl true a2.f1.length 3 (a2.f1.flatMap e89))]), (1003073, (x4.f1.flatMap e95)), (1003077, (x6.f1.flatMap e89)), (1003329, (x8.f1.flatMap e95)), (3330, [(I x8.f0), (.rf 1003329 0 x8.f1.length 4 (x8.f1.length * 4))]), (1003585, (x9.flatMap (e66 false))), (1003841, (x10.f1.flatMap e89)), (3842, [(S x10.f0), (.rf 1003841 0 x10.f1.length 3 (x10.f1.length * 3))]), (1004866, (x12.f1.flatMap e95))], [], []⟩ [c_ 524277, c_ 65535] aln nocal ?_
            have h := Option.some.inj h
            subst h
            exact .fin0 [] (B false) [] aln (.z .s)
        · rw [if_neg c4] at h
          refine .cond' (.tmp 51) true [c_ 262132, c_ 262133, c_ 32767] (bT (nT (qF c4))) ?_
          refine .reg' [8] [] ⟨[(8, (B false))], [(256, [(I a0.f0), (.sl true a0.f1.length 4 (a0.f1.flatMap e95))]), (257, [(S a2.f0), (.sl true a2.f1.length 3 (a2.f1.flatMap e89))]), (1003073, (x4.f1.flatMap e95)), (1003077, (x6.f1.flatMap e89)), (1003329, (x8.f1.flatMap e95)), (3330, [(I x8.f0), (.rf 1003329 0 x8.f1.length 4 (x8.f1.length * 4))]), (1003585, (x9.flatMap (e66 false))), (1003841, (x10.f1.flatMap e89)), (3842, [(S x10.f0), (.rf 1003841 0 x10.f1.length 3 (x10.f1.length * 3))])], [], []⟩ [c_ 262133, c_ 32767] aln nocal ?_
          have h := Option.some.inj h
          subst h
          exact .fin0 [] (B false) [] aln (.z .s)
end Go.Proofs.Ytebgaiokpncacaa.Fns
