/- The functions that the law FnExactChain reaches, by the engine. Printed by a program of this seat. -/
import Derived.Test.YtomkglmlhoaniaaE5
import Derived.Test.YtomkglmlhoaniaaProg
import Derived.Test.YtomkglmlhoaniaaFFnExactChainx3
namespace Go.Proofs.Ytomkglmlhoaniaa.Fns
open Go.Proofs.Try Go.Proofs.Ytomkglmlhoaniaa.Eng Go.RowKit
set_option maxRecDepth 100000
set_option linter.unusedVariables false
set_option linter.unusedSimpArgs false
theorem laws_eqIntS.lab : ∀ k, (∀ (a0 : (List Int)) (a1 : (List Int)) (x1 : Int) (r : Bool), laws_eqIntS.l0 k a0 a1 x1 = some r → J prog (.run 23 [] [l_ 58, b_ 0, c_ 15] [(0, (.sl true a0.length 1 (a0.flatMap encI))), (1, (.sl true a1.length 1 (a1.flatMap encI))), (5, (I x1))] [] (B r) []))
 | 0 => (by intro a0 a1 x1 r h; unfold laws_eqIntS.l0 at h; cases h)
 | k + 1 => by
  have ih := laws_eqIntS.lab k
  have ih0 := ih
  · intro a0 a1 x1 r h
    unfold laws_eqIntS.l0 at h
    refine .loop' [c_ 464, c_ 465, c_ 233, l_ 58, b_ 0, c_ 15] ?_
    refine .reg' [0, 1, 5, 14] [] ⟨[(0, (.sl true a0.length 1 (a0.flatMap encI))), (1, (.sl true a1.length 1 (a1.flatMap encI))), (5, (I x1)), (14, (B (decide (x1 < (a0.length : Int)))))], [], [], []⟩ [c_ 465, c_ 233, l_ 58, b_ 0, c_ 15] aln nocal ?_
    by_cases c2 : x1 < (a0.length : Int)
    · rw [if_pos c2] at h
      refine .cond' (.tmp 14) true [c_ 1864, c_ 1865, b_ 1, c_ 467, l_ 58, b_ 0, c_ 15] (bT (dT c2)) ?_
      by_cases c3 : 0 ≤ x1
      · rw [if_pos c3] at h
        by_cases c4 : x1 < (a1.length : Int)
        · rw [if_pos c4] at h
          refine .reg' [0, 1, 5, 25] [.no, .no, .no, .v (I (at_ a0 x1)), .no, .no, .no, .v (I (at_ a1 x1))] ⟨[(0, (.sl true a0.length 1 (a0.flatMap encI))), (1, (.sl true a1.length 1 (a1.flatMap encI))), (5, (I x1)), (25, (B (!((at_ a0 x1) == (at_ a1 x1)))))], [], [(0 : Int) ≤ x1 ∧ x1 < (a0.length : Int), rdC prog 3 ((a0.flatMap encI).drop (x1.toNat * 1)) = (I (at_ a0 x1)), 1 ≤ ((a0.flatMap encI).drop (x1.toNat * 1)).length, (0 : Int) ≤ x1 ∧ x1 < (a1.length : Int), rdC prog 3 ((a1.flatMap encI).drop (x1.toNat * 1)) = (I (at_ a1 x1)), 1 ≤ ((a1.flatMap encI).drop (x1.toNat * 1)).length], []⟩ [c_ 1865, b_ 1, c_ 467, l_ 58, b_ 0, c_ 15] (alc ⟨c3, c2⟩ (alc (ldC1 encI_ok rfl c3 c2) (alc (okI encI_ok c3 c2 (by decide)) (alc ⟨c3, c4⟩ (alc (ldC1 encI_ok rfl c3 c4) (alc (okI encI_ok c3 c4 (by decide)) aln)))))) nocal ?_
          by_cases c5 : (at_ a0 x1) = (at_ a1 x1)
          · rw [if_pos c5] at h
            refine .cond' (.tmp 25) false [c_ 467, l_ 58, b_ 0, c_ 15] (bF (nF (qT c5))) ?_
            refine .reg' [0, 1, 5] [] ⟨[(0, (.sl true a0.length 1 (a0.flatMap encI))), (1, (.sl true a1.length 1 (a1.flatMap encI))), (5, (I (wrap64 (x1 + 1))))], [], [], []⟩ [l_ 58, b_ 0, c_ 15] aln nocal ?_
            exact ih0 a0 a1 (wrap64 (x1 + 1)) _ h
          · rw [if_neg c5] at h
            refine .cond' (.tmp 25) true [c_ 7460, c_ 7461, b_ 1, c_ 467, l_ 58, b_ 0, c_ 15] (bT (nT (qF c5))) ?_
            refine .reg' [4] [] ⟨[(4, (B false))], [], [], []⟩ [c_ 7461, b_ 1, c_ 467, l_ 58, b_ 0, c_ 15] aln nocal ?_
            have h := Option.some.inj h
            subst h
            exact .fin0 [] (B false) [] aln (.z .s)
        · rw [if_neg c4] at h
          cases h
      · rw [if_neg c3] at h
        cases h
    · rw [if_neg c2] at h
      refine .cond' (.tmp 14) false [c_ 30, c_ 31] (bF (dF c2)) ?_
      refine .reg' [4] [] ⟨[(4, (B true))], [], [], []⟩ [c_ 31] aln nocal ?_
      have h := Option.some.inj h
      subst h
      exact .fin0 [] (B true) [] aln (.z .s)
theorem laws_eqIntS.J (k : Nat) (a0 : (List Int)) (a1 : (List Int)) (r : Bool) (h : laws_eqIntS.f k a0 a1 = some r) : J prog (.call 23 [(.sl true a0.length 1 (a0.flatMap encI)), (.sl true a1.length 1 (a1.flatMap encI))] [] (B r) []) := by
  unfold laws_eqIntS.f at h
  have ih0 := laws_eqIntS.lab k
  refine .call' [c_ 2, c_ 3] ?_
  refine .reg' [0, 1] [] ⟨[(0, (.sl true a0.length 1 (a0.flatMap encI))), (1, (.sl true a1.length 1 (a1.flatMap encI)))], [], [], []⟩ [c_ 12, c_ 13, c_ 7] aln nocal ?_
  refine .reg' [0, 1, 10] [] ⟨[(0, (.sl true a0.length 1 (a0.flatMap encI))), (1, (.sl true a1.length 1 (a1.flatMap encI))), (10, (B (!((a0.length : Int) == (a1.length : Int)))))], [], [], []⟩ [c_ 13, c_ 7] aln nocal ?_
  by_cases c1 : (a0.length : Int) = (a1.length : Int)
  · rw [if_pos c1] at h
    refine .cond' (.tmp 10) false [c_ 28, c_ 29, c_ 15] (bF (nF (qT c1))) ?_
    refine .reg' [0, 1, 5] [] ⟨[(0, (.sl true a0.length 1 (a0.flatMap encI))), (1, (.sl true a1.length 1 (a1.flatMap encI))), (5, (I 0))], [], [], []⟩ [l_ 58, b_ 0, c_ 15] aln nocal ?_
    exact ih0 a0 a1 0 _ h
  · rw [if_neg c1] at h
    refine .cond' (.tmp 10) true [c_ 52, c_ 53, c_ 7] (bT (nT (qF c1))) ?_
    refine .reg' [4] [] ⟨[(4, (B false))], [], [], []⟩ [c_ 53, c_ 7] aln nocal ?_
    have h := Option.some.inj h
    subst h
    exact .fin0 [] (B false) [] aln (.z .s)
/-! laws_eqLink: function 59 -/
def laws_eqLink.f (a0 : S52) (a1 : S52) : Option Bool := (if a0.f0 = a1.f0 then (if a0.f1 = a1.f1 then (if a0.f2 = a1.f2 then (if a0.f3 = a1.f3 then (some true) else (some false)) else (some false)) else (some false)) else (some false))
theorem laws_eqLink.J (a0 : S52) (a1 : S52) (r : Bool) (h : laws_eqLink.f a0 a1 = some r) : J prog (.call 59 [(.ag [(I a0.f0), (I a0.f1), (I a0.f2), (I a0.f3)]), (.ag [(I a1.f0), (I a1.f1), (I a1.f2), (I a1.f3)])] [] (B r) []) := by
  unfold laws_eqLink.f at h
  refine .call' [c_ 2, c_ 3] ?_
  refine .reg' [2, 3] [] ⟨[(2, (.pt 256 0 4)), (3, (.pt 257 0 4))], [(256, [(I a0.f0), (I a0.f1), (I a0.f2), (I a0.f3)]), (257, [(I a1.f0), (I a1.f1), (I a1.f2), (I a1.f3)])], [], []⟩ [c_ 12, c_ 13, c_ 7] aln nocal ?_
  refine .reg' [2, 3, 9] [] ⟨[(2, (.pt 256 0 4)), (3, (.pt 257 0 4)), (9, (B (!(a0.f0 == a1.f0))))], [(256, [(I a0.f0), (I a0.f1), (I a0.f2), (I a0.f3)]), (257, [(I a1.f0), (I a1.f1), (I a1.f2), (I a1.f3)])], [4 = 4 ∧ 0 + 1 ≤ 4, 4 = 4 ∧ 0 + 1 ≤ 4], []⟩ [c_ 13, c_ 7] (alc ⟨rfl, by decide⟩ (alc ⟨rfl, by decide⟩ aln)) nocal ?_
  by_cases c1 : a0.f0 = a1.f0
  · rw [if_pos c1] at h
    refine .cond' (.tmp 9) false [c_ 28, c_ 29, c_ 15] (bF (nF (qT c1))) ?_
    refine .reg' [2, 3, 14] [] ⟨[(2, (.pt 256 0 4)), (3, (.pt 257 0 4)), (14, (B (!(a0.f1 == a1.f1))))], [(256, [(I a0.f0), (I a0.f1), (I a0.f2), (I a0.f3)]), (257, [(I a1.f0), (I a1.f1), (I a1.f2), (I a1.f3)])], [4 = 4 ∧ 1 + 1 ≤ 4, 4 = 4 ∧ 1 + 1 ≤ 4], []⟩ [c_ 29, c_ 15] (alc ⟨rfl, by decide⟩ (alc ⟨rfl, by decide⟩ aln)) nocal ?_
    by_cases c2 : a0.f1 = a1.f1
    · rw [if_pos c2] at h
      refine .cond' (.tmp 14) false [c_ 60, c_ 61, c_ 31] (bF (nF (qT c2))) ?_
      refine .reg' [2, 3, 19] [] ⟨[(2, (.pt 256 0 4)), (3, (.pt 257 0 4)), (19, (B (!(a0.f2 == a1.f2))))], [(256, [(I a0.f0), (I a0.f1), (I a0.f2), (I a0.f3)]), (257, [(I a1.f0), (I a1.f1), (I a1.f2), (I a1.f3)])], [4 = 4 ∧ 2 + 1 ≤ 4, 4 = 4 ∧ 2 + 1 ≤ 4], []⟩ [c_ 61, c_ 31] (alc ⟨rfl, by decide⟩ (alc ⟨rfl, by decide⟩ aln)) nocal ?_
      by_cases c3 : a0.f2 = a1.f2
      · rw [if_pos c3] at h
        refine .cond' (.tmp 19) false [c_ 124, c_ 125, c_ 63] (bF (nF (qT c3))) ?_
        refine .reg' [24] [] ⟨[(24, (B (!(a0.f3 == a1.f3))))], [(256, [(I a0.f0), (I a0.f1), (I a0.f2), (I a0.f3)]), (257, [(I a1.f0), (I a1.f1), (I a1.f2), (I a1.f3)])], [4 = 4 ∧ 3 + 1 ≤ 4, 4 = 4 ∧ 3 + 1 ≤ 4], []⟩ [c_ 125, c_ 63] (alc ⟨rfl, by decide⟩ (alc ⟨rfl, by decide⟩ aln)) nocal ?_
        by_cases c4 : a0.f3 = a1.f3
        · rw [if_pos c4] at h
          refine .cond' (.tmp 24) false [c_ 126, c_ 127] (bF (nF (qT c4))) ?_
          refine .reg' [4] [] ⟨[(4, (B true))], [(256, [(I a0.f0), (I a0.f1), (I a0.f2), (I a0.f3)]), (257, [(I a1.f0), (I a1.f1), (I a1.f2), (I a1.f3)])], [], []⟩ [c_ 127] aln nocal ?_
          have h := Option.some.inj h
          subst h
          exact .fin0 [] (B true) [] aln (.z .s)
        · rw [if_neg c4] at h
          refine .cond' (.tmp 24) true [c_ 500, c_ 501, c_ 63] (bT (nT (qF c4))) ?_
          refine .reg' [4] [] ⟨[(4, (B false))], [(256, [(I a0.f0), (I a0.f1), (I a0.f2), (I a0.f3)]), (257, [(I a1.f0), (I a1.f1), (I a1.f2), (I a1.f3)])], [], []⟩ [c_ 501, c_ 63] aln nocal ?_
          have h := Option.some.inj h
          subst h
          exact .fin0 [] (B false) [] aln (.z .s)
      · rw [if_neg c3] at h
        refine .cond' (.tmp 19) true [c_ 244, c_ 245, c_ 31] (bT (nT (qF c3))) ?_
        refine .reg' [4] [] ⟨[(4, (B false))], [(256, [(I a0.f0), (I a0.f1), (I a0.f2), (I a0.f3)]), (257, [(I a1.f0), (I a1.f1), (I a1.f2), (I a1.f3)])], [], []⟩ [c_ 245, c_ 31] aln nocal ?_
        have h := Option.some.inj h
        subst h
        exact .fin0 [] (B false) [] aln (.z .s)
    · rw [if_neg c2] at h
      refine .cond' (.tmp 14) true [c_ 116, c_ 117, c_ 15] (bT (nT (qF c2))) ?_
      refine .reg' [4] [] ⟨[(4, (B false))], [(256, [(I a0.f0), (I a0.f1), (I a0.f2), (I a0.f3)]), (257, [(I a1.f0), (I a1.f1), (I a1.f2), (I a1.f3)])], [], []⟩ [c_ 117, c_ 15] aln nocal ?_
      have h := Option.some.inj h
      subst h
      exact .fin0 [] (B false) [] aln (.z .s)
  · rw [if_neg c1] at h
    refine .cond' (.tmp 9) true [c_ 52, c_ 53, c_ 7] (bT (nT (qF c1))) ?_
    refine .reg' [4] [] ⟨[(4, (B false))], [(256, [(I a0.f0), (I a0.f1), (I a0.f2), (I a0.f3)]), (257, [(I a1.f0), (I a1.f1), (I a1.f2), (I a1.f3)])], [], []⟩ [c_ 53, c_ 7] aln nocal ?_
    have h := Option.some.inj h
    subst h
    exact .fin0 [] (B false) [] aln (.z .s)
/-! laws_eqLinkS: function 48 -/
def laws_eqLinkS.l0 : Nat → (List S52) → (List S52) → Int → Option Bool
 | 0, _, _, _ => none
 | k + 1, a0, a1, x1 => (if x1 < (a0.length : Int) then (if 0 ≤ x1 then (if x1 < (a1.length : Int) then ((laws_eqLink.f (at_ a0 x1) (at_ a1 x1)).bind fun x2 => (if x2 = true then (laws_eqLinkS.l0 k a0 a1 (wrap64 (x1 + 1))) else (some false))) else none) else none) else (some true))
def laws_eqLinkS.f (k : Nat) (a0 : (List S52)) (a1 : (List S52)) : Option Bool := (if (a0.length : Int) = (a1.length : Int) then (laws_eqLinkS.l0 k a0 a1 0) else (some false))
theorem laws_eqLinkS.lab : ∀ k, (∀ (a0 : (List S52)) (a1 : (List S52)) (x1 : Int) (r : Bool), laws_eqLinkS.l0 k a0 a1 x1 = some r → J prog (.run 48 [] [l_ 58, b_ 0, c_ 15] [(0, (.sl true a0.length 4 (a0.flatMap e52))), (1, (.sl true a1.length 4 (a1.flatMap e52))), (5, (I x1))] [] (B r) []))
 | 0 => (by intro a0 a1 x1 r h; unfold laws_eqLinkS.l0 at h; cases h)
 | k + 1 => by
  have ih := laws_eqLinkS.lab k
  have ih0 := ih
  · intro a0 a1 x1 r h
    unfold laws_eqLinkS.l0 at h
    refine .loop' [c_ 464, c_ 465, c_ 233, l_ 58, b_ 0, c_ 15] ?_
    refine .reg' [0, 1, 5, 14] [] ⟨[(0, (.sl true a0.length 4 (a0.flatMap e52))), (1, (.sl true a1.length 4 (a1.flatMap e52))), (5, (I x1)), (14, (B (decide (x1 < (a0.length : Int)))))], [], [], []⟩ [c_ 465, c_ 233, l_ 58, b_ 0, c_ 15] aln nocal ?_
    by_cases c2 : x1 < (a0.length : Int)
    · rw [if_pos c2] at h
      refine .cond' (.tmp 14) true [c_ 1864, c_ 1865, b_ 1, c_ 467, l_ 58, b_ 0, c_ 15] (bT (dT c2)) ?_
      by_cases c3 : 0 ≤ x1
      · rw [if_pos c3] at h
        by_cases c4 : x1 < (a1.length : Int)
        · rw [if_pos c4] at h
          obtain ⟨x2, hx2, h⟩ := Option.bind_eq_some_iff.mp h
          refine .reg' [0, 1, 5, 26] [.no, .no, .no, .v (.ag [(I (at_ a0 x1).f0), (I (at_ a0 x1).f1), (I (at_ a0 x1).f2), (I (at_ a0 x1).f3)]), .no, .no, .no, .v (.ag [(I (at_ a1 x1).f0), (I (at_ a1 x1).f1), (I (at_ a1 x1).f2), (I (at_ a1 x1).f3)]), .c ⟨59, [(.ag [(I (at_ a0 x1).f0), (I (at_ a0 x1).f1), (I (at_ a0 x1).f2), (I (at_ a0 x1).f3)]), (.ag [(I (at_ a1 x1).f0), (I (at_ a1 x1).f1), (I (at_ a1 x1).f2), (I (at_ a1 x1).f3)])], [], (B x2), [], [], [], [], (B x2), []⟩] ⟨[(0, (.sl true a0.length 4 (a0.flatMap e52))), (1, (.sl true a1.length 4 (a1.flatMap e52))), (5, (I x1)), (26, (B (!x2)))], [], [(0 : Int) ≤ x1 ∧ x1 < (a0.length : Int), rdC prog 53 ((a0.flatMap e52).drop (x1.toNat * 4)) = (.ag [(I (at_ a0 x1).f0), (I (at_ a0 x1).f1), (I (at_ a0 x1).f2), (I (at_ a0 x1).f3)]), 4 ≤ ((a0.flatMap e52).drop (x1.toNat * 4)).length, (0 : Int) ≤ x1 ∧ x1 < (a1.length : Int), rdC prog 53 ((a1.flatMap e52).drop (x1.toNat * 4)) = (.ag [(I (at_ a1 x1).f0), (I (at_ a1 x1).f1), (I (at_ a1 x1).f2), (I (at_ a1 x1).f3)]), 4 ≤ ((a1.flatMap e52).drop (x1.toNat * 4)).length, COK (hget []) [(.ag [(I (at_ a0 x1).f0), (I (at_ a0 x1).f1), (I (at_ a0 x1).f2), (I (at_ a0 x1).f3)]), (.ag [(I (at_ a1 x1).f0), (I (at_ a1 x1).f1), (I (at_ a1 x1).f2), (I (at_ a1 x1).f3)])] ⟨59, [(.ag [(I (at_ a0 x1).f0), (I (at_ a0 x1).f1), (I (at_ a0 x1).f2), (I (at_ a0 x1).f3)]), (.ag [(I (at_ a1 x1).f0), (I (at_ a1 x1).f1), (I (at_ a1 x1).f2), (I (at_ a1 x1).f3)])], [], (B x2), [], [], [], [], (B x2), []⟩], [⟨59, [(.ag [(I (at_ a0 x1).f0), (I (at_ a0 x1).f1), (I (at_ a0 x1).f2), (I (at_ a0 x1).f3)]), (.ag [(I (at_ a1 x1).f0), (I (at_ a1 x1).f1), (I (at_ a1 x1).f2), (I (at_ a1 x1).f3)])], [], (B x2), [], [], [], [], (B x2), []⟩]⟩ [c_ 1865, b_ 1, c_ 467, l_ 58, b_ 0, c_ 15] (alc ⟨c3, c2⟩ (alc (ldA e52_ok rfl rfl c3 c2) (alc (okI e52_ok c3 c2 (by decide)) (alc ⟨c3, c4⟩ (alc (ldA e52_ok rfl rfl c3 c4) (alc (okI e52_ok c3 c4 (by decide)) (alc (cok0 false (a2c (.z (frz_ag (a2c .s (a2c .s (a2c .s (a2c .s a2n)))))) (a2c (.z (frz_ag (a2c .s (a2c .s (a2c .s (a2c .s a2n)))))) a2n)) (.z .s) (fun h => absurd h (by decide))) aln))))))) (acal (laws_eqLink.J (at_ a0 x1) (at_ a1 x1) _ hx2) nocal) ?_
          by_cases c5 : x2 = true
          · rw [if_pos c5] at h
            refine .cond' (.tmp 26) false [c_ 467, l_ 58, b_ 0, c_ 15] (bF (nF c5)) ?_
            refine .reg' [0, 1, 5] [] ⟨[(0, (.sl true a0.length 4 (a0.flatMap e52))), (1, (.sl true a1.length 4 (a1.flatMap e52))), (5, (I (wrap64 (x1 + 1))))], [], [], []⟩ [l_ 58, b_ 0, c_ 15] aln nocal ?_
            exact ih0 a0 a1 (wrap64 (x1 + 1)) _ h
          · rw [if_neg c5] at h
            refine .cond' (.tmp 26) true [c_ 7460, c_ 7461, b_ 1, c_ 467, l_ 58, b_ 0, c_ 15] (bT (nT (vF c5))) ?_
            refine .reg' [4] [] ⟨[(4, (B false))], [], [], []⟩ [c_ 7461, b_ 1, c_ 467, l_ 58, b_ 0, c_ 15] aln nocal ?_
            have h := Option.some.inj h
            subst h
            exact .fin0 [] (B false) [] aln (.z .s)
        · rw [if_neg c4] at h
          cases h
      · rw [if_neg c3] at h
        cases h
    · rw [if_neg c2] at h
      refine .cond' (.tmp 14) false [c_ 30, c_ 31] (bF (dF c2)) ?_
      refine .reg' [4] [] ⟨[(4, (B true))], [], [], []⟩ [c_ 31] aln nocal ?_
      have h := Option.some.inj h
      subst h
      exact .fin0 [] (B true) [] aln (.z .s)
theorem laws_eqLinkS.J (k : Nat) (a0 : (List S52)) (a1 : (List S52)) (r : Bool) (h : laws_eqLinkS.f k a0 a1 = some r) : J prog (.call 48 [(.sl true a0.length 4 (a0.flatMap e52)), (.sl true a1.length 4 (a1.flatMap e52))] [] (B r) []) := by
  unfold laws_eqLinkS.f at h
  have ih0 := laws_eqLinkS.lab k
  refine .call' [c_ 2, c_ 3] ?_
  refine .reg' [0, 1] [] ⟨[(0, (.sl true a0.length 4 (a0.flatMap e52))), (1, (.sl true a1.length 4 (a1.flatMap e52)))], [], [], []⟩ [c_ 12, c_ 13, c_ 7] aln nocal ?_
  refine .reg' [0, 1, 10] [] ⟨[(0, (.sl true a0.length 4 (a0.flatMap e52))), (1, (.sl true a1.length 4 (a1.flatMap e52))), (10, (B (!((a0.length : Int) == (a1.length : Int)))))], [], [], []⟩ [c_ 13, c_ 7] aln nocal ?_
  by_cases c1 : (a0.length : Int) = (a1.length : Int)
  · rw [if_pos c1] at h
    refine .cond' (.tmp 10) false [c_ 28, c_ 29, c_ 15] (bF (nF (qT c1))) ?_
    refine .reg' [0, 1, 5] [] ⟨[(0, (.sl true a0.length 4 (a0.flatMap e52))), (1, (.sl true a1.length 4 (a1.flatMap e52))), (5, (I 0))], [], [], []⟩ [l_ 58, b_ 0, c_ 15] aln nocal ?_
    exact ih0 a0 a1 0 _ h
  · rw [if_neg c1] at h
    refine .cond' (.tmp 10) true [c_ 52, c_ 53, c_ 7] (bT (nT (qF c1))) ?_
    refine .reg' [4] [] ⟨[(4, (B false))], [], [], []⟩ [c_ 53, c_ 7] aln nocal ?_
    have h := Option.some.inj h
    subst h
    exact .fin0 [] (B false) [] aln (.z .s)
/-! laws_eqWork: function 17 -/
def laws_eqWork.f (k : Nat) (a0 : S29) (a1 : S29) : Option Bool := ((laws_eqIntS.f k a0.f0 a1.f0).bind fun x1 => (if x1 = true then ((laws_eqLinkS.f k a0.f1 a1.f1).bind fun x2 => (if x2 = true then (if a0.f2 = a1.f2 then (some true) else (some false)) else (some false))) else (some false)))
theorem laws_eqWork.J (k : Nat) (a0 : S29) (a1 : S29) (r : Bool) (h : laws_eqWork.f k a0 a1 = some r) : J prog (.call 17 [(.ag [(.sl true a0.f0.length 1 (a0.f0.flatMap encI)), (.sl true a0.f1.length 4 (a0.f1.flatMap e52)), (I a0.f2)]), (.ag [(.sl true a1.f0.length 1 (a1.f0.flatMap encI)), (.sl true a1.f1.length 4 (a1.f1.flatMap e52)), (I a1.f2)])] [] (B r) []) := by
  unfold laws_eqWork.f at h
  refine .call' [c_ 2, c_ 3] ?_
  refine .reg' [2, 3] [] ⟨[(2, (.pt 256 0 3)), (3, (.pt 257 0 3))], [(256, [(.sl true a0.f0.length 1 (a0.f0.flatMap encI)), (.sl true a0.f1.length 4 (a0.f1.flatMap e52)), (I a0.f2)]), (257, [(.sl true a1.f0.length 1 (a1.f0.flatMap encI)), (.sl true a1.f1.length 4 (a1.f1.flatMap e52)), (I a1.f2)])], [], []⟩ [c_ 12, c_ 13, c_ 7] aln nocal ?_
  obtain ⟨x1, hx1, h⟩ := Option.bind_eq_some_iff.mp h
  refine .reg' [2, 3, 10] [.no, .no, .no, .no, .c ⟨23, [(.sl true a0.f0.length 1 (a0.f0.flatMap encI)), (.sl true a1.f0.length 1 (a1.f0.flatMap encI))], [], (B x1), [], [], [], [], (B x1), []⟩] ⟨[(2, (.pt 256 0 3)), (3, (.pt 257 0 3)), (10, (B (!x1)))], [(256, [(.sl true a0.f0.length 1 (a0.f0.flatMap encI)), (.sl true a0.f1.length 4 (a0.f1.flatMap e52)), (I a0.f2)]), (257, [(.sl true a1.f0.length 1 (a1.f0.flatMap encI)), (.sl true a1.f1.length 4 (a1.f1.flatMap e52)), (I a1.f2)])], [3 = 3 ∧ 0 + 1 ≤ 3, 3 = 3 ∧ 0 + 1 ≤ 3, COK (hget [(256, [(.sl true a0.f0.length 1 (a0.f0.flatMap encI)), (.sl true a0.f1.length 4 (a0.f1.flatMap e52)), (I a0.f2)]), (257, [(.sl true a1.f0.length 1 (a1.f0.flatMap encI)), (.sl true a1.f1.length 4 (a1.f1.flatMap e52)), (I a1.f2)])]) [(.sl true a0.f0.length 1 (a0.f0.flatMap encI)), (.sl true a1.f0.length 1 (a1.f0.flatMap encI))] ⟨23, [(.sl true a0.f0.length 1 (a0.f0.flatMap encI)), (.sl true a1.f0.length 1 (a1.f0.flatMap encI))], [], (B x1), [], [], [], [], (B x1), []⟩], [⟨23, [(.sl true a0.f0.length 1 (a0.f0.flatMap encI)), (.sl true a1.f0.length 1 (a1.f0.flatMap encI))], [], (B x1), [], [], [], [], (B x1), []⟩]⟩ [c_ 13, c_ 7] (alc ⟨rfl, by decide⟩ (alc ⟨rfl, by decide⟩ (alc (cok0 false (a2c (.z (frz_sl encI_ok (fun h => h))) (a2c (.z (frz_sl encI_ok (fun h => h))) a2n)) (.z .s) (fun h => absurd h (by decide))) aln))) (acal (laws_eqIntS.J k a0.f0 a1.f0 _ hx1) nocal) ?_
  by_cases c1 : x1 = true
  · rw [if_pos c1] at h
    refine .cond' (.tmp 10) false [c_ 28, c_ 29, c_ 15] (bF (nF c1)) ?_
    obtain ⟨x2, hx2, h⟩ := Option.bind_eq_some_iff.mp h
    refine .reg' [2, 3, 16] [.no, .no, .no, .no, .c ⟨48, [(.sl true a0.f1.length 4 (a0.f1.flatMap e52)), (.sl true a1.f1.length 4 (a1.f1.flatMap e52))], [], (B x2), [], [], [], [], (B x2), []⟩] ⟨[(2, (.pt 256 0 3)), (3, (.pt 257 0 3)), (16, (B (!x2)))], [(256, [(.sl true a0.f0.length 1 (a0.f0.flatMap encI)), (.sl true a0.f1.length 4 (a0.f1.flatMap e52)), (I a0.f2)]), (257, [(.sl true a1.f0.length 1 (a1.f0.flatMap encI)), (.sl true a1.f1.length 4 (a1.f1.flatMap e52)), (I a1.f2)])], [3 = 3 ∧ 1 + 1 ≤ 3, 3 = 3 ∧ 1 + 1 ≤ 3, COK (hget [(256, [(.sl true a0.f0.length 1 (a0.f0.flatMap encI)), (.sl true a0.f1.length 4 (a0.f1.flatMap e52)), (I a0.f2)]), (257, [(.sl true a1.f0.length 1 (a1.f0.flatMap encI)), (.sl true a1.f1.length 4 (a1.f1.flatMap e52)), (I a1.f2)])]) [(.sl true a0.f1.length 4 (a0.f1.flatMap e52)), (.sl true a1.f1.length 4 (a1.f1.flatMap e52))] ⟨48, [(.sl true a0.f1.length 4 (a0.f1.flatMap e52)), (.sl true a1.f1.length 4 (a1.f1.flatMap e52))], [], (B x2), [], [], [], [], (B x2), []⟩], [⟨48, [(.sl true a0.f1.length 4 (a0.f1.flatMap e52)), (.sl true a1.f1.length 4 (a1.f1.flatMap e52))], [], (B x2), [], [], [], [], (B x2), []⟩]⟩ [c_ 29, c_ 15] (alc ⟨rfl, by decide⟩ (alc ⟨rfl, by decide⟩ (alc (cok0 false (a2c (.z (frz_sl e52_ok (fun h => h))) (a2c (.z (frz_sl e52_ok (fun h => h))) a2n)) (.z .s) (fun h => absurd h (by decide))) aln))) (acal (laws_eqLinkS.J k a0.f1 a1.f1 _ hx2) nocal) ?_
    by_cases c2 : x2 = true
    · rw [if_pos c2] at h
      refine .cond' (.tmp 16) false [c_ 60, c_ 61, c_ 31] (bF (nF c2)) ?_
      refine .reg' [21] [] ⟨[(21, (B (!(a0.f2 == a1.f2))))], [(256, [(.sl true a0.f0.length 1 (a0.f0.flatMap encI)), (.sl true a0.f1.length 4 (a0.f1.flatMap e52)), (I a0.f2)]), (257, [(.sl true a1.f0.length 1 (a1.f0.flatMap encI)), (.sl true a1.f1.length 4 (a1.f1.flatMap e52)), (I a1.f2)])], [3 = 3 ∧ 2 + 1 ≤ 3, 3 = 3 ∧ 2 + 1 ≤ 3], []⟩ [c_ 61, c_ 31] (alc ⟨rfl, by decide⟩ (alc ⟨rfl, by decide⟩ aln)) nocal ?_
      by_cases c3 : a0.f2 = a1.f2
      · rw [if_pos c3] at h
        refine .cond' (.tmp 21) false [c_ 62, c_ 63] (bF (nF (qT c3))) ?_
        refine .reg' [4] [] ⟨[(4, (B true))], [(256, [(.sl true a0.f0.length 1 (a0.f0.flatMap encI)), (.sl true a0.f1.length 4 (a0.f1.flatMap e52)), (I a0.f2)]), (257, [(.sl true a1.f0.length 1 (a1.f0.flatMap encI)), (.sl true a1.f1.length 4 (a1.f1.flatMap e52)), (I a1.f2)])], [], []⟩ [c_ 63] aln nocal ?_
        have h := Option.some.inj h
        subst h
        exact .fin0 [] (B true) [] aln (.z .s)
      · rw [if_neg c3] at h
        refine .cond' (.tmp 21) true [c_ 244, c_ 245, c_ 31] (bT (nT (qF c3))) ?_
        refine .reg' [4] [] ⟨[(4, (B false))], [(256, [(.sl true a0.f0.length 1 (a0.f0.flatMap encI)), (.sl true a0.f1.length 4 (a0.f1.flatMap e52)), (I a0.f2)]), (257, [(.sl true a1.f0.length 1 (a1.f0.flatMap encI)), (.sl true a1.f1.length 4 (a1.f1.flatMap e52)), (I a1.f2)])], [], []⟩ [c_ 245, c_ 31] aln nocal ?_
        have h := Option.some.inj h
        subst h
        exact .fin0 [] (B false) [] aln (.z .s)
    · rw [if_neg c2] at h
      refine .cond' (.tmp 16) true [c_ 116, c_ 117, c_ 15] (bT (nT (vF c2))) ?_
      refine .reg' [4] [] ⟨[(4, (B false))], [(256, [(.sl true a0.f0.length 1 (a0.f0.flatMap encI)), (.sl true a0.f1.length 4 (a0.f1.flatMap e52)), (I a0.f2)]), (257, [(.sl true a1.f0.length 1 (a1.f0.flatMap encI)), (.sl true a1.f1.length 4 (a1.f1.flatMap e52)), (I a1.f2)])], [], []⟩ [c_ 117, c_ 15] aln nocal ?_
      have h := Option.some.inj h
      subst h
      exact .fin0 [] (B false) [] aln (.z .s)
  · rw [if_neg c1] at h
    refine .cond' (.tmp 10) true [c_ 52, c_ 53, c_ 7] (bT (nT (vF c1))) ?_
    refine .reg' [4] [] ⟨[(4, (B false))], [(256, [(.sl true a0.f0.length 1 (a0.f0.flatMap encI)), (.sl true a0.f1.length 4 (a0.f1.flatMap e52)), (I a0.f2)]), (257, [(.sl true a1.f0.length 1 (a1.f0.flatMap encI)), (.sl true a1.f1.length 4 (a1.f1.flatMap e52)), (I a1.f2)])], [], []⟩ [c_ 53, c_ 7] aln nocal ?_
    have h := Option.some.inj h
    subst h
    exact .fin0 [] (B false) [] aln (.z .s)
/-! laws_markIntS: function 27 -/
def laws_markIntS.l0 : Nat → (List Int) → Int → Int → Option (Int × (List Int))
 | 0, _, _, _ => none
 | k + 1, x1, x2, x3 => (if x3 < (x1.length : Int) then (if 0 ≤ x3 then (laws_markIntS.l0 k (x1.set x3.toNat x2) (wrap64 (x2 + 1)) (wrap64 (x3 + 1))) else none) else (some (x2, x1)))
def laws_markIntS.f (k : Nat) (a0 : (List Int)) (a1 : Int) : Option (Int × (List Int)) := (laws_markIntS.l0 k a0 a1 0)
theorem laws_markIntS.lab : ∀ k, (∀ (x1 : (List Int)) (x2 : Int) (x3 : Int) (r : (Int × (List Int))), laws_markIntS.l0 k x1 x2 x3 = some r → J prog (.run 27 [0] [l_ 26, b_ 0, c_ 7] [(0, (.rf 0 0 x1.length 1 (x1.length * 1))), (1, (I x2)), (5, (I x3))] [(0, (x1.flatMap encI))] (I r.1) [(0, (r.2.flatMap encI))]))
 | 0 => (by intro x1 x2 x3 r h; unfold laws_markIntS.l0 at h; cases h)
 | k + 1 => by
  have ih := laws_markIntS.lab k
  have ih0 := ih
  · intro x1 x2 x3 r h
    unfold laws_markIntS.l0 at h
    refine .loop' [c_ 208, c_ 209, c_ 105, l_ 26, b_ 0, c_ 7] ?_
    refine .reg' [0, 1, 5, 9] [] ⟨[(0, (.rf 0 0 x1.length 1 (x1.length * 1))), (1, (I x2)), (5, (I x3)), (9, (B (decide (x3 < (x1.length : Int)))))], [(0, (x1.flatMap encI))], [], []⟩ [c_ 209, c_ 105, l_ 26, b_ 0, c_ 7] aln nocal ?_
    by_cases c1 : x3 < (x1.length : Int)
    · rw [if_pos c1] at h
      refine .cond' (.tmp 9) true [c_ 840, c_ 841, b_ 1, c_ 211, l_ 26, b_ 0, c_ 7] (bT (dT c1)) ?_
      by_cases c2 : 0 ≤ x3
      · rw [if_pos c2] at h
        refine .reg' [0, 1, 5] [.no, .no, .no, .no, .w .un ((x1.set x3.toNat x2).flatMap encI)] ⟨[(0, (.rf 0 0 x1.length 1 (x1.length * 1))), (1, (I x2)), (5, (I x3))], [(0, ((x1.set x3.toNat x2).flatMap encI))], [(0 : Int) ≤ x3 ∧ x3 < (x1.length : Int), V.un = V.un, spl (x1.flatMap encI) (0 + x3.toNat * 1) [(I x2)] = ((x1.set x3.toNat x2).flatMap encI), x1.length * 1 = (x1.flatMap encI).length ∧ 0 + x3.toNat * 1 + 1 ≤ (x1.flatMap encI).length], []⟩ [c_ 841, b_ 1, c_ 211, l_ 26, b_ 0, c_ 7] (alc ⟨c2, c1⟩ (alc rfl (alc (st_row1 encI_ok c2 c1 (I x2) rfl) (alc (okA0 encI_ok c2 c1 (by decide)) aln)))) nocal ?_
        refine .eqs (env2 := [(0, (.rf 0 0 ((x1.set x3.toNat x2).length) 1 ((x1.set x3.toNat x2).length * 1))), (1, (I x2)), (5, (I x3))]) (H2 := [(0, ((x1.set x3.toNat x2).flatMap encI))]) (by first | (simp only [List.length_set]; done) | simp) (by first | rfl | (simp only [List.length_set]; done) | simp) ?_
        refine .reg' [0, 1, 5] [] ⟨[(0, (.rf 0 0 ((x1.set x3.toNat x2).length) 1 ((x1.set x3.toNat x2).length * 1))), (1, (I (wrap64 (x2 + 1)))), (5, (I x3))], [(0, ((x1.set x3.toNat x2).flatMap encI))], [], []⟩ [c_ 211, l_ 26, b_ 0, c_ 7] aln nocal ?_
        refine .reg' [0, 1, 5] [] ⟨[(0, (.rf 0 0 ((x1.set x3.toNat x2).length) 1 ((x1.set x3.toNat x2).length * 1))), (1, (I (wrap64 (x2 + 1)))), (5, (I (wrap64 (x3 + 1))))], [(0, ((x1.set x3.toNat x2).flatMap encI))], [], []⟩ [l_ 26, b_ 0, c_ 7] aln nocal ?_
        exact ih0 (x1.set x3.toNat x2) (wrap64 (x2 + 1)) (wrap64 (x3 + 1)) _ h
      · rw [if_neg c2] at h
        cases h
    · rw [if_neg c1] at h
      refine .cond' (.tmp 9) false [c_ 14, c_ 15] (bF (dF c1)) ?_
      refine .reg' [4] [] ⟨[(4, (I x2))], [(0, (x1.flatMap encI))], [], []⟩ [c_ 15] aln nocal ?_
      have h := Option.some.inj h
      subst h
      exact .fin' [] [(0, 0)] (I x2) [] aln (shc 0 (rowF encI_ok _) shn) (.z .s)
theorem laws_markIntS.J (k : Nat) (a0 : (List Int)) (a1 : Int) (r : (Int × (List Int))) (h : laws_markIntS.f k a0 a1 = some r) : J prog (.call 27 [(.rf 0 0 a0.length 1 (a0.length * 1)), (I a1)] [(0, (a0.flatMap encI))] (I r.1) [(0, (r.2.flatMap encI))]) := by
  unfold laws_markIntS.f at h
  have ih0 := laws_markIntS.lab k
  refine .call' [c_ 2, c_ 3] ?_
  refine .reg' [0, 1] [] ⟨[(0, (.rf 0 0 a0.length 1 (a0.length * 1))), (1, (I a1))], [(0, (a0.flatMap encI))], [], []⟩ [c_ 12, c_ 13, c_ 7] aln nocal ?_
  refine .reg' [0, 1, 5] [] ⟨[(0, (.rf 0 0 a0.length 1 (a0.length * 1))), (1, (I a1)), (5, (I 0))], [(0, (a0.flatMap encI))], [], []⟩ [l_ 26, b_ 0, c_ 7] aln nocal ?_
  exact ih0 a0 a1 0 _ h
theorem laws_markIntS.lenl : ∀ k, (∀ (x1 : (List Int)) (x2 : Int) (x3 : Int) (r : (Int × (List Int))), laws_markIntS.l0 k x1 x2 x3 = some r → r.2.length = x1.length)
 | 0 => (by intro x1 x2 x3 r h; unfold laws_markIntS.l0 at h; cases h)
 | k + 1 => by
  have ih0 := laws_markIntS.lenl k
  · intro x1 x2 x3 r h
    unfold laws_markIntS.l0 at h
    by_cases c1 : x3 < (x1.length : Int)
    · rw [if_pos c1] at h
      by_cases c2 : 0 ≤ x3
      · rw [if_pos c2] at h
        have q := ih0 (x1.set x3.toNat x2) (wrap64 (x2 + 1)) (wrap64 (x3 + 1)) _ h
        first | exact q | (simp only [List.length_set] at q; exact q)
      · rw [if_neg c2] at h
        cases h
    · rw [if_neg c1] at h
      have h := Option.some.inj h
      subst h
      first | rfl | (simp only [List.length_set]; done) | exact ⟨by first | rfl | simp only [List.length_set]⟩
theorem laws_markIntS.len (k : Nat) (a0 : (List Int)) (a1 : Int) (r : (Int × (List Int))) (h : laws_markIntS.f k a0 a1 = some r) : r.2.length = a0.length := by
  unfold laws_markIntS.f at h
  have ih0 := laws_markIntS.lenl k
  have q := ih0 a0 a1 0 _ h
  first | exact q | (simp only [List.length_set] at q; exact q)
/-! laws_markLinkS: function 53 -/
def laws_markLinkS.l0 : Nat → (List S52) → Int → Int → Option (Int × (List S52))
 | 0, _, _, _ => none
 | k + 1, x1, x2, x3 => (if x3 < (x1.length : Int) then (if 0 ≤ x3 then (laws_markLinkS.l0 k (x1.set x3.toNat (⟨x2, (wrap64 (x2 + 1)), (wrap64 ((wrap64 (x2 + 1)) + 1)), (wrap64 ((wrap64 ((wrap64 (x2 + 1)) + 1)) + 1))⟩ : S52)) (wrap64 ((wrap64 ((wrap64 ((wrap64 (x2 + 1)) + 1)) + 1)) + 1)) (wrap64 (x3 + 1))) else none) else (some (x2, x1)))
def laws_markLinkS.f (k : Nat) (a0 : (List S52)) (a1 : Int) : Option (Int × (List S52)) := (laws_markLinkS.l0 k a0 a1 0)
theorem laws_markLinkS.lab : ∀ k, (∀ (x1 : (List S52)) (x2 : Int) (x3 : Int) (r : (Int × (List S52))), laws_markLinkS.l0 k x1 x2 x3 = some r → J prog (.run 53 [0] [l_ 26, b_ 0, c_ 7] [(0, (.rf 0 0 x1.length 4 (x1.length * 4))), (1, (I x2)), (5, (I x3))] [(0, (x1.flatMap e52))] (I r.1) [(0, (r.2.flatMap e52))]))
 | 0 => (by intro x1 x2 x3 r h; unfold laws_markLinkS.l0 at h; cases h)
 | k + 1 => by
  have ih := laws_markLinkS.lab k
  have ih0 := ih
  · intro x1 x2 x3 r h
    unfold laws_markLinkS.l0 at h
    refine .loop' [c_ 208, c_ 209, c_ 105, l_ 26, b_ 0, c_ 7] ?_
    refine .reg' [0, 1, 5, 9] [] ⟨[(0, (.rf 0 0 x1.length 4 (x1.length * 4))), (1, (I x2)), (5, (I x3)), (9, (B (decide (x3 < (x1.length : Int)))))], [(0, (x1.flatMap e52))], [], []⟩ [c_ 209, c_ 105, l_ 26, b_ 0, c_ 7] aln nocal ?_
    by_cases c1 : x3 < (x1.length : Int)
    · rw [if_pos c1] at h
      refine .cond' (.tmp 9) true [c_ 840, c_ 841, b_ 1, c_ 211, l_ 26, b_ 0, c_ 7] (bT (dT c1)) ?_
      by_cases c2 : 0 ≤ x3
      · rw [if_pos c2] at h
        refine .reg' [0, 1, 5] [.no, .no, .no, .no, .no, .w .un ((x1.set x3.toNat (⟨x2, (at_ x1 x3).f1, (at_ x1 x3).f2, (at_ x1 x3).f3⟩ : S52)).flatMap e52)] ⟨[(0, (.rf 0 0 x1.length 4 (x1.length * 4))), (1, (I x2)), (5, (I x3))], [(0, ((x1.set x3.toNat (⟨x2, (at_ x1 x3).f1, (at_ x1 x3).f2, (at_ x1 x3).f3⟩ : S52)).flatMap e52))], [(0 : Int) ≤ x3 ∧ x3 < (x1.length : Int), V.un = V.un, spl (x1.flatMap e52) (0 + x3.toNat * 4 + 0) [(I x2)] = ((x1.set x3.toNat (⟨x2, (at_ x1 x3).f1, (at_ x1 x3).f2, (at_ x1 x3).f3⟩ : S52)).flatMap e52), x1.length * 4 = (x1.flatMap e52).length ∧ 0 + x3.toNat * 4 + 0 + 1 ≤ (x1.flatMap e52).length], []⟩ [c_ 1682, c_ 1683, b_ 1, c_ 211, l_ 26, b_ 0, c_ 7] (alc ⟨c2, c1⟩ (alc rfl (alc (st_row e52_ok 0 c2 c1 (Nat.le_of_ble_eq_true rfl) rfl) (alc (okA e52_ok c2 c1 (by decide)) aln)))) nocal ?_
        refine .eqs (env2 := [(0, (.rf 0 0 ((x1.set x3.toNat (⟨x2, (at_ x1 x3).f1, (at_ x1 x3).f2, (at_ x1 x3).f3⟩ : S52)).length) 4 ((x1.set x3.toNat (⟨x2, (at_ x1 x3).f1, (at_ x1 x3).f2, (at_ x1 x3).f3⟩ : S52)).length * 4))), (1, (I x2)), (5, (I x3))]) (H2 := [(0, ((x1.set x3.toNat (⟨x2, (at_ x1 x3).f1, (at_ x1 x3).f2, (at_ x1 x3).f3⟩ : S52)).flatMap e52))]) (by first | (simp only [List.length_set]; done) | simp) (by first | rfl | (simp only [List.length_set]; done) | simp) ?_
        refine .reg' [0, 1, 5] [] ⟨[(0, (.rf 0 0 ((x1.set x3.toNat (⟨x2, (at_ x1 x3).f1, (at_ x1 x3).f2, (at_ x1 x3).f3⟩ : S52)).length) 4 ((x1.set x3.toNat (⟨x2, (at_ x1 x3).f1, (at_ x1 x3).f2, (at_ x1 x3).f3⟩ : S52)).length * 4))), (1, (I (wrap64 (x2 + 1)))), (5, (I x3))], [(0, ((x1.set x3.toNat (⟨x2, (at_ x1 x3).f1, (at_ x1 x3).f2, (at_ x1 x3).f3⟩ : S52)).flatMap e52))], [], []⟩ [c_ 3366, c_ 3367, b_ 1, c_ 211, l_ 26, b_ 0, c_ 7] aln nocal ?_
        refine .reg' [0, 1, 5] [.no, .no, .no, .no, .no, .w .un ((x1.set x3.toNat (⟨x2, (wrap64 (x2 + 1)), (at_ x1 x3).f2, (at_ x1 x3).f3⟩ : S52)).flatMap e52)] ⟨[(0, (.rf 0 0 ((x1.set x3.toNat (⟨x2, (at_ x1 x3).f1, (at_ x1 x3).f2, (at_ x1 x3).f3⟩ : S52)).length) 4 ((x1.set x3.toNat (⟨x2, (at_ x1 x3).f1, (at_ x1 x3).f2, (at_ x1 x3).f3⟩ : S52)).length * 4))), (1, (I (wrap64 (x2 + 1)))), (5, (I x3))], [(0, ((x1.set x3.toNat (⟨x2, (wrap64 (x2 + 1)), (at_ x1 x3).f2, (at_ x1 x3).f3⟩ : S52)).flatMap e52))], [(0 : Int) ≤ x3 ∧ x3 < ((x1.set x3.toNat (⟨x2, (at_ x1 x3).f1, (at_ x1 x3).f2, (at_ x1 x3).f3⟩ : S52)).length : Int), V.un = V.un, spl ((x1.set x3.toNat (⟨x2, (at_ x1 x3).f1, (at_ x1 x3).f2, (at_ x1 x3).f3⟩ : S52)).flatMap e52) (0 + x3.toNat * 4 + 1) [(I (wrap64 (x2 + 1)))] = ((x1.set x3.toNat (⟨x2, (wrap64 (x2 + 1)), (at_ x1 x3).f2, (at_ x1 x3).f3⟩ : S52)).flatMap e52), (x1.set x3.toNat (⟨x2, (at_ x1 x3).f1, (at_ x1 x3).f2, (at_ x1 x3).f3⟩ : S52)).length * 4 = ((x1.set x3.toNat (⟨x2, (at_ x1 x3).f1, (at_ x1 x3).f2, (at_ x1 x3).f3⟩ : S52)).flatMap e52).length ∧ 0 + x3.toNat * 4 + 1 + 1 ≤ ((x1.set x3.toNat (⟨x2, (at_ x1 x3).f1, (at_ x1 x3).f2, (at_ x1 x3).f3⟩ : S52)).flatMap e52).length], []⟩ [c_ 6734, c_ 6735, b_ 1, c_ 211, l_ 26, b_ 0, c_ 7] (alc ⟨c2, (ls c1)⟩ (alc rfl (alc (st_row2 e52_ok 1 c2 c1 (Nat.le_of_ble_eq_true rfl) rfl) (alc (okA e52_ok c2 (ls c1) (by decide)) aln)))) nocal ?_
        refine .eqs (env2 := [(0, (.rf 0 0 ((x1.set x3.toNat (⟨x2, (wrap64 (x2 + 1)), (at_ x1 x3).f2, (at_ x1 x3).f3⟩ : S52)).length) 4 ((x1.set x3.toNat (⟨x2, (wrap64 (x2 + 1)), (at_ x1 x3).f2, (at_ x1 x3).f3⟩ : S52)).length * 4))), (1, (I (wrap64 (x2 + 1)))), (5, (I x3))]) (H2 := [(0, ((x1.set x3.toNat (⟨x2, (wrap64 (x2 + 1)), (at_ x1 x3).f2, (at_ x1 x3).f3⟩ : S52)).flatMap e52))]) (by first | (simp only [List.length_set]; done) | simp) (by first | rfl | (simp only [List.length_set]; done) | simp) ?_
        refine .reg' [0, 1, 5] [] ⟨[(0, (.rf 0 0 ((x1.set x3.toNat (⟨x2, (wrap64 (x2 + 1)), (at_ x1 x3).f2, (at_ x1 x3).f3⟩ : S52)).length) 4 ((x1.set x3.toNat (⟨x2, (wrap64 (x2 + 1)), (at_ x1 x3).f2, (at_ x1 x3).f3⟩ : S52)).length * 4))), (1, (I (wrap64 ((wrap64 (x2 + 1)) + 1)))), (5, (I x3))], [(0, ((x1.set x3.toNat (⟨x2, (wrap64 (x2 + 1)), (at_ x1 x3).f2, (at_ x1 x3).f3⟩ : S52)).flatMap e52))], [], []⟩ [c_ 13470, c_ 13471, b_ 1, c_ 211, l_ 26, b_ 0, c_ 7] aln nocal ?_
        refine .reg' [0, 1, 5] [.no, .no, .no, .no, .no, .w .un ((x1.set x3.toNat (⟨x2, (wrap64 (x2 + 1)), (wrap64 ((wrap64 (x2 + 1)) + 1)), (at_ x1 x3).f3⟩ : S52)).flatMap e52)] ⟨[(0, (.rf 0 0 ((x1.set x3.toNat (⟨x2, (wrap64 (x2 + 1)), (at_ x1 x3).f2, (at_ x1 x3).f3⟩ : S52)).length) 4 ((x1.set x3.toNat (⟨x2, (wrap64 (x2 + 1)), (at_ x1 x3).f2, (at_ x1 x3).f3⟩ : S52)).length * 4))), (1, (I (wrap64 ((wrap64 (x2 + 1)) + 1)))), (5, (I x3))], [(0, ((x1.set x3.toNat (⟨x2, (wrap64 (x2 + 1)), (wrap64 ((wrap64 (x2 + 1)) + 1)), (at_ x1 x3).f3⟩ : S52)).flatMap e52))], [(0 : Int) ≤ x3 ∧ x3 < ((x1.set x3.toNat (⟨x2, (wrap64 (x2 + 1)), (at_ x1 x3).f2, (at_ x1 x3).f3⟩ : S52)).length : Int), V.un = V.un, spl ((x1.set x3.toNat (⟨x2, (wrap64 (x2 + 1)), (at_ x1 x3).f2, (at_ x1 x3).f3⟩ : S52)).flatMap e52) (0 + x3.toNat * 4 + 2) [(I (wrap64 ((wrap64 (x2 + 1)) + 1)))] = ((x1.set x3.toNat (⟨x2, (wrap64 (x2 + 1)), (wrap64 ((wrap64 (x2 + 1)) + 1)), (at_ x1 x3).f3⟩ : S52)).flatMap e52), (x1.set x3.toNat (⟨x2, (wrap64 (x2 + 1)), (at_ x1 x3).f2, (at_ x1 x3).f3⟩ : S52)).length * 4 = ((x1.set x3.toNat (⟨x2, (wrap64 (x2 + 1)), (at_ x1 x3).f2, (at_ x1 x3).f3⟩ : S52)).flatMap e52).length ∧ 0 + x3.toNat * 4 + 2 + 1 ≤ ((x1.set x3.toNat (⟨x2, (wrap64 (x2 + 1)), (at_ x1 x3).f2, (at_ x1 x3).f3⟩ : S52)).flatMap e52).length], []⟩ [c_ 26942, c_ 26943, b_ 1, c_ 211, l_ 26, b_ 0, c_ 7] (alc ⟨c2, (ls c1)⟩ (alc rfl (alc (st_row2 e52_ok 2 c2 c1 (Nat.le_of_ble_eq_true rfl) rfl) (alc (okA e52_ok c2 (ls c1) (by decide)) aln)))) nocal ?_
        refine .eqs (env2 := [(0, (.rf 0 0 ((x1.set x3.toNat (⟨x2, (wrap64 (x2 + 1)), (wrap64 ((wrap64 (x2 + 1)) + 1)), (at_ x1 x3).f3⟩ : S52)).length) 4 ((x1.set x3.toNat (⟨x2, (wrap64 (x2 + 1)), (wrap64 ((wrap64 (x2 + 1)) + 1)), (at_ x1 x3).f3⟩ : S52)).length * 4))), (1, (I (wrap64 ((wrap64 (x2 + 1)) + 1)))), (5, (I x3))]) (H2 := [(0, ((x1.set x3.toNat (⟨x2, (wrap64 (x2 + 1)), (wrap64 ((wrap64 (x2 + 1)) + 1)), (at_ x1 x3).f3⟩ : S52)).flatMap e52))]) (by first | (simp only [List.length_set]; done) | simp) (by first | rfl | (simp only [List.length_set]; done) | simp) ?_
        refine .reg' [0, 1, 5] [] ⟨[(0, (.rf 0 0 ((x1.set x3.toNat (⟨x2, (wrap64 (x2 + 1)), (wrap64 ((wrap64 (x2 + 1)) + 1)), (at_ x1 x3).f3⟩ : S52)).length) 4 ((x1.set x3.toNat (⟨x2, (wrap64 (x2 + 1)), (wrap64 ((wrap64 (x2 + 1)) + 1)), (at_ x1 x3).f3⟩ : S52)).length * 4))), (1, (I (wrap64 ((wrap64 ((wrap64 (x2 + 1)) + 1)) + 1)))), (5, (I x3))], [(0, ((x1.set x3.toNat (⟨x2, (wrap64 (x2 + 1)), (wrap64 ((wrap64 (x2 + 1)) + 1)), (at_ x1 x3).f3⟩ : S52)).flatMap e52))], [], []⟩ [c_ 53886, c_ 53887, b_ 1, c_ 211, l_ 26, b_ 0, c_ 7] aln nocal ?_
        refine .reg' [0, 1, 5] [.no, .no, .no, .no, .no, .w .un ((x1.set x3.toNat (⟨x2, (wrap64 (x2 + 1)), (wrap64 ((wrap64 (x2 + 1)) + 1)), (wrap64 ((wrap64 ((wrap64 (x2 + 1)) + 1)) + 1))⟩ : S52)).flatMap e52)] ⟨[(0, (.rf 0 0 ((x1.set x3.toNat (⟨x2, (wrap64 (x2 + 1)), (wrap64 ((wrap64 (x2 + 1)) + 1)), (at_ x1 x3).f3⟩ : S52)).length) 4 ((x1.set x3.toNat (⟨x2, (wrap64 (x2 + 1)), (wrap64 ((wrap64 (x2 + 1)) + 1)), (at_ x1 x3).f3⟩ : S52)).length * 4))), (1, (I (wrap64 ((wrap64 ((wrap64 (x2 + 1)) + 1)) + 1)))), (5, (I x3))], [(0, ((x1.set x3.toNat (⟨x2, (wrap64 (x2 + 1)), (wrap64 ((wrap64 (x2 + 1)) + 1)), (wrap64 ((wrap64 ((wrap64 (x2 + 1)) + 1)) + 1))⟩ : S52)).flatMap e52))], [(0 : Int) ≤ x3 ∧ x3 < ((x1.set x3.toNat (⟨x2, (wrap64 (x2 + 1)), (wrap64 ((wrap64 (x2 + 1)) + 1)), (at_ x1 x3).f3⟩ : S52)).length : Int), V.un = V.un, spl ((x1.set x3.toNat (⟨x2, (wrap64 (x2 + 1)), (wrap64 ((wrap64 (x2 + 1)) + 1)), (at_ x1 x3).f3⟩ : S52)).flatMap e52) (0 + x3.toNat * 4 + 3) [(I (wrap64 ((wrap64 ((wrap64 (x2 + 1)) + 1)) + 1)))] = ((x1.set x3.toNat (⟨x2, (wrap64 (x2 + 1)), (wrap64 ((wrap64 (x2 + 1)) + 1)), (wrap64 ((wrap64 ((wrap64 (x2 + 1)) + 1)) + 1))⟩ : S52)).flatMap e52), (x1.set x3.toNat (⟨x2, (wrap64 (x2 + 1)), (wrap64 ((wrap64 (x2 + 1)) + 1)), (at_ x1 x3).f3⟩ : S52)).length * 4 = ((x1.set x3.toNat (⟨x2, (wrap64 (x2 + 1)), (wrap64 ((wrap64 (x2 + 1)) + 1)), (at_ x1 x3).f3⟩ : S52)).flatMap e52).length ∧ 0 + x3.toNat * 4 + 3 + 1 ≤ ((x1.set x3.toNat (⟨x2, (wrap64 (x2 + 1)), (wrap64 ((wrap64 (x2 + 1)) + 1)), (at_ x1 x3).f3⟩ : S52)).flatMap e52).length], []⟩ [c_ 53887, b_ 1, c_ 211, l_ 26, b_ 0, c_ 7] (alc ⟨c2, (ls c1)⟩ (alc rfl (alc (st_row2 e52_ok 3 c2 c1 (Nat.le_of_ble_eq_true rfl) rfl) (alc (okA e52_ok c2 (ls c1) (by decide)) aln)))) nocal ?_
        refine .eqs (env2 := [(0, (.rf 0 0 ((x1.set x3.toNat (⟨x2, (wrap64 (x2 + 1)), (wrap64 ((wrap64 (x2 + 1)) + 1)), (wrap64 ((wrap64 ((wrap64 (x2 + 1)) + 1)) + 1))⟩ : S52)).length) 4 ((x1.set x3.toNat (⟨x2, (wrap64 (x2 + 1)), (wrap64 ((wrap64 (x2 + 1)) + 1)), (wrap64 ((wrap64 ((wrap64 (x2 + 1)) + 1)) + 1))⟩ : S52)).length * 4))), (1, (I (wrap64 ((wrap64 ((wrap64 (x2 + 1)) + 1)) + 1)))), (5, (I x3))]) (H2 := [(0, ((x1.set x3.toNat (⟨x2, (wrap64 (x2 + 1)), (wrap64 ((wrap64 (x2 + 1)) + 1)), (wrap64 ((wrap64 ((wrap64 (x2 + 1)) + 1)) + 1))⟩ : S52)).flatMap e52))]) (by first | (simp only [List.length_set]; done) | simp) (by first | rfl | (simp only [List.length_set]; done) | simp) ?_
        refine .reg' [0, 1, 5] [] ⟨[(0, (.rf 0 0 ((x1.set x3.toNat (⟨x2, (wrap64 (x2 + 1)), (wrap64 ((wrap64 (x2 + 1)) + 1)), (wrap64 ((wrap64 ((wrap64 (x2 + 1)) + 1)) + 1))⟩ : S52)).length) 4 ((x1.set x3.toNat (⟨x2, (wrap64 (x2 + 1)), (wrap64 ((wrap64 (x2 + 1)) + 1)), (wrap64 ((wrap64 ((wrap64 (x2 + 1)) + 1)) + 1))⟩ : S52)).length * 4))), (1, (I (wrap64 ((wrap64 ((wrap64 ((wrap64 (x2 + 1)) + 1)) + 1)) + 1)))), (5, (I x3))], [(0, ((x1.set x3.toNat (⟨x2, (wrap64 (x2 + 1)), (wrap64 ((wrap64 (x2 + 1)) + 1)), (wrap64 ((wrap64 ((wrap64 (x2 + 1)) + 1)) + 1))⟩ : S52)).flatMap e52))], [], []⟩ [c_ 211, l_ 26, b_ 0, c_ 7] aln nocal ?_
        refine .reg' [0, 1, 5] [] ⟨[(0, (.rf 0 0 ((x1.set x3.toNat (⟨x2, (wrap64 (x2 + 1)), (wrap64 ((wrap64 (x2 + 1)) + 1)), (wrap64 ((wrap64 ((wrap64 (x2 + 1)) + 1)) + 1))⟩ : S52)).length) 4 ((x1.set x3.toNat (⟨x2, (wrap64 (x2 + 1)), (wrap64 ((wrap64 (x2 + 1)) + 1)), (wrap64 ((wrap64 ((wrap64 (x2 + 1)) + 1)) + 1))⟩ : S52)).length * 4))), (1, (I (wrap64 ((wrap64 ((wrap64 ((wrap64 (x2 + 1)) + 1)) + 1)) + 1)))), (5, (I (wrap64 (x3 + 1))))], [(0, ((x1.set x3.toNat (⟨x2, (wrap64 (x2 + 1)), (wrap64 ((wrap64 (x2 + 1)) + 1)), (wrap64 ((wrap64 ((wrap64 (x2 + 1)) + 1)) + 1))⟩ : S52)).flatMap e52))], [], []⟩ [l_ 26, b_ 0, c_ 7] aln nocal ?_
        exact ih0 (x1.set x3.toNat (⟨x2, (wrap64 (x2 + 1)), (wrap64 ((wrap64 (x2 + 1)) + 1)), (wrap64 ((wrap64 ((wrap64 (x2 + 1)) + 1)) + 1))⟩ : S52)) (wrap64 ((wrap64 ((wrap64 ((wrap64 (x2 + 1)) + 1)) + 1)) + 1)) (wrap64 (x3 + 1)) _ h
      · rw [if_neg c2] at h
        cases h
    · rw [if_neg c1] at h
      refine .cond' (.tmp 9) false [c_ 14, c_ 15] (bF (dF c1)) ?_
      refine .reg' [4] [] ⟨[(4, (I x2))], [(0, (x1.flatMap e52))], [], []⟩ [c_ 15] aln nocal ?_
      have h := Option.some.inj h
      subst h
      exact .fin' [] [(0, 0)] (I x2) [] aln (shc 0 (rowF e52_ok _) shn) (.z .s)
theorem laws_markLinkS.J (k : Nat) (a0 : (List S52)) (a1 : Int) (r : (Int × (List S52))) (h : laws_markLinkS.f k a0 a1 = some r) : J prog (.call 53 [(.rf 0 0 a0.length 4 (a0.length * 4)), (I a1)] [(0, (a0.flatMap e52))] (I r.1) [(0, (r.2.flatMap e52))]) := by
  unfold laws_markLinkS.f at h
  have ih0 := laws_markLinkS.lab k
  refine .call' [c_ 2, c_ 3] ?_
  refine .reg' [0, 1] [] ⟨[(0, (.rf 0 0 a0.length 4 (a0.length * 4))), (1, (I a1))], [(0, (a0.flatMap e52))], [], []⟩ [c_ 12, c_ 13, c_ 7] aln nocal ?_
  refine .reg' [0, 1, 5] [] ⟨[(0, (.rf 0 0 a0.length 4 (a0.length * 4))), (1, (I a1)), (5, (I 0))], [(0, (a0.flatMap e52))], [], []⟩ [l_ 26, b_ 0, c_ 7] aln nocal ?_
  exact ih0 a0 a1 0 _ h
theorem laws_markLinkS.lenl : ∀ k, (∀ (x1 : (List S52)) (x2 : Int) (x3 : Int) (r : (Int × (List S52))), laws_markLinkS.l0 k x1 x2 x3 = some r → r.2.length = x1.length)
 | 0 => (by intro x1 x2 x3 r h; unfold laws_markLinkS.l0 at h; cases h)
 | k + 1 => by
  have ih0 := laws_markLinkS.lenl k
  · intro x1 x2 x3 r h
    unfold laws_markLinkS.l0 at h
    by_cases c1 : x3 < (x1.length : Int)
    · rw [if_pos c1] at h
      by_cases c2 : 0 ≤ x3
      · rw [if_pos c2] at h
        have q := ih0 (x1.set x3.toNat (⟨x2, (wrap64 (x2 + 1)), (wrap64 ((wrap64 (x2 + 1)) + 1)), (wrap64 ((wrap64 ((wrap64 (x2 + 1)) + 1)) + 1))⟩ : S52)) (wrap64 ((wrap64 ((wrap64 ((wrap64 (x2 + 1)) + 1)) + 1)) + 1)) (wrap64 (x3 + 1)) _ h
        first | exact q | (simp only [List.length_set] at q; exact q)
      · rw [if_neg c2] at h
        cases h
    · rw [if_neg c1] at h
      have h := Option.some.inj h
      subst h
      first | rfl | (simp only [List.length_set]; done) | exact ⟨by first | rfl | simp only [List.length_set]⟩
theorem laws_markLinkS.len (k : Nat) (a0 : (List S52)) (a1 : Int) (r : (Int × (List S52))) (h : laws_markLinkS.f k a0 a1 = some r) : r.2.length = a0.length := by
  unfold laws_markLinkS.f at h
  have ih0 := laws_markLinkS.lenl k
  have q := ih0 a0 a1 0 _ h
  first | exact q | (simp only [List.length_set] at q; exact q)
/-! laws_markWork: function 26 -/
def laws_markWork.f (k : Nat) (a0 : S29) (a1 : Int) : Option (Int × (List Int) × (List S52)) := ((laws_markIntS.f k a0.f0 a1).bind fun x1 => ((laws_markLinkS.f k a0.f1 x1.1).bind fun x2 => (some (x2.1, x1.2, x2.2))))
theorem laws_markWork.J (k : Nat) (a0 : S29) (a1 : Int) (r : (Int × (List Int) × (List S52))) (h : laws_markWork.f k a0 a1 = some r) : J prog (.call 26 [(.ag [(.rf 0 0 a0.f0.length 1 (a0.f0.length * 1)), (.rf 1 0 a0.f1.length 4 (a0.f1.length * 4)), (I a0.f2)]), (I a1)] [(0, (a0.f0.flatMap encI)), (1, (a0.f1.flatMap e52))] (I r.1) [(0, (r.2.1.flatMap encI)), (1, (r.2.2.flatMap e52))]) := by
  unfold laws_markWork.f at h
  refine .call' [c_ 2, c_ 3] ?_
  refine .reg' [1, 2] [] ⟨[(1, (I a1)), (2, (.pt 256 0 3))], [(0, (a0.f0.flatMap encI)), (1, (a0.f1.flatMap e52)), (256, [(.rf 0 0 a0.f0.length 1 (a0.f0.length * 1)), (.rf 1 0 a0.f1.length 4 (a0.f1.length * 4)), (I a0.f2)])], [], []⟩ [c_ 6, c_ 7] aln nocal ?_
  obtain ⟨x1, hx1, h⟩ := Option.bind_eq_some_iff.mp h
  refine .reg' [1, 2] [.no, .no, .no, .c ⟨27, [(.rf 0 0 a0.f0.length 1 (a0.f0.length * 1)), (I a1)], [(0, (a0.f0.flatMap encI))], (I x1.1), [(0, (x1.2.flatMap encI))], [], [(0, 0)], [(0, 0)], (I x1.1), [(0, (x1.2.flatMap encI))]⟩] ⟨[(1, (I x1.1)), (2, (.pt 256 0 3))], [(0, (x1.2.flatMap encI)), (1, (a0.f1.flatMap e52)), (256, [(.rf 0 0 a0.f0.length 1 (a0.f0.length * 1)), (.rf 1 0 a0.f1.length 4 (a0.f1.length * 4)), (I a0.f2)])], [3 = 3 ∧ 0 + 1 ≤ 3, COK (hget [(0, (a0.f0.flatMap encI)), (1, (a0.f1.flatMap e52)), (256, [(.rf 0 0 a0.f0.length 1 (a0.f0.length * 1)), (.rf 1 0 a0.f1.length 4 (a0.f1.length * 4)), (I a0.f2)])]) [(.rf 0 0 a0.f0.length 1 (a0.f0.length * 1)), (I a1)] ⟨27, [(.rf 0 0 a0.f0.length 1 (a0.f0.length * 1)), (I a1)], [(0, (a0.f0.flatMap encI))], (I x1.1), [(0, (x1.2.flatMap encI))], [], [(0, 0)], [(0, 0)], (I x1.1), [(0, (x1.2.flatMap encI))]⟩], [⟨27, [(.rf 0 0 a0.f0.length 1 (a0.f0.length * 1)), (I a1)], [(0, (a0.f0.flatMap encI))], (I x1.1), [(0, (x1.2.flatMap encI))], [], [(0, 0)], [(0, 0)], (I x1.1), [(0, (x1.2.flatMap encI))]⟩]⟩ [c_ 14, c_ 15] (alc ⟨rfl, by decide⟩ (alc (cokW false (a2c (.rf (memP_mem (p := (0, 0)) rfl)) (a2c (.z .s) a2n)) (akc ⟨_, _, rfl, rfl, (rowF encI_ok _)⟩ akn) (akc (.inl rfl) akn) (.z .s) (akc ⟨_, _, rfl, rfl, rowB encI_c _⟩ akn) (fun h => absurd h (by decide))) aln)) (acal (laws_markIntS.J k a0.f0 a1 _ hx1) nocal) ?_
  refine .eqs (env2 := [(1, (I x1.1)), (2, (.pt 256 0 3))]) (H2 := [(0, (x1.2.flatMap encI)), (1, (a0.f1.flatMap e52)), (256, [(.rf 0 0 x1.2.length 1 (x1.2.length * 1)), (.rf 1 0 a0.f1.length 4 (a0.f1.length * 4)), (I a0.f2)])]) (by first | (simp only [List.length_set, (laws_markIntS.len k a0.f0 a1 _ hx1)]; done) | simp) (by first | rfl | (simp only [List.length_set, (laws_markIntS.len k a0.f0 a1 _ hx1)]; done) | simp) ?_
  obtain ⟨x2, hx2, h⟩ := Option.bind_eq_some_iff.mp h
  refine .reg' [1] [.no, .no, .no, .c ⟨53, [(.rf 0 0 a0.f1.length 4 (a0.f1.length * 4)), (I x1.1)], [(0, (a0.f1.flatMap e52))], (I x2.1), [(0, (x2.2.flatMap e52))], [], [(1, 0)], [(1, 0)], (I x2.1), [(1, (x2.2.flatMap e52))]⟩] ⟨[(1, (I x2.1))], [(0, (x1.2.flatMap encI)), (1, (x2.2.flatMap e52)), (256, [(.rf 0 0 x1.2.length 1 (x1.2.length * 1)), (.rf 1 0 a0.f1.length 4 (a0.f1.length * 4)), (I a0.f2)])], [3 = 3 ∧ 1 + 1 ≤ 3, COK (hget [(0, (x1.2.flatMap encI)), (1, (a0.f1.flatMap e52)), (256, [(.rf 0 0 x1.2.length 1 (x1.2.length * 1)), (.rf 1 0 a0.f1.length 4 (a0.f1.length * 4)), (I a0.f2)])]) [(.rf 1 0 a0.f1.length 4 (a0.f1.length * 4)), (I x1.1)] ⟨53, [(.rf 0 0 a0.f1.length 4 (a0.f1.length * 4)), (I x1.1)], [(0, (a0.f1.flatMap e52))], (I x2.1), [(0, (x2.2.flatMap e52))], [], [(1, 0)], [(1, 0)], (I x2.1), [(1, (x2.2.flatMap e52))]⟩], [⟨53, [(.rf 0 0 a0.f1.length 4 (a0.f1.length * 4)), (I x1.1)], [(0, (a0.f1.flatMap e52))], (I x2.1), [(0, (x2.2.flatMap e52))], [], [(1, 0)], [(1, 0)], (I x2.1), [(1, (x2.2.flatMap e52))]⟩]⟩ [c_ 30, c_ 31] (alc ⟨rfl, by decide⟩ (alc (cokW false (a2c (.rf (memP_mem (p := (1, 0)) rfl)) (a2c (.z .s) a2n)) (akc ⟨_, _, rfl, rfl, (rowF e52_ok _)⟩ akn) (akc (.inl rfl) akn) (.z .s) (akc ⟨_, _, rfl, rfl, rowB e52_c _⟩ akn) (fun h => absurd h (by decide))) aln)) (acal (laws_markLinkS.J k a0.f1 x1.1 _ hx2) nocal) ?_
  refine .eqs (env2 := [(1, (I x2.1))]) (H2 := [(0, (x1.2.flatMap encI)), (1, (x2.2.flatMap e52)), (256, [(.rf 0 0 x1.2.length 1 (x1.2.length * 1)), (.rf 1 0 x2.2.length 4 (x2.2.length * 4)), (I a0.f2)])]) (by first | (simp only [List.length_set, (laws_markIntS.len k a0.f0 a1 _ hx1), (laws_markLinkS.len k a0.f1 x1.1 _ hx2)]; done) | simp) (by first | rfl | (simp only [List.length_set, (laws_markIntS.len k a0.f0 a1 _ hx1), (laws_markLinkS.len k a0.f1 x1.1 _ hx2)]; done) | simp) ?_
  refine .reg' [4] [] ⟨[(4, (I x2.1))], [(0, (x1.2.flatMap encI)), (1, (x2.2.flatMap e52)), (256, [(.rf 0 0 x1.2.length 1 (x1.2.length * 1)), (.rf 1 0 x2.2.length 4 (x2.2.length * 4)), (I a0.f2)])], [], []⟩ [c_ 31] aln nocal ?_
  have h := Option.some.inj h
  subst h
  exact .fin' [] [(0, 0), (1, 1)] (I x2.1) [] aln (shc 0 (rowF encI_ok _) (shc 1 (rowF e52_ok _) shn)) (.z .s)
theorem laws_markWork.len (k : Nat) (a0 : S29) (a1 : Int) (r : (Int × (List Int) × (List S52))) (h : laws_markWork.f k a0 a1 = some r) : r.2.1.length = a0.f0.length ∧ r.2.2.length = a0.f1.length := by
  unfold laws_markWork.f at h
  obtain ⟨x1, hx1, h⟩ := Option.bind_eq_some_iff.mp h
  have lhx1 := laws_markIntS.len k a0.f0 a1 _ hx1
  obtain ⟨x2, hx2, h⟩ := Option.bind_eq_some_iff.mp h
  have lhx2 := laws_markLinkS.len k a0.f1 x1.1 _ hx2
  have h := Option.some.inj h
  subst h
  first | rfl | (simp only [List.length_set, lhx1, lhx2]; done) | exact ⟨by first | rfl | simp only [List.length_set, lhx1, lhx2], by first | rfl | simp only [List.length_set, lhx1, lhx2]⟩
/-! laws_heldIntS: function 28 -/
def laws_heldIntS.l0 : Nat → (List Int) → Int → Int → Option Int
 | 0, _, _, _ => none
 | k + 1, a0, x1, x2 => (if x2 < (a0.length : Int) then (if 0 ≤ x2 then (if (at_ a0 x2) = x1 then (laws_heldIntS.l0 k a0 (wrap64 (x1 + 1)) (wrap64 (x2 + 1))) else (some (-1))) else none) else (some x1))
def laws_heldIntS.f (k : Nat) (a0 : (List Int)) (a1 : Int) : Option Int := (laws_heldIntS.l0 k a0 a1 0)
theorem laws_heldIntS.lab : ∀ k, (∀ (a0 : (List Int)) (x1 : Int) (x2 : Int) (r : Int), laws_heldIntS.l0 k a0 x1 x2 = some r → J prog (.run 28 [] [l_ 26, b_ 0, c_ 7] [(0, (.sl true a0.length 1 (a0.flatMap encI))), (1, (I x1)), (5, (I x2))] [] (I r) []))
 | 0 => (by intro a0 x1 x2 r h; unfold laws_heldIntS.l0 at h; cases h)
 | k + 1 => by
  have ih := laws_heldIntS.lab k
  have ih0 := ih
  · intro a0 x1 x2 r h
    unfold laws_heldIntS.l0 at h
    refine .loop' [c_ 208, c_ 209, c_ 105, l_ 26, b_ 0, c_ 7] ?_
    refine .reg' [0, 1, 5, 9] [] ⟨[(0, (.sl true a0.length 1 (a0.flatMap encI))), (1, (I x1)), (5, (I x2)), (9, (B (decide (x2 < (a0.length : Int)))))], [], [], []⟩ [c_ 209, c_ 105, l_ 26, b_ 0, c_ 7] aln nocal ?_
    by_cases c1 : x2 < (a0.length : Int)
    · rw [if_pos c1] at h
      refine .cond' (.tmp 9) true [c_ 1680, c_ 1681, c_ 841, b_ 1, c_ 211, l_ 26, b_ 0, c_ 7] (bT (dT c1)) ?_
      by_cases c2 : 0 ≤ x2
      · rw [if_pos c2] at h
        refine .reg' [0, 1, 5, 17] [.no, .no, .no, .v (I (at_ a0 x2))] ⟨[(0, (.sl true a0.length 1 (a0.flatMap encI))), (1, (I x1)), (5, (I x2)), (17, (B (!((at_ a0 x2) == x1))))], [], [(0 : Int) ≤ x2 ∧ x2 < (a0.length : Int), rdC prog 3 ((a0.flatMap encI).drop (x2.toNat * 1)) = (I (at_ a0 x2)), 1 ≤ ((a0.flatMap encI).drop (x2.toNat * 1)).length], []⟩ [c_ 1681, c_ 841, b_ 1, c_ 211, l_ 26, b_ 0, c_ 7] (alc ⟨c2, c1⟩ (alc (ldC1 encI_ok rfl c2 c1) (alc (okI encI_ok c2 c1 (by decide)) aln))) nocal ?_
        by_cases c3 : (at_ a0 x2) = x1
        · rw [if_pos c3] at h
          refine .cond' (.tmp 17) false [c_ 841, b_ 1, c_ 211, l_ 26, b_ 0, c_ 7] (bF (nF (qT c3))) ?_
          refine .reg' [0, 1, 5] [] ⟨[(0, (.sl true a0.length 1 (a0.flatMap encI))), (1, (I (wrap64 (x1 + 1)))), (5, (I x2))], [], [], []⟩ [c_ 211, l_ 26, b_ 0, c_ 7] aln nocal ?_
          refine .reg' [0, 1, 5] [] ⟨[(0, (.sl true a0.length 1 (a0.flatMap encI))), (1, (I (wrap64 (x1 + 1)))), (5, (I (wrap64 (x2 + 1))))], [], [], []⟩ [l_ 26, b_ 0, c_ 7] aln nocal ?_
          exact ih0 a0 (wrap64 (x1 + 1)) (wrap64 (x2 + 1)) _ h
        · rw [if_neg c3] at h
          refine .cond' (.tmp 17) true [c_ 6724, c_ 6725, c_ 841, b_ 1, c_ 211, l_ 26, b_ 0, c_ 7] (bT (nT (qF c3))) ?_
          refine .reg' [4] [] ⟨[(4, (I (-1)))], [], [], []⟩ [c_ 6725, c_ 841, b_ 1, c_ 211, l_ 26, b_ 0, c_ 7] aln nocal ?_
          have h := Option.some.inj h
          subst h
          exact .fin0 [] (I (-1)) [] aln (.z .s)
      · rw [if_neg c2] at h
        cases h
    · rw [if_neg c1] at h
      refine .cond' (.tmp 9) false [c_ 14, c_ 15] (bF (dF c1)) ?_
      refine .reg' [4] [] ⟨[(4, (I x1))], [], [], []⟩ [c_ 15] aln nocal ?_
      have h := Option.some.inj h
      subst h
      exact .fin0 [] (I x1) [] aln (.z .s)
theorem laws_heldIntS.J (k : Nat) (a0 : (List Int)) (a1 : Int) (r : Int) (h : laws_heldIntS.f k a0 a1 = some r) : J prog (.call 28 [(.sl true a0.length 1 (a0.flatMap encI)), (I a1)] [] (I r) []) := by
  unfold laws_heldIntS.f at h
  have ih0 := laws_heldIntS.lab k
  refine .call' [c_ 2, c_ 3] ?_
  refine .reg' [0, 1] [] ⟨[(0, (.sl true a0.length 1 (a0.flatMap encI))), (1, (I a1))], [], [], []⟩ [c_ 12, c_ 13, c_ 7] aln nocal ?_
  refine .reg' [0, 1, 5] [] ⟨[(0, (.sl true a0.length 1 (a0.flatMap encI))), (1, (I a1)), (5, (I 0))], [], [], []⟩ [l_ 26, b_ 0, c_ 7] aln nocal ?_
  exact ih0 a0 a1 0 _ h
/-! laws_FnExactChain: function 9 -/
def laws_FnExactChain.f (k : Nat) (a0 : S24) (a1 : (List Int)) (a2 : Int) : Option Bool := (if (a1.length : Int) > 1048576 then (some true) else ((laws_szWork.f a0 1048576).bind fun x1 => (if x1 < 0 then (some true) else ((laws_toWork.f k a0).bind fun x2 => ((laws_toIntS.f k a1).bind fun x3 => ((spec_Chain.f k x2 x3 a2).bind fun x4 => ((laws_toWork.f k a0).bind fun x5 => ((laws_toIntS.f k a1).bind fun x6 => ((impl_Chain.f k x5 x6 a2).bind fun x7 => ((laws_eqIntS.f k x7 x4).bind fun x8 => (if x8 = true then ((laws_toWork.f k a0).bind fun x9 => ((laws_eqWork.f k x5 x9).bind fun x10 => (if x10 = true then ((laws_toIntS.f k a1).bind fun x11 => ((laws_eqIntS.f k x6 x11).bind fun x12 => (if x12 = true then ((laws_markWork.f k x5 1).bind fun x13 => ((laws_markIntS.f k x6 x13.1).bind fun x14 => (if x14.1 < 0 then (some false) else ((laws_eqIntS.f k x7 x4).bind fun x15 => (if x15 = true then ((laws_markIntS.f k x7 1).bind fun x16 => ((laws_heldIntS.f k x16.2 1).bind fun x17 => (if x17 < 0 then (some false) else (if x17 = x16.1 then ((laws_toWork.f k a0).bind fun x18 => ((laws_toIntS.f k a1).bind fun x19 => ((impl_Chain.f k x18 x19 a2).bind fun x20 => ((laws_eqIntS.f k x20 x4).bind fun x21 => (if x21 = true then ((laws_heldIntS.f k x16.2 1).bind fun x22 => (if x22 < 0 then (some false) else (if x22 = x16.1 then (some true) else (some false)))) else (some false)))))) else (some false))))) else (some false)))))) else (some false)))) else (some false)))) else (some false))))))))))))
end Go.Proofs.Ytomkglmlhoaniaa.Fns
