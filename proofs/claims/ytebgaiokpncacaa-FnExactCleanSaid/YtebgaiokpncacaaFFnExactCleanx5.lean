/- The functions that the law FnExactClean reaches, by the engine. Printed by a program of this seat. -/
import Derived.Test.YtebgaiokpncacaaE5
import Derived.Test.YtebgaiokpncacaaProg
import Derived.Test.YtebgaiokpncacaaFFnExactCleanx4
namespace Go.Proofs.Ytebgaiokpncacaa.Fns
open Go.Proofs.Try Go.Proofs.Ytebgaiokpncacaa.Eng Go.RowKit
set_option maxRecDepth 100000
set_option linter.unusedVariables false
set_option linter.unusedSimpArgs false
theorem laws_eqCallS.lab : ∀ k, (∀ (a0 : (List S89)) (a1 : (List S89)) (x1 : Int) (r : Bool), laws_eqCallS.l0 k a0 a1 x1 = some r → J prog (.run 80 [] [l_ 58, b_ 0, c_ 15] [(0, (.sl true a0.length 3 (a0.flatMap e89))), (1, (.sl true a1.length 3 (a1.flatMap e89))), (5, (I x1))] [] (B r) []))
 | 0 => (by intro a0 a1 x1 r h; unfold laws_eqCallS.l0 at h; cases h)
 | k + 1 => by
  have ih0 := laws_eqCallS.lab k
  · intro a0 a1 x1 r h
    unfold laws_eqCallS.l0 at h
    refine .loop' [c_ 464, c_ 465, c_ 233, l_ 58, b_ 0, c_ 15] ?_
    refine .reg' [0, 1, 5, 14] [] ⟨[(0, (.sl true a0.length 3 (a0.flatMap e89))), (1, (.sl true a1.length 3 (a1.flatMap e89))), (5, (I x1)), (14, (B (decide (x1 < (a0.length : Int)))))], [], [], []⟩ [c_ 465, c_ 233, l_ 58, b_ 0, c_ 15] aln nocal ?_
    by_cases c2 : x1 < (a0.length : Int)
    · rw [if_pos c2] at h
      refine .cond' (.tmp 14) true [c_ 1864, c_ 1865, b_ 1, c_ 467, l_ 58, b_ 0, c_ 15] (bT (dT c2)) ?_
      by_cases c3 : 0 ≤ x1
      · rw [if_pos c3] at h
        by_cases c4 : x1 < (a1.length : Int)
        · rw [if_pos c4] at h
          obtain ⟨x2, hx2, h⟩ := Option.bind_eq_some_iff.mp h
          refine .reg' [0, 1, 5, 26] [.no, .no, .no, .v (.ag [(I (at_ a0 x1).f0), (I (at_ a0 x1).f1), (I (at_ a0 x1).f2)]), .no, .no, .no, .v (.ag [(I (at_ a1 x1).f0), (I (at_ a1 x1).f1), (I (at_ a1 x1).f2)]), .c ⟨97, [(.ag [(I (at_ a0 x1).f0), (I (at_ a0 x1).f1), (I (at_ a0 x1).f2)]), (.ag [(I (at_ a1 x1).f0), (I (at_ a1 x1).f1), (I (at_ a1 x1).f2)])], [], (B x2), [], [], [], [], (B x2), []⟩] ⟨[(0, (.sl true a0.length 3 (a0.flatMap e89))), (1, (.sl true a1.length 3 (a1.flatMap e89))), (5, (I x1)), (26, (B (!x2)))], [], [(0 : Int) ≤ x1 ∧ x1 < (a0.length : Int), rdC prog 90 ((a0.flatMap e89).drop (x1.toNat * 3)) = (.ag [(I (at_ a0 x1).f0), (I (at_ a0 x1).f1), (I (at_ a0 x1).f2)]), 3 ≤ ((a0.flatMap e89).drop (x1.toNat * 3)).length, (0 : Int) ≤ x1 ∧ x1 < (a1.length : Int), rdC prog 90 ((a1.flatMap e89).drop (x1.toNat * 3)) = (.ag [(I (at_ a1 x1).f0), (I (at_ a1 x1).f1), (I (at_ a1 x1).f2)]), 3 ≤ ((a1.flatMap e89).drop (x1.toNat * 3)).length, COK (hget []) [(.ag [(I (at_ a0 x1).f0), (I (at_ a0 x1).f1), (I (at_ a0 x1).f2)]), (.ag [(I (at_ a1 x1).f0), (I (at_ a1 x1).f1), (I (at_ a1 x1).f2)])] ⟨97, [(.ag [(I (at_ a0 x1).f0), (I (at_ a0 x1).f1), (I (at_ a0 x1).f2)]), (.ag [(I (at_ a1 x1).f0), (I (at_ a1 x1).f1), (I (at_ a1 x1).f2)])], [], (B x2), [], [], [], [], (B x2), []⟩], [⟨97, [(.ag [(I (at_ a0 x1).f0), (I (at_ a0 x1).f1), (I (at_ a0 x1).f2)]), (.ag [(I (at_ a1 x1).f0), (I (at_ a1 x1).f1), (I (at_ a1 x1).f2)])], [], (B x2), [], [], [], [], (B x2), []⟩]⟩ [c_ 1865, b_ 1, c_ 467, l_ 58, b_ 0, c_ 15] (alc ⟨c3, c2⟩ (alc (ldA e89_ok rfl rfl c3 c2) (alc (okI e89_ok c3 c2 (by decide)) (alc ⟨c3, c4⟩ (alc (ldA e89_ok rfl rfl c3 c4) (alc (okI e89_ok c3 c4 (by decide)) (alc (cok0 false (a2c (.z (frz_ag (a2c .s (a2c .s (a2c .s a2n))))) (a2c (.z (frz_ag (a2c .s (a2c .s (a2c .s a2n))))) a2n)) (.z .s) (fun h => absurd h (by decide))) aln))))))) (acal (laws_eqCall.J (at_ a0 x1) (at_ a1 x1) _ hx2) nocal) ?_
          by_cases c5 : x2 = true
          · rw [if_pos c5] at h
            refine .cond' (.tmp 26) false [c_ 467, l_ 58, b_ 0, c_ 15] (bF (nF c5)) ?_
            refine .reg' [0, 1, 5] [] ⟨[(0, (.sl true a0.length 3 (a0.flatMap e89))), (1, (.sl true a1.length 3 (a1.flatMap e89))), (5, (I (wrap64 (x1 + 1))))], [], [], []⟩ [l_ 58, b_ 0, c_ 15] aln nocal ?_
            exact ih0 a0 a1 (wrap64 (x1 + 1)) _ h
          · rw [if_neg c5] at h
            refine .cond' (.tmp 26) true [c_ 7460, c_ 7461, b_ 1, c_ 467, l_ 58, b_ 0, c_ 15] (bT (nT (vF c5))) ?_
            refine .reg' [4] [] ⟨[(4, (B false))], [], [], []⟩ [c_ 7461, b_ 1, c_ 467, l_ 58, b_ 0, c_ 15] aln nocal ?_
            have h := Option.some.inj h
            subst h
            exact .fin0 [] (B false) [] aln (.z .s)
        · rw [if_neg c4] at h
          cases h
      · rw [if_neg c3] at h
        cases h
    · rw [if_neg c2] at h
      refine .cond' (.tmp 14) false [c_ 30, c_ 31] (bF (dF c2)) ?_
      refine .reg' [4] [] ⟨[(4, (B true))], [], [], []⟩ [c_ 31] aln nocal ?_
      have h := Option.some.inj h
      subst h
      exact .fin0 [] (B true) [] aln (.z .s)
theorem laws_eqCallS.J (k : Nat) (a0 : (List S89)) (a1 : (List S89)) (r : Bool) (h : laws_eqCallS.f k a0 a1 = some r) : J prog (.call 80 [(.sl true a0.length 3 (a0.flatMap e89)), (.sl true a1.length 3 (a1.flatMap e89))] [] (B r) []) := by
  unfold laws_eqCallS.f at h
  have ih0 := laws_eqCallS.lab k
  refine .call' [c_ 2, c_ 3] ?_
  refine .reg' [0, 1] [] ⟨[(0, (.sl true a0.length 3 (a0.flatMap e89))), (1, (.sl true a1.length 3 (a1.flatMap e89)))], [], [], []⟩ [c_ 12, c_ 13, c_ 7] aln nocal ?_
  refine .reg' [0, 1, 10] [] ⟨[(0, (.sl true a0.length 3 (a0.flatMap e89))), (1, (.sl true a1.length 3 (a1.flatMap e89))), (10, (B (!((a0.length : Int) == (a1.length : Int)))))], [], [], []⟩ [c_ 13, c_ 7] aln nocal ?_
  by_cases c1 : (a0.length : Int) = (a1.length : Int)
  · rw [if_pos c1] at h
    refine .cond' (.tmp 10) false [c_ 28, c_ 29, c_ 15] (bF (nF (qT c1))) ?_
    refine .reg' [0, 1, 5] [] ⟨[(0, (.sl true a0.length 3 (a0.flatMap e89))), (1, (.sl true a1.length 3 (a1.flatMap e89))), (5, (I 0))], [], [], []⟩ [l_ 58, b_ 0, c_ 15] aln nocal ?_
    exact ih0 a0 a1 0 _ h
  · rw [if_neg c1] at h
    refine .cond' (.tmp 10) true [c_ 52, c_ 53, c_ 7] (bT (nT (qF c1))) ?_
    refine .reg' [4] [] ⟨[(4, (B false))], [], [], []⟩ [c_ 53, c_ 7] aln nocal ?_
    have h := Option.some.inj h
    subst h
    exact .fin0 [] (B false) [] aln (.z .s)
/-! laws_eqTrip: function 43 -/
def laws_eqTrip.f (k : Nat) (a0 : S66) (a1 : S66) : Option Bool := (if (sEq a0.f0 a1.f0) = true then ((laws_eqCallS.f k a0.f1 a1.f1).bind fun x1 => (if x1 = true then (some true) else (some false))) else (some false))
theorem laws_eqTrip.J (k : Nat) (a0 : S66) (a1 : S66) (r : Bool) (h : laws_eqTrip.f k a0 a1 = some r) : J prog (.call 43 [(.ag [(S a0.f0), (.sl true a0.f1.length 3 (a0.f1.flatMap e89))]), (.ag [(S a1.f0), (.sl true a1.f1.length 3 (a1.f1.flatMap e89))])] [] (B r) []) := by
  unfold laws_eqTrip.f at h
  refine .call' [c_ 2, c_ 3] ?_
  refine .reg' [2, 3] [] ⟨[(2, (.pt 256 0 2)), (3, (.pt 257 0 2))], [(256, [(S a0.f0), (.sl true a0.f1.length 3 (a0.f1.flatMap e89))]), (257, [(S a1.f0), (.sl true a1.f1.length 3 (a1.f1.flatMap e89))])], [], []⟩ [c_ 12, c_ 13, c_ 7] aln nocal ?_
  refine .reg' [2, 3, 9] [] ⟨[(2, (.pt 256 0 2)), (3, (.pt 257 0 2)), (9, (B (!(sEq a0.f0 a1.f0))))], [(256, [(S a0.f0), (.sl true a0.f1.length 3 (a0.f1.flatMap e89))]), (257, [(S a1.f0), (.sl true a1.f1.length 3 (a1.f1.flatMap e89))])], [2 = 2 ∧ 0 + 1 ≤ 2, 2 = 2 ∧ 0 + 1 ≤ 2], []⟩ [c_ 13, c_ 7] (alc ⟨rfl, by decide⟩ (alc ⟨rfl, by decide⟩ aln)) nocal ?_
  by_cases c1 : (sEq a0.f0 a1.f0) = true
  · rw [if_pos c1] at h
    refine .cond' (.tmp 9) false [c_ 28, c_ 29, c_ 15] (bF (nF c1)) ?_
    obtain ⟨x1, hx1, h⟩ := Option.bind_eq_some_iff.mp h
    refine .reg' [15] [.no, .no, .no, .no, .c ⟨80, [(.sl true a0.f1.length 3 (a0.f1.flatMap e89)), (.sl true a1.f1.length 3 (a1.f1.flatMap e89))], [], (B x1), [], [], [], [], (B x1), []⟩] ⟨[(15, (B (!x1)))], [(256, [(S a0.f0), (.sl true a0.f1.length 3 (a0.f1.flatMap e89))]), (257, [(S a1.f0), (.sl true a1.f1.length 3 (a1.f1.flatMap e89))])], [2 = 2 ∧ 1 + 1 ≤ 2, 2 = 2 ∧ 1 + 1 ≤ 2, COK (hget [(256, [(S a0.f0), (.sl true a0.f1.length 3 (a0.f1.flatMap e89))]), (257, [(S a1.f0), (.sl true a1.f1.length 3 (a1.f1.flatMap e89))])]) [(.sl true a0.f1.length 3 (a0.f1.flatMap e89)), (.sl true a1.f1.length 3 (a1.f1.flatMap e89))] ⟨80, [(.sl true a0.f1.length 3 (a0.f1.flatMap e89)), (.sl true a1.f1.length 3 (a1.f1.flatMap e89))], [], (B x1), [], [], [], [], (B x1), []⟩], [⟨80, [(.sl true a0.f1.length 3 (a0.f1.flatMap e89)), (.sl true a1.f1.length 3 (a1.f1.flatMap e89))], [], (B x1), [], [], [], [], (B x1), []⟩]⟩ [c_ 29, c_ 15] (alc ⟨rfl, by decide⟩ (alc ⟨rfl, by decide⟩ (alc (cok0 false (a2c (.z (frz_sl e89_ok (fun h => h))) (a2c (.z (frz_sl e89_ok (fun h => h))) a2n)) (.z .s) (fun h => absurd h (by decide))) aln))) (acal (laws_eqCallS.J k a0.f1 a1.f1 _ hx1) nocal) ?_
    by_cases c2 : x1 = true
    · rw [if_pos c2] at h
      refine .cond' (.tmp 15) false [c_ 30, c_ 31] (bF (nF c2)) ?_
      refine .reg' [4] [] ⟨[(4, (B true))], [(256, [(S a0.f0), (.sl true a0.f1.length 3 (a0.f1.flatMap e89))]), (257, [(S a1.f0), (.sl true a1.f1.length 3 (a1.f1.flatMap e89))])], [], []⟩ [c_ 31] aln nocal ?_
      have h := Option.some.inj h
      subst h
      exact .fin0 [] (B true) [] aln (.z .s)
    · rw [if_neg c2] at h
      refine .cond' (.tmp 15) true [c_ 116, c_ 117, c_ 15] (bT (nT (vF c2))) ?_
      refine .reg' [4] [] ⟨[(4, (B false))], [(256, [(S a0.f0), (.sl true a0.f1.length 3 (a0.f1.flatMap e89))]), (257, [(S a1.f0), (.sl true a1.f1.length 3 (a1.f1.flatMap e89))])], [], []⟩ [c_ 117, c_ 15] aln nocal ?_
      have h := Option.some.inj h
      subst h
      exact .fin0 [] (B false) [] aln (.z .s)
  · rw [if_neg c1] at h
    refine .cond' (.tmp 9) true [c_ 52, c_ 53, c_ 7] (bT (nT (vF c1))) ?_
    refine .reg' [4] [] ⟨[(4, (B false))], [(256, [(S a0.f0), (.sl true a0.f1.length 3 (a0.f1.flatMap e89))]), (257, [(S a1.f0), (.sl true a1.f1.length 3 (a1.f1.flatMap e89))])], [], []⟩ [c_ 53, c_ 7] aln nocal ?_
    have h := Option.some.inj h
    subst h
    exact .fin0 [] (B false) [] aln (.z .s)
/-! laws_eqTripS: function 30 -/
def laws_eqTripS.l0 : Nat → (List S66) → (List S66) → Int → Option Bool
 | 0, _, _, _ => none
 | k + 1, a0, a1, x1 => (if x1 < (a0.length : Int) then (if 0 ≤ x1 then (if x1 < (a1.length : Int) then ((laws_eqTrip.f k (at_ a0 x1) (at_ a1 x1)).bind fun x2 => (if x2 = true then (laws_eqTripS.l0 k a0 a1 (wrap64 (x1 + 1))) else (some false))) else none) else none) else (some true))
def laws_eqTripS.f (k : Nat) (a0 : (List S66)) (a1 : (List S66)) : Option Bool := (if (a0.length : Int) = (a1.length : Int) then (laws_eqTripS.l0 k a0 a1 0) else (some false))
theorem laws_eqTripS.lab : ∀ k, (∀ (a0 : (List S66)) (a1 : (List S66)) (x1 : Int) (r : Bool), laws_eqTripS.l0 k a0 a1 x1 = some r → J prog (.run 30 [] [l_ 58, b_ 0, c_ 15] [(0, (.sl true a0.length 2 (a0.flatMap (e66 true)))), (1, (.sl true a1.length 2 (a1.flatMap (e66 true)))), (5, (I x1))] [] (B r) []))
 | 0 => (by intro a0 a1 x1 r h; unfold laws_eqTripS.l0 at h; cases h)
 | k + 1 => by
  have ih0 := laws_eqTripS.lab k
  · intro a0 a1 x1 r h
    unfold laws_eqTripS.l0 at h
    refine .loop' [c_ 464, c_ 465, c_ 233, l_ 58, b_ 0, c_ 15] ?_
    refine .reg' [0, 1, 5, 14] [] ⟨[(0, (.sl true a0.length 2 (a0.flatMap (e66 true)))), (1, (.sl true a1.length 2 (a1.flatMap (e66 true)))), (5, (I x1)), (14, (B (decide (x1 < (a0.length : Int)))))], [], [], []⟩ [c_ 465, c_ 233, l_ 58, b_ 0, c_ 15] aln nocal ?_
    by_cases c2 : x1 < (a0.length : Int)
    · rw [if_pos c2] at h
      refine .cond' (.tmp 14) true [c_ 1864, c_ 1865, b_ 1, c_ 467, l_ 58, b_ 0, c_ 15] (bT (dT c2)) ?_
      by_cases c3 : 0 ≤ x1
      · rw [if_pos c3] at h
        by_cases c4 : x1 < (a1.length : Int)
        · rw [if_pos c4] at h
          obtain ⟨x2, hx2, h⟩ := Option.bind_eq_some_iff.mp h
          refine .reg' [0, 1, 5, 26] [.no, .no, .no, .v (.ag [(S (at_ a0 x1).f0), (.sl true (at_ a0 x1).f1.length 3 ((at_ a0 x1).f1.flatMap e89))]), .no, .no, .no, .v (.ag [(S (at_ a1 x1).f0), (.sl true (at_ a1 x1).f1.length 3 ((at_ a1 x1).f1.flatMap e89))]), .c ⟨43, [(.ag [(S (at_ a0 x1).f0), (.sl true (at_ a0 x1).f1.length 3 ((at_ a0 x1).f1.flatMap e89))]), (.ag [(S (at_ a1 x1).f0), (.sl true (at_ a1 x1).f1.length 3 ((at_ a1 x1).f1.flatMap e89))])], [], (B x2), [], [], [], [], (B x2), []⟩] ⟨[(0, (.sl true a0.length 2 (a0.flatMap (e66 true)))), (1, (.sl true a1.length 2 (a1.flatMap (e66 true)))), (5, (I x1)), (26, (B (!x2)))], [], [(0 : Int) ≤ x1 ∧ x1 < (a0.length : Int), rdC prog 67 ((a0.flatMap (e66 true)).drop (x1.toNat * 2)) = (.ag [(S (at_ a0 x1).f0), (.sl true (at_ a0 x1).f1.length 3 ((at_ a0 x1).f1.flatMap e89))]), 2 ≤ ((a0.flatMap (e66 true)).drop (x1.toNat * 2)).length, (0 : Int) ≤ x1 ∧ x1 < (a1.length : Int), rdC prog 67 ((a1.flatMap (e66 true)).drop (x1.toNat * 2)) = (.ag [(S (at_ a1 x1).f0), (.sl true (at_ a1 x1).f1.length 3 ((at_ a1 x1).f1.flatMap e89))]), 2 ≤ ((a1.flatMap (e66 true)).drop (x1.toNat * 2)).length, COK (hget []) [(.ag [(S (at_ a0 x1).f0), (.sl true (at_ a0 x1).f1.length 3 ((at_ a0 x1).f1.flatMap e89))]), (.ag [(S (at_ a1 x1).f0), (.sl true (at_ a1 x1).f1.length 3 ((at_ a1 x1).f1.flatMap e89))])] ⟨43, [(.ag [(S (at_ a0 x1).f0), (.sl true (at_ a0 x1).f1.length 3 ((at_ a0 x1).f1.flatMap e89))]), (.ag [(S (at_ a1 x1).f0), (.sl true (at_ a1 x1).f1.length 3 ((at_ a1 x1).f1.flatMap e89))])], [], (B x2), [], [], [], [], (B x2), []⟩], [⟨43, [(.ag [(S (at_ a0 x1).f0), (.sl true (at_ a0 x1).f1.length 3 ((at_ a0 x1).f1.flatMap e89))]), (.ag [(S (at_ a1 x1).f0), (.sl true (at_ a1 x1).f1.length 3 ((at_ a1 x1).f1.flatMap e89))])], [], (B x2), [], [], [], [], (B x2), []⟩]⟩ [c_ 1865, b_ 1, c_ 467, l_ 58, b_ 0, c_ 15] (alc ⟨c3, c2⟩ (alc (ldA (e66_ok true) rfl rfl c3 c2) (alc (okI (e66_ok true) c3 c2 (by decide)) (alc ⟨c3, c4⟩ (alc (ldA (e66_ok true) rfl rfl c3 c4) (alc (okI (e66_ok true) c3 c4 (by decide)) (alc (cok0 false (a2c (.z (frz_ag (a2c .s (a2c (frz_sl e89_ok (fun h => h)) a2n)))) (a2c (.z (frz_ag (a2c .s (a2c (frz_sl e89_ok (fun h => h)) a2n)))) a2n)) (.z .s) (fun h => absurd h (by decide))) aln))))))) (acal (laws_eqTrip.J k (at_ a0 x1) (at_ a1 x1) _ hx2) nocal) ?_
          by_cases c5 : x2 = true
          · rw [if_pos c5] at h
            refine .cond' (.tmp 26) false [c_ 467, l_ 58, b_ 0, c_ 15] (bF (nF c5)) ?_
            refine .reg' [0, 1, 5] [] ⟨[(0, (.sl true a0.length 2 (a0.flatMap (e66 true)))), (1, (.sl true a1.length 2 (a1.flatMap (e66 true)))), (5, (I (wrap64 (x1 + 1))))], [], [], []⟩ [l_ 58, b_ 0, c_ 15] aln nocal ?_
            exact ih0 a0 a1 (wrap64 (x1 + 1)) _ h
          · rw [if_neg c5] at h
            refine .cond' (.tmp 26) true [c_ 7460, c_ 7461, b_ 1, c_ 467, l_ 58, b_ 0, c_ 15] (bT (nT (vF c5))) ?_
            refine .reg' [4] [] ⟨[(4, (B false))], [], [], []⟩ [c_ 7461, b_ 1, c_ 467, l_ 58, b_ 0, c_ 15] aln nocal ?_
            have h := Option.some.inj h
            subst h
            exact .fin0 [] (B false) [] aln (.z .s)
        · rw [if_neg c4] at h
          cases h
      · rw [if_neg c3] at h
        cases h
    · rw [if_neg c2] at h
      refine .cond' (.tmp 14) false [c_ 30, c_ 31] (bF (dF c2)) ?_
      refine .reg' [4] [] ⟨[(4, (B true))], [], [], []⟩ [c_ 31] aln nocal ?_
      have h := Option.some.inj h
      subst h
      exact .fin0 [] (B true) [] aln (.z .s)
theorem laws_eqTripS.J (k : Nat) (a0 : (List S66)) (a1 : (List S66)) (r : Bool) (h : laws_eqTripS.f k a0 a1 = some r) : J prog (.call 30 [(.sl true a0.length 2 (a0.flatMap (e66 true))), (.sl true a1.length 2 (a1.flatMap (e66 true)))] [] (B r) []) := by
  unfold laws_eqTripS.f at h
  have ih0 := laws_eqTripS.lab k
  refine .call' [c_ 2, c_ 3] ?_
  refine .reg' [0, 1] [] ⟨[(0, (.sl true a0.length 2 (a0.flatMap (e66 true)))), (1, (.sl true a1.length 2 (a1.flatMap (e66 true))))], [], [], []⟩ [c_ 12, c_ 13, c_ 7] aln nocal ?_
  refine .reg' [0, 1, 10] [] ⟨[(0, (.sl true a0.length 2 (a0.flatMap (e66 true)))), (1, (.sl true a1.length 2 (a1.flatMap (e66 true)))), (10, (B (!((a0.length : Int) == (a1.length : Int)))))], [], [], []⟩ [c_ 13, c_ 7] aln nocal ?_
  by_cases c1 : (a0.length : Int) = (a1.length : Int)
  · rw [if_pos c1] at h
    refine .cond' (.tmp 10) false [c_ 28, c_ 29, c_ 15] (bF (nF (qT c1))) ?_
    refine .reg' [0, 1, 5] [] ⟨[(0, (.sl true a0.length 2 (a0.flatMap (e66 true)))), (1, (.sl true a1.length 2 (a1.flatMap (e66 true)))), (5, (I 0))], [], [], []⟩ [l_ 58, b_ 0, c_ 15] aln nocal ?_
    exact ih0 a0 a1 0 _ h
  · rw [if_neg c1] at h
    refine .cond' (.tmp 10) true [c_ 52, c_ 53, c_ 7] (bT (nT (qF c1))) ?_
    refine .reg' [4] [] ⟨[(4, (B false))], [], [], []⟩ [c_ 53, c_ 7] aln nocal ?_
    have h := Option.some.inj h
    subst h
    exact .fin0 [] (B false) [] aln (.z .s)
/-! laws_FnExactClean: function 8 -/
def laws_FnExactClean.f (k : Nat) (a0 : S39) (a1 : (List S61)) (a2 : Int) : Option Bool := ((laws_szNet.f a0 1048576).bind fun x1 => (if x1 < 0 then (some true) else ((laws_szTripS.f k a1 x1).bind fun x2 => (if x2 < 0 then (some true) else ((laws_toNet.f k a0).bind fun x3 => ((laws_toTripS.f k a1).bind fun x4 => ((spec_Clean.f k x3 x4 a2).bind fun x5 => ((laws_toNet.f k a0).bind fun x6 => ((laws_toTripS.f k a1).bind fun x7 => ((impl_Clean.f k x6 x7 a2).bind fun x8 => (if (x8 == x5) = true then ((laws_toNet.f k a0).bind fun x9 => ((laws_eqNet.f k x6 x9).bind fun x10 => (if x10 = true then ((laws_toTripS.f k a1).bind fun x11 => ((laws_eqTripS.f k x7 x11).bind fun x12 => (if x12 = true then (some true) else (some false)))) else (some false)))) else (some false))))))))))))
theorem laws_FnExactClean.J (k : Nat) (a0 : S39) (a1 : (List S61)) (a2 : Int) (r : Bool) (h : laws_FnExactClean.f k a0 a1 a2 = some r) : J prog (.call 8 [(.ag [(I a0.f0), (.sl true a0.f1.length 4 (a0.f1.flatMap e95))]), (.sl true a1.length 2 (a1.flatMap (e61 true))), (I a2)] [] (B r) []) := by
  unfold laws_FnExactClean.f at h
  refine .call' [c_ 2, c_ 3] ?_
  refine .reg' [1, 2, 3] [] ⟨[(1, (.sl true a1.length 2 (a1.flatMap (e61 true)))), (2, (I a2)), (3, (.pt 256 0 2))], [(256, [(I a0.f0), (.sl true a0.f1.length 4 (a0.f1.flatMap e95))])], [], []⟩ [c_ 6, c_ 7] aln nocal ?_
  refine .reg' [1, 2, 3, 7] [] ⟨[(1, (.sl true a1.length 2 (a1.flatMap (e61 true)))), (2, (I a2)), (3, (.pt 256 0 2)), (7, (I 1048576))], [(256, [(I a0.f0), (.sl true a0.f1.length 4 (a0.f1.flatMap e95))])], [], []⟩ [c_ 14, c_ 15] aln nocal ?_
  obtain ⟨x1, hx1, h⟩ := Option.bind_eq_some_iff.mp h
  refine .reg' [1, 2, 3, 7] [.no, .no, .c ⟨23, [(.ag [(I a0.f0), (.sl true a0.f1.length 4 (a0.f1.flatMap e95))]), (I 1048576)], [], (I x1), [], [], [], [], (I x1), []⟩] ⟨[(1, (.sl true a1.length 2 (a1.flatMap (e61 true)))), (2, (I a2)), (3, (.pt 256 0 2)), (7, (I x1))], [(256, [(I a0.f0), (.sl true a0.f1.length 4 (a0.f1.flatMap e95))])], [2 = 2 ∧ 0 + 2 ≤ 2, COK (hget [(256, [(I a0.f0), (.sl true a0.f1.length 4 (a0.f1.flatMap e95))])]) [(.ag [(I a0.f0), (.sl true a0.f1.length 4 (a0.f1.flatMap e95))]), (I 1048576)] ⟨23, [(.ag [(I a0.f0), (.sl true a0.f1.length 4 (a0.f1.flatMap e95))]), (I 1048576)], [], (I x1), [], [], [], [], (I x1), []⟩], [⟨23, [(.ag [(I a0.f0), (.sl true a0.f1.length 4 (a0.f1.flatMap e95))]), (I 1048576)], [], (I x1), [], [], [], [], (I x1), []⟩]⟩ [c_ 60, c_ 61, c_ 31] (alc ⟨rfl, by decide⟩ (alc (cok0 false (a2c (.z (frz_ag (a2c .s (a2c (frz_sl e95_ok (fun h => h)) a2n)))) (a2c (.z .s) a2n)) (.z .s) (fun h => absurd h (by decide))) aln)) (acal (laws_szNet.J a0 1048576 _ hx1) nocal) ?_
  refine .reg' [1, 2, 3, 7, 16] [] ⟨[(1, (.sl true a1.length 2 (a1.flatMap (e61 true)))), (2, (I a2)), (3, (.pt 256 0 2)), (7, (I x1)), (16, (B (decide (x1 < 0))))], [(256, [(I a0.f0), (.sl true a0.f1.length 4 (a0.f1.flatMap e95))])], [], []⟩ [c_ 61, c_ 31] aln nocal ?_
  by_cases c1 : x1 < 0
  · rw [if_pos c1] at h
    refine .cond' (.tmp 16) true [c_ 244, c_ 245, c_ 31] (bT (dT c1)) ?_
    refine .reg' [6] [] ⟨[(6, (B true))], [(256, [(I a0.f0), (.sl true a0.f1.length 4 (a0.f1.flatMap e95))])], [], []⟩ [c_ 245, c_ 31] aln nocal ?_
    have h := Option.some.inj h
    subst h
    exact .fin0 [] (B true) [] aln (.z .s)
  · rw [if_neg c1] at h
    refine .cond' (.tmp 16) false [c_ 62, c_ 63] (bF (dF c1)) ?_
    obtain ⟨x2, hx2, h⟩ := Option.bind_eq_some_iff.mp h
    refine .reg' [1, 2, 3, 7] [.no, .no, .c ⟨24, [(.sl true a1.length 2 (a1.flatMap (e61 true))), (I x1)], [], (I x2), [], [], [], [], (I x2), []⟩] ⟨[(1, (.sl true a1.length 2 (a1.flatMap (e61 true)))), (2, (I a2)), (3, (.pt 256 0 2)), (7, (I x2))], [(256, [(I a0.f0), (.sl true a0.f1.length 4 (a0.f1.flatMap e95))])], [COK (hget [(256, [(I a0.f0), (.sl true a0.f1.length 4 (a0.f1.flatMap e95))])]) [(.sl true a1.length 2 (a1.flatMap (e61 true))), (I x1)] ⟨24, [(.sl true a1.length 2 (a1.flatMap (e61 true))), (I x1)], [], (I x2), [], [], [], [], (I x2), []⟩], [⟨24, [(.sl true a1.length 2 (a1.flatMap (e61 true))), (I x1)], [], (I x2), [], [], [], [], (I x2), []⟩]⟩ [c_ 252, c_ 253, c_ 127] (alc (cok0 false (a2c (.z (frz_sl (e61_ok true) (fun h => h))) (a2c (.z .s) a2n)) (.z .s) (fun h => absurd h (by decide))) aln) (acal (laws_szTripS.J k a1 x1 _ hx2) nocal) ?_
    refine .reg' [1, 2, 3, 21] [] ⟨[(1, (.sl true a1.length 2 (a1.flatMap (e61 true)))), (2, (I a2)), (3, (.pt 256 0 2)), (21, (B (decide (x2 < 0))))], [(256, [(I a0.f0), (.sl true a0.f1.length 4 (a0.f1.flatMap e95))])], [], []⟩ [c_ 253, c_ 127] aln nocal ?_
    by_cases c2 : x2 < 0
    · rw [if_pos c2] at h
      refine .cond' (.tmp 21) true [c_ 1012, c_ 1013, c_ 127] (bT (dT c2)) ?_
      refine .reg' [6] [] ⟨[(6, (B true))], [(256, [(I a0.f0), (.sl true a0.f1.length 4 (a0.f1.flatMap e95))])], [], []⟩ [c_ 1013, c_ 127] aln nocal ?_
      have h := Option.some.inj h
      subst h
      exact .fin0 [] (B true) [] aln (.z .s)
    · rw [if_neg c2] at h
      refine .cond' (.tmp 21) false [c_ 254, c_ 255] (bF (dF c2)) ?_
      obtain ⟨x3, hx3, h⟩ := Option.bind_eq_some_iff.mp h
      obtain ⟨x4, hx4, h⟩ := Option.bind_eq_some_iff.mp h
      obtain ⟨x5, hx5, h⟩ := Option.bind_eq_some_iff.mp h
      refine .reg' [1, 2, 3, 8] [.no, .c ⟨26, [(.ag [(I a0.f0), (.sl true a0.f1.length 4 (a0.f1.flatMap e95))])], [], (.ag [(I x3.f0), (.rf 1001026 0 x3.f1.length 4 (x3.f1.length * 4))]), [(1001026, (x3.f1.flatMap e95))], [], [], [(1002305, 1001026)], (.ag [(I x3.f0), (.rf 1002305 0 x3.f1.length 4 (x3.f1.length * 4))]), [(1002305, (x3.f1.flatMap e95))]⟩, .no, .c ⟨27, [(.sl true a1.length 2 (a1.flatMap (e61 true)))], [], (.rf 514 0 x4.length 2 (x4.length * 2)), [(514, (x4.flatMap (e66 false)))], [], [], [(1002307, 514)], (.rf 1002307 0 x4.length 2 (x4.length * 2)), [(1002307, (x4.flatMap (e66 false)))]⟩, .no, .c ⟨37, [(.ag [(I x3.f0), (.sl true x3.f1.length 4 (x3.f1.flatMap e95))]), (.sl true x4.length 2 (x4.flatMap (e66 true))), (I a2)], [], (B x5), [], [1002305, 1002307], [], [], (B x5), []⟩] ⟨[(1, (.sl true a1.length 2 (a1.flatMap (e61 true)))), (2, (I a2)), (3, (.pt 256 0 2)), (8, (B x5))], [(256, [(I a0.f0), (.sl true a0.f1.length 4 (a0.f1.flatMap e95))]), (1002305, (x3.f1.flatMap e95)), (1002307, (x4.flatMap (e66 false)))], [2 = 2 ∧ 0 + 2 ≤ 2, COK (hget [(256, [(I a0.f0), (.sl true a0.f1.length 4 (a0.f1.flatMap e95))])]) [(.ag [(I a0.f0), (.sl true a0.f1.length 4 (a0.f1.flatMap e95))])] ⟨26, [(.ag [(I a0.f0), (.sl true a0.f1.length 4 (a0.f1.flatMap e95))])], [], (.ag [(I x3.f0), (.rf 1001026 0 x3.f1.length 4 (x3.f1.length * 4))]), [(1001026, (x3.f1.flatMap e95))], [], [], [(1002305, 1001026)], (.ag [(I x3.f0), (.rf 1002305 0 x3.f1.length 4 (x3.f1.length * 4))]), [(1002305, (x3.f1.flatMap e95))]⟩, COK (hget [(256, [(I a0.f0), (.sl true a0.f1.length 4 (a0.f1.flatMap e95))]), (1002305, (x3.f1.flatMap e95))]) [(.sl true a1.length 2 (a1.flatMap (e61 true)))] ⟨27, [(.sl true a1.length 2 (a1.flatMap (e61 true)))], [], (.rf 514 0 x4.length 2 (x4.length * 2)), [(514, (x4.flatMap (e66 false)))], [], [], [(1002307, 514)], (.rf 1002307 0 x4.length 2 (x4.length * 2)), [(1002307, (x4.flatMap (e66 false)))]⟩, COK (hget [(256, [(I a0.f0), (.sl true a0.f1.length 4 (a0.f1.flatMap e95))]), (1002305, (x3.f1.flatMap e95)), (1002307, (x4.flatMap (e66 false)))]) [(.ag [(I x3.f0), (.rf 1002305 0 x3.f1.length 4 (x3.f1.length * 4))]), (.rf 1002307 0 x4.length 2 (x4.length * 2)), (I a2)] ⟨37, [(.ag [(I x3.f0), (.sl true x3.f1.length 4 (x3.f1.flatMap e95))]), (.sl true x4.length 2 (x4.flatMap (e66 true))), (I a2)], [], (B x5), [], [1002305, 1002307], [], [], (B x5), []⟩], [⟨26, [(.ag [(I a0.f0), (.sl true a0.f1.length 4 (a0.f1.flatMap e95))])], [], (.ag [(I x3.f0), (.rf 1001026 0 x3.f1.length 4 (x3.f1.length * 4))]), [(1001026, (x3.f1.flatMap e95))], [], [], [(1002305, 1001026)], (.ag [(I x3.f0), (.rf 1002305 0 x3.f1.length 4 (x3.f1.length * 4))]), [(1002305, (x3.f1.flatMap e95))]⟩, ⟨27, [(.sl true a1.length 2 (a1.flatMap (e61 true)))], [], (.rf 514 0 x4.length 2 (x4.length * 2)), [(514, (x4.flatMap (e66 false)))], [], [], [(1002307, 514)], (.rf 1002307 0 x4.length 2 (x4.length * 2)), [(1002307, (x4.flatMap (e66 false)))]⟩, ⟨37, [(.ag [(I x3.f0), (.sl true x3.f1.length 4 (x3.f1.flatMap e95))]), (.sl true x4.length 2 (x4.flatMap (e66 true))), (I a2)], [], (B x5), [], [1002305, 1002307], [], [], (B x5), []⟩]⟩ [c_ 510, c_ 511] (alc ⟨rfl, by decide⟩ (alc (cokW false (a2c (.z (frz_ag (a2c .s (a2c (frz_sl e95_ok (fun h => h)) a2n)))) a2n) akn (akc (.inr rfl) akn) (bck_ag (a2c (.z .s) (a2c (.rf (memP_mem (p := (1002305, 1001026)) rfl)) a2n))) (akc ⟨_, _, rfl, rfl, rowB e95_c _⟩ akn) (fun h => absurd h (by decide))) (alc (cokW false (a2c (.z (frz_sl (e61_ok true) (fun h => h))) a2n) akn (akc (.inr rfl) akn) (.rf (memP_mem (p := (1002307, 514)) rfl)) (akc ⟨_, _, rfl, rfl, rowB e66_c0 _⟩ akn) (fun h => absurd h (by decide))) (alc (cok0 false (a2c (cnv_ag (a2c (.z .s) (a2c (.z (frz_rf e95_ok (by simp) rfl rfl (row_len e95_ok _).symm)) a2n))) (a2c (.z (frz_rfT (fun x => e66_to x) (e66_ok false) (by simp) rfl rfl (row_len (e66_ok false) _).symm)) (a2c (.z .s) a2n))) (.z .s) (fun h => absurd h (by decide))) aln)))) (acal (laws_toNet.J k a0 _ hx3) (acal (laws_toTripS.J k a1 _ hx4) (acal (spec_Clean.J k x3 x4 a2 _ hx5) nocal))) ?_
      obtain ⟨x6, hx6, h⟩ := Option.bind_eq_some_iff.mp h
      refine .reg' [1, 2, 3, 8, 9] [.no, .c ⟨26, [(.ag [(I a0.f0), (.sl true a0.f1.length 4 (a0.f1.flatMap e95))])], [], (.ag [(I x6.f0), (.rf 1001026 0 x6.f1.length 4 (x6.f1.length * 4))]), [(1001026, (x6.f1.flatMap e95))], [], [], [(1002561, 1001026)], (.ag [(I x6.f0), (.rf 1002561 0 x6.f1.length 4 (x6.f1.length * 4))]), [(1002561, (x6.f1.flatMap e95))]⟩] ⟨[(1, (.sl true a1.length 2 (a1.flatMap (e61 true)))), (2, (I a2)), (3, (.pt 256 0 2)), (8, (B x5)), (9, (.pt 2562 0 2))], [(256, [(I a0.f0), (.sl true a0.f1.length 4 (a0.f1.flatMap e95))]), (1002305, (x3.f1.flatMap e95)), (1002307, (x4.flatMap (e66 false))), (1002561, (x6.f1.flatMap e95)), (2562, [(I x6.f0), (.rf 1002561 0 x6.f1.length 4 (x6.f1.length * 4))])], [2 = 2 ∧ 0 + 2 ≤ 2, COK (hget [(256, [(I a0.f0), (.sl true a0.f1.length 4 (a0.f1.flatMap e95))]), (1002305, (x3.f1.flatMap e95)), (1002307, (x4.flatMap (e66 false)))]) [(.ag [(I a0.f0), (.sl true a0.f1.length 4 (a0.f1.flatMap e95))])] ⟨26, [(.ag [(I a0.f0), (.sl true a0.f1.length 4 (a0.f1.flatMap e95))])], [], (.ag [(I x6.f0), (.rf 1001026 0 x6.f1.length 4 (x6.f1.length * 4))]), [(1001026, (x6.f1.flatMap e95))], [], [], [(1002561, 1001026)], (.ag [(I x6.f0), (.rf 1002561 0 x6.f1.length 4 (x6.f1.length * 4))]), [(1002561, (x6.f1.flatMap e95))]⟩, 2 = 2 ∧ 0 + 2 ≤ 2], [⟨26, [(.ag [(I a0.f0), (.sl true a0.f1.length 4 (a0.f1.flatMap e95))])], [], (.ag [(I x6.f0), (.rf 1001026 0 x6.f1.length 4 (x6.f1.length * 4))]), [(1001026, (x6.f1.flatMap e95))], [], [], [(1002561, 1001026)], (.ag [(I x6.f0), (.rf 1002561 0 x6.f1.length 4 (x6.f1.length * 4))]), [(1002561, (x6.f1.flatMap e95))]⟩]⟩ [c_ 1022, c_ 1023] (alc ⟨rfl, by decide⟩ (alc (cokW false (a2c (.z (frz_ag (a2c .s (a2c (frz_sl e95_ok (fun h => h)) a2n)))) a2n) akn (akc (.inr rfl) akn) (bck_ag (a2c (.z .s) (a2c (.rf (memP_mem (p := (1002561, 1001026)) rfl)) a2n))) (akc ⟨_, _, rfl, rfl, rowB e95_c _⟩ akn) (fun h => absurd h (by decide))) (alc ⟨rfl, by decide⟩ aln))) (acal (laws_toNet.J k a0 _ hx6) nocal) ?_
      obtain ⟨x7, hx7, h⟩ := Option.bind_eq_some_iff.mp h
      refine .reg' [1, 2, 3, 8, 9, 10] [.no, .c ⟨27, [(.sl true a1.length 2 (a1.flatMap (e61 true)))], [], (.rf 514 0 x7.length 2 (x7.length * 2)), [(514, (x7.flatMap (e66 false)))], [], [], [(1002817, 514)], (.rf 1002817 0 x7.length 2 (x7.length * 2)), [(1002817, (x7.flatMap (e66 false)))]⟩] ⟨[(1, (.sl true a1.length 2 (a1.flatMap (e61 true)))), (2, (I a2)), (3, (.pt 256 0 2)), (8, (B x5)), (9, (.pt 2562 0 2)), (10, (.rf 1002817 0 x7.length 2 (x7.length * 2)))], [(256, [(I a0.f0), (.sl true a0.f1.length 4 (a0.f1.flatMap e95))]), (1002305, (x3.f1.flatMap e95)), (1002307, (x4.flatMap (e66 false))), (1002561, (x6.f1.flatMap e95)), (2562, [(I x6.f0), (.rf 1002561 0 x6.f1.length 4 (x6.f1.length * 4))]), (1002817, (x7.flatMap (e66 false)))], [COK (hget [(256, [(I a0.f0), (.sl true a0.f1.length 4 (a0.f1.flatMap e95))]), (1002305, (x3.f1.flatMap e95)), (1002307, (x4.flatMap (e66 false))), (1002561, (x6.f1.flatMap e95)), (2562, [(I x6.f0), (.rf 1002561 0 x6.f1.length 4 (x6.f1.length * 4))])]) [(.sl true a1.length 2 (a1.flatMap (e61 true)))] ⟨27, [(.sl true a1.length 2 (a1.flatMap (e61 true)))], [], (.rf 514 0 x7.length 2 (x7.length * 2)), [(514, (x7.flatMap (e66 false)))], [], [], [(1002817, 514)], (.rf 1002817 0 x7.length 2 (x7.length * 2)), [(1002817, (x7.flatMap (e66 false)))]⟩], [⟨27, [(.sl true a1.length 2 (a1.flatMap (e61 true)))], [], (.rf 514 0 x7.length 2 (x7.length * 2)), [(514, (x7.flatMap (e66 false)))], [], [], [(1002817, 514)], (.rf 1002817 0 x7.length 2 (x7.length * 2)), [(1002817, (x7.flatMap (e66 false)))]⟩]⟩ [c_ 2046, c_ 2047] (alc (cokW false (a2c (.z (frz_sl (e61_ok true) (fun h => h))) a2n) akn (akc (.inr rfl) akn) (.rf (memP_mem (p := (1002817, 514)) rfl)) (akc ⟨_, _, rfl, rfl, rowB e66_c0 _⟩ akn) (fun h => absurd h (by decide))) aln) (acal (laws_toTripS.J k a1 _ hx7) nocal) ?_
      obtain ⟨x8, hx8, h⟩ := Option.bind_eq_some_iff.mp h
      refine .reg' [1, 3, 8, 9, 10, 11] [.no, .no, .no, .c ⟨38, [(.ag [(I x6.f0), (.sl true x6.f1.length 4 (x6.f1.flatMap e95))]), (.sl true x7.length 2 (x7.flatMap (e66 true))), (I a2)], [], (B x8), [], [1002561, 1002817], [], [], (B x8), []⟩] ⟨[(1, (.sl true a1.length 2 (a1.flatMap (e61 true)))), (3, (.pt 256 0 2)), (8, (B x5)), (9, (.pt 2562 0 2)), (10, (.rf 1002817 0 x7.length 2 (x7.length * 2))), (11, (B x8))], [(256, [(I a0.f0), (.sl true a0.f1.length 4 (a0.f1.flatMap e95))]), (1002305, (x3.f1.flatMap e95)), (1002307, (x4.flatMap (e66 false))), (1002561, (x6.f1.flatMap e95)), (2562, [(I x6.f0), (.rf 1002561 0 x6.f1.length 4 (x6.f1.length * 4))]), (1002817, (x7.flatMap (e66 false)))], [2 = 2 ∧ 0 + 2 ≤ 2, COK (hget [(256, [(I a0.f0), (.sl true a0.f1.length 4 (a0.f1.flatMap e95))]), (1002305, (x3.f1.flatMap e95)), (1002307, (x4.flatMap (e66 false))), (1002561, (x6.f1.flatMap e95)), (2562, [(I x6.f0), (.rf 1002561 0 x6.f1.length 4 (x6.f1.length * 4))]), (1002817, (x7.flatMap (e66 false)))]) [(.ag [(I x6.f0), (.rf 1002561 0 x6.f1.length 4 (x6.f1.length * 4))]), (.rf 1002817 0 x7.length 2 (x7.length * 2)), (I a2)] ⟨38, [(.ag [(I x6.f0), (.sl true x6.f1.length 4 (x6.f1.flatMap e95))]), (.sl true x7.length 2 (x7.flatMap (e66 true))), (I a2)], [], (B x8), [], [1002561, 1002817], [], [], (B x8), []⟩], [⟨38, [(.ag [(I x6.f0), (.sl true x6.f1.length 4 (x6.f1.flatMap e95))]), (.sl true x7.length 2 (x7.flatMap (e66 true))), (I a2)], [], (B x8), [], [1002561, 1002817], [], [], (B x8), []⟩]⟩ [c_ 8188, c_ 8189, c_ 4095] (alc ⟨rfl, by decide⟩ (alc (cok0 false (a2c (cnv_ag (a2c (.z .s) (a2c (.z (frz_rf e95_ok (by simp) rfl rfl (row_len e95_ok _).symm)) a2n))) (a2c (.z (frz_rfT (fun x => e66_to x) (e66_ok false) (by simp) rfl rfl (row_len (e66_ok false) _).symm)) (a2c (.z .s) a2n))) (.z .s) (fun h => absurd h (by decide))) aln)) (acal (impl_Clean.J k x6 x7 a2 _ hx8) nocal) ?_
      refine .reg' [1, 3, 9, 10, 38] [] ⟨[(1, (.sl true a1.length 2 (a1.flatMap (e61 true)))), (3, (.pt 256 0 2)), (9, (.pt 2562 0 2)), (10, (.rf 1002817 0 x7.length 2 (x7.length * 2))), (38, (B (!(x8 == x5))))], [(256, [(I a0.f0), (.sl true a0.f1.length 4 (a0.f1.flatMap e95))]), (1002305, (x3.f1.flatMap e95)), (1002307, (x4.flatMap (e66 false))), (1002561, (x6.f1.flatMap e95)), (2562, [(I x6.f0), (.rf 1002561 0 x6.f1.length 4 (x6.f1.length * 4))]), (1002817, (x7.flatMap (e66 false)))], [], []⟩ [c_ 8189, c_ 4095] aln nocal ?_
      by_cases c3 : (x8 == x5) = true
      · rw [if_pos c3] at h
        refine .cond' (.tmp 38) false [c_ 16380, c_ 16381, c_ 8191] (bF (nF c3)) ?_
        obtain ⟨x9, hx9, h⟩ := Option.bind_eq_some_iff.mp h
        obtain ⟨x10, hx10, h⟩ := Option.bind_eq_some_iff.mp h
        refine .reg' [1, 10, 43] [.no, .no, .c ⟨26, [(.ag [(I a0.f0), (.sl true a0.f1.length 4 (a0.f1.flatMap e95))])], [], (.ag [(I x9.f0), (.rf 1001026 0 x9.f1.length 4 (x9.f1.length * 4))]), [(1001026, (x9.f1.flatMap e95))], [], [], [(1003842, 1001026)], (.ag [(I x9.f0), (.rf 1003842 0 x9.f1.length 4 (x9.f1.length * 4))]), [(1003842, (x9.f1.flatMap e95))]⟩, .c ⟨29, [(.ag [(I x6.f0), (.sl true x6.f1.length 4 (x6.f1.flatMap e95))]), (.ag [(I x9.f0), (.sl true x9.f1.length 4 (x9.f1.flatMap e95))])], [], (B x10), [], [1002561, 1003842], [], [], (B x10), []⟩] ⟨[(1, (.sl true a1.length 2 (a1.flatMap (e61 true)))), (10, (.rf 1002817 0 x7.length 2 (x7.length * 2))), (43, (B (!x10)))], [(256, [(I a0.f0), (.sl true a0.f1.length 4 (a0.f1.flatMap e95))]), (1002305, (x3.f1.flatMap e95)), (1002307, (x4.flatMap (e66 false))), (1002561, (x6.f1.flatMap e95)), (2562, [(I x6.f0), (.rf 1002561 0 x6.f1.length 4 (x6.f1.length * 4))]), (1002817, (x7.flatMap (e66 false))), (1003842, (x9.f1.flatMap e95))], [2 = 2 ∧ 0 + 2 ≤ 2, 2 = 2 ∧ 0 + 2 ≤ 2, COK (hget [(256, [(I a0.f0), (.sl true a0.f1.length 4 (a0.f1.flatMap e95))]), (1002305, (x3.f1.flatMap e95)), (1002307, (x4.flatMap (e66 false))), (1002561, (x6.f1.flatMap e95)), (2562, [(I x6.f0), (.rf 1002561 0 x6.f1.length 4 (x6.f1.length * 4))]), (1002817, (x7.flatMap (e66 false)))]) [(.ag [(I a0.f0), (.sl true a0.f1.length 4 (a0.f1.flatMap e95))])] ⟨26, [(.ag [(I a0.f0), (.sl true a0.f1.length 4 (a0.f1.flatMap e95))])], [], (.ag [(I x9.f0), (.rf 1001026 0 x9.f1.length 4 (x9.f1.length * 4))]), [(1001026, (x9.f1.flatMap e95))], [], [], [(1003842, 1001026)], (.ag [(I x9.f0), (.rf 1003842 0 x9.f1.length 4 (x9.f1.length * 4))]), [(1003842, (x9.f1.flatMap e95))]⟩, COK (hget [(256, [(I a0.f0), (.sl true a0.f1.length 4 (a0.f1.flatMap e95))]), (1002305, (x3.f1.flatMap e95)), (1002307, (x4.flatMap (e66 false))), (1002561, (x6.f1.flatMap e95)), (2562, [(I x6.f0), (.rf 1002561 0 x6.f1.length 4 (x6.f1.length * 4))]), (1002817, (x7.flatMap (e66 false))), (1003842, (x9.f1.flatMap e95))]) [(.ag [(I x6.f0), (.rf 1002561 0 x6.f1.length 4 (x6.f1.length * 4))]), (.ag [(I x9.f0), (.rf 1003842 0 x9.f1.length 4 (x9.f1.length * 4))])] ⟨29, [(.ag [(I x6.f0), (.sl true x6.f1.length 4 (x6.f1.flatMap e95))]), (.ag [(I x9.f0), (.sl true x9.f1.length 4 (x9.f1.flatMap e95))])], [], (B x10), [], [1002561, 1003842], [], [], (B x10), []⟩], [⟨26, [(.ag [(I a0.f0), (.sl true a0.f1.length 4 (a0.f1.flatMap e95))])], [], (.ag [(I x9.f0), (.rf 1001026 0 x9.f1.length 4 (x9.f1.length * 4))]), [(1001026, (x9.f1.flatMap e95))], [], [], [(1003842, 1001026)], (.ag [(I x9.f0), (.rf 1003842 0 x9.f1.length 4 (x9.f1.length * 4))]), [(1003842, (x9.f1.flatMap e95))]⟩, ⟨29, [(.ag [(I x6.f0), (.sl true x6.f1.length 4 (x6.f1.flatMap e95))]), (.ag [(I x9.f0), (.sl true x9.f1.length 4 (x9.f1.flatMap e95))])], [], (B x10), [], [1002561, 1003842], [], [], (B x10), []⟩]⟩ [c_ 16381, c_ 8191] (alc ⟨rfl, by decide⟩ (alc ⟨rfl, by decide⟩ (alc (cokW false (a2c (.z (frz_ag (a2c .s (a2c (frz_sl e95_ok (fun h => h)) a2n)))) a2n) akn (akc (.inr rfl) akn) (bck_ag (a2c (.z .s) (a2c (.rf (memP_mem (p := (1003842, 1001026)) rfl)) a2n))) (akc ⟨_, _, rfl, rfl, rowB e95_c _⟩ akn) (fun h => absurd h (by decide))) (alc (cok0 false (a2c (cnv_ag (a2c (.z .s) (a2c (.z (frz_rf e95_ok (by simp) rfl rfl (row_len e95_ok _).symm)) a2n))) (a2c (cnv_ag (a2c (.z .s) (a2c (.z (frz_rf e95_ok (by simp) rfl rfl (row_len e95_ok _).symm)) a2n))) a2n)) (.z .s) (fun h => absurd h (by decide))) aln)))) (acal (laws_toNet.J k a0 _ hx9) (acal (laws_eqNet.J k x6 x9 _ hx10) nocal)) ?_
        by_cases c4 : x10 = true
        · rw [if_pos c4] at h
          refine .cond' (.tmp 43) false [c_ 32764, c_ 32765, c_ 16383] (bF (nF c4)) ?_
          obtain ⟨x11, hx11, h⟩ := Option.bind_eq_some_iff.mp h
          obtain ⟨x12, hx12, h⟩ := Option.bind_eq_some_iff.mp h
          refine .reg' [48] [.no, .no, .c ⟨27, [(.sl true a1.length 2 (a1.flatMap (e61 true)))], [], (.rf 514 0 x11.length 2 (x11.length * 2)), [(514, (x11.flatMap (e66 false)))], [], [], [(1004354, 514)], (.rf 1004354 0 x11.length 2 (x11.length * 2)), [(1004354, (x11.flatMap (e66 false)))]⟩, .c ⟨30, [(.sl true x7.length 2 (x7.flatMap (e66 true))), (.sl true x11.length 2 (x11.flatMap (e66 true)))], [], (B x12), [], [1002817, 1004354], [], [], (B x12), []⟩] ⟨[(48, (B (!x12)))], [(256, [(I a0.f0), (.sl true a0.f1.length 4 (a0.f1.flatMap e95))]), (1002305, (x3.f1.flatMap e95)), (1002307, (x4.flatMap (e66 false))), (1002561, (x6.f1.flatMap e95)), (2562, [(I x6.f0), (.rf 1002561 0 x6.f1.length 4 (x6.f1.length * 4))]), (1002817, (x7.flatMap (e66 false))), (1003842, (x9.f1.flatMap e95)), (1004354, (x11.flatMap (e66 false)))], [COK (hget [(256, [(I a0.f0), (.sl true a0.f1.length 4 (a0.f1.flatMap e95))]), (1002305, (x3.f1.flatMap e95)), (1002307, (x4.flatMap (e66 false))), (1002561, (x6.f1.flatMap e95)), (2562, [(I x6.f0), (.rf 1002561 0 x6.f1.length 4 (x6.f1.length * 4))]), (1002817, (x7.flatMap (e66 false))), (1003842, (x9.f1.flatMap e95))]) [(.sl true a1.length 2 (a1.flatMap (e61 true)))] ⟨27, [(.sl true a1.length 2 (a1.flatMap (e61 true)))], [], (.rf 514 0 x11.length 2 (x11.length * 2)), [(514, (x11.flatMap (e66 false)))], [], [], [(1004354, 514)], (.rf 1004354 0 x11.length 2 (x11.length * 2)), [(1004354, (x11.flatMap (e66 false)))]⟩, COK (hget [(256, [(I a0.f0), (.sl true a0.f1.length 4 (a0.f1.flatMap e95))]), (1002305, (x3.f1.flatMap e95)), (1002307, (x4.flatMap (e66 false))), (1002561, (x6.f1.flatMap e95)), (2562, [(I x6.f0), (.rf 1002561 0 x6.f1.length 4 (x6.f1.length * 4))]), (1002817, (x7.flatMap (e66 false))), (1003842, (x9.f1.flatMap e95)), (1004354, (x11.flatMap (e66 false)))]) [(.rf 1002817 0 x7.length 2 (x7.length * 2)), (.rf 1004354 0 x11.length 2 (x11.length * 2))] ⟨30, [(.sl true x7.length 2 (x7.flatMap (e66 true))), (.sl true x11.length 2 (x11.flatMap (e66 true)))], [], (B x12), [], [1002817, 1004354], [], [], (B x12), []⟩], [⟨27, [(.sl true a1.length 2 (a1.flatMap (e61 true)))], [], (.rf 514 0 x11.length 2 (x11.length * 2)), [(514, (x11.flatMap (e66 false)))], [], [], [(1004354, 514)], (.rf 1004354 0 x11.length 2 (x11.length * 2)), [(1004354, (x11.flatMap (e66 false)))]⟩, ⟨30, [(.sl true x7.length 2 (x7.flatMap (e66 true))), (.sl true x11.length 2 (x11.flatMap (e66 true)))], [], (B x12), [], [1002817, 1004354], [], [], (B x12), []⟩]⟩ [c_ 32765, c_ 16383] (alc (cokW false (a2c (.z (frz_sl (e61_ok true) (fun h => h))) a2n) akn (akc (.inr rfl) akn) (.rf (memP_mem (p := (1004354, 514)) rfl)) (akc ⟨_, _, rfl, rfl, rowB e66_c0 _⟩ akn) (fun h => absurd h (by decide))) (alc (cok0 false (a2c (.z (frz_rfT (fun x => e66_to x) (e66_ok false) (by simp) rfl rfl (row_len (e66_ok false) _).symm)) (a2c (.z (frz_rfT (fun x => e66_to x) (e66_ok false) (by simp) rfl rfl (row_len (e66_ok false) _).symm)) a2n)) (.z .s) (fun h => absurd h (by decide))) aln)) (acal (laws_toTripS.J k a1 _ hx11) (acal (laws_eqTripS.J k x7 x11 _ hx12) nocal)) ?_
          by_cases c5 : x12 = true
          · rw [if_pos c5] at h
            refine .cond' (.tmp 48) false [c_ 32766, c_ 32767] (bF (nF c5)) ?_
            refine .reg' [6] [] ⟨[(6, (B true))], [(256, [(I a0.f0), (.sl true a0.f1.length 4 (a0.f1.flatMap e95))]), (1002305, (x3.f1.flatMap e95)), (1002307, (x4.flatMap (e66 false))), (1002561, (x6.f1.flatMap e95)), (2562, [(I x6.f0), (.rf 1002561 0 x6.f1.length 4 (x6.f1.length * 4))]), (1002817, (x7.flatMap (e66 false))), (1003842, (x9.f1.flatMap e95)), (1004354, (x11.flatMap (e66 false)))], [], []⟩ [c_ 32767] aln nocal ?_
            have h := Option.some.inj h
            subst h
            exact .fin0 [] (B true) [] aln (.z .s)
          · rw [if_neg c5] at h
            refine .cond' (.tmp 48) true [c_ 131060, c_ 131061, c_ 16383] (bT (nT (vF c5))) ?_
            refine .reg' [6] [] ⟨[(6, (B false))], [(256, [(I a0.f0), (.sl true a0.f1.length 4 (a0.f1.flatMap e95))]), (1002305, (x3.f1.flatMap e95)), (1002307, (x4.flatMap (e66 false))), (1002561, (x6.f1.flatMap e95)), (2562, [(I x6.f0), (.rf 1002561 0 x6.f1.length 4 (x6.f1.length * 4))]), (1002817, (x7.flatMap (e66 false))), (1003842, (x9.f1.flatMap e95)), (1004354, (x11.flatMap (e66 false)))], [], []⟩ [c_ 131061, c_ 16383] aln nocal ?_
            have h := Option.some.inj h
            subst h
            exact .fin0 [] (B false) [] aln (.z .s)
        · rw [if_neg c4] at h
          refine .cond' (.tmp 43) true [c_ 65524, c_ 65525, c_ 8191] (bT (nT (vF c4))) ?_
          refine .reg' [6] [] ⟨[(6, (B false))], [(256, [(I a0.f0), (.sl true a0.f1.length 4 (a0.f1.flatMap e95))]), (1002305, (x3.f1.flatMap e95)), (1002307, (x4.flatMap (e66 false))), (1002561, (x6.f1.flatMap e95)), (2562, [(I x6.f0), (.rf 1002561 0 x6.f1.length 4 (x6.f1.length * 4))]), (1002817, (x7.flatMap (e66 false))), (1003842, (x9.f1.flatMap e95))], [], []⟩ [c_ 65525, c_ 8191] aln nocal ?_
          have h := Option.some.inj h
          subst h
          exact .fin0 [] (B false) [] aln (.z .s)
      · rw [if_neg c3] at h
        refine .cond' (.tmp 38) true [c_ 32756, c_ 32757, c_ 4095] (bT (nT (vF c3))) ?_
        refine .reg' [6] [] ⟨[(6, (B false))], [(256, [(I a0.f0), (.sl true a0.f1.length 4 (a0.f1.flatMap e95))]), (1002305, (x3.f1.flatMap e95)), (1002307, (x4.flatMap (e66 false))), (1002561, (x6.f1.flatMap e95)), (2562, [(I x6.f0), (.rf 1002561 0 x6.f1.length 4 (x6.f1.length * 4))]), (1002817, (x7.flatMap (e66 false)))], [], []⟩ [c_ 32757, c_ 4095] aln nocal ?_
        have h := Option.some.inj h
        subst h
        exact .fin0 [] (B false) [] aln (.z .s)
end Go.Proofs.Ytebgaiokpncacaa.Fns
