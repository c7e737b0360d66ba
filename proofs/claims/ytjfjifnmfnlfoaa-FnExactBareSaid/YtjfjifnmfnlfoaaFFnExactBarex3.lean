/- The functions that the law FnExactBare reaches, by the engine. Printed by a program of this seat. -/
import Derived.Test.YtjfjifnmfnlfoaaE5
import Derived.Test.YtjfjifnmfnlfoaaProg
import Derived.Test.YtjfjifnmfnlfoaaFFnExactBarex2
namespace Go.Proofs.Ytjfjifnmfnlfoaa.Fns
open Go.Proofs.Try Go.Proofs.Ytjfjifnmfnlfoaa.Eng Go.RowKit
set_option maxRecDepth 100000
set_option linter.unusedVariables false
set_option linter.unusedSimpArgs false
theorem laws_eqRoute.J (k : Nat) (a0 : S83) (a1 : S83) (r : Bool) (h : laws_eqRoute.f k a0 a1 = some r) : J prog (.call 101 [(.ag [(.sl true a0.f0.length 2 (a0.f0.flatMap e93)), (.sl true a0.f1.length 1 (a0.f1.flatMap encI))]), (.ag [(.sl true a1.f0.length 2 (a1.f0.flatMap e93)), (.sl true a1.f1.length 1 (a1.f1.flatMap encI))])] [] (B r) []) := by
  unfold laws_eqRoute.f at h
  refine .call' [c_ 2, c_ 3] ?_
  refine .reg' [2, 3] [] ⟨[(2, (.pt 256 0 2)), (3, (.pt 257 0 2))], [(256, [(.sl true a0.f0.length 2 (a0.f0.flatMap e93)), (.sl true a0.f1.length 1 (a0.f1.flatMap encI))]), (257, [(.sl true a1.f0.length 2 (a1.f0.flatMap e93)), (.sl true a1.f1.length 1 (a1.f1.flatMap encI))])], [], []⟩ [c_ 12, c_ 13, c_ 7] aln nocal ?_
  obtain ⟨x1, hx1, h⟩ := Option.bind_eq_some_iff.mp h
  refine .reg' [2, 3, 10] [.no, .no, .no, .no, .c ⟨118, [(.sl true a0.f0.length 2 (a0.f0.flatMap e93)), (.sl true a1.f0.length 2 (a1.f0.flatMap e93))], [], (B x1), [], [], [], [], (B x1), []⟩] ⟨[(2, (.pt 256 0 2)), (3, (.pt 257 0 2)), (10, (B (!x1)))], [(256, [(.sl true a0.f0.length 2 (a0.f0.flatMap e93)), (.sl true a0.f1.length 1 (a0.f1.flatMap encI))]), (257, [(.sl true a1.f0.length 2 (a1.f0.flatMap e93)), (.sl true a1.f1.length 1 (a1.f1.flatMap encI))])], [2 = 2 ∧ 0 + 1 ≤ 2, 2 = 2 ∧ 0 + 1 ≤ 2, COK (hget [(256, [(.sl true a0.f0.length 2 (a0.f0.flatMap e93)), (.sl true a0.f1.length 1 (a0.f1.flatMap encI))]), (257, [(.sl true a1.f0.length 2 (a1.f0.flatMap e93)), (.sl true a1.f1.length 1 (a1.f1.flatMap encI))])]) [(.sl true a0.f0.length 2 (a0.f0.flatMap e93)), (.sl true a1.f0.length 2 (a1.f0.flatMap e93))] ⟨118, [(.sl true a0.f0.length 2 (a0.f0.flatMap e93)), (.sl true a1.f0.length 2 (a1.f0.flatMap e93))], [], (B x1), [], [], [], [], (B x1), []⟩], [⟨118, [(.sl true a0.f0.length 2 (a0.f0.flatMap e93)), (.sl true a1.f0.length 2 (a1.f0.flatMap e93))], [], (B x1), [], [], [], [], (B x1), []⟩]⟩ [c_ 13, c_ 7] (alc ⟨rfl, by decide⟩ (alc ⟨rfl, by decide⟩ (alc (cok0 false (a2c (.z (frz_sl e93_ok (fun h => h))) (a2c (.z (frz_sl e93_ok (fun h => h))) a2n)) (.z .s) (fun h => absurd h (by decide))) aln))) (acal (laws_eqNeedS.J k a0.f0 a1.f0 _ hx1) nocal) ?_
  by_cases c1 : x1 = true
  · rw [if_pos c1] at h
    refine .cond' (.tmp 10) false [c_ 28, c_ 29, c_ 15] (bF (nF c1)) ?_
    obtain ⟨x2, hx2, h⟩ := Option.bind_eq_some_iff.mp h
    refine .reg' [16] [.no, .no, .no, .no, .c ⟨41, [(.sl true a0.f1.length 1 (a0.f1.flatMap encI)), (.sl true a1.f1.length 1 (a1.f1.flatMap encI))], [], (B x2), [], [], [], [], (B x2), []⟩] ⟨[(16, (B (!x2)))], [(256, [(.sl true a0.f0.length 2 (a0.f0.flatMap e93)), (.sl true a0.f1.length 1 (a0.f1.flatMap encI))]), (257, [(.sl true a1.f0.length 2 (a1.f0.flatMap e93)), (.sl true a1.f1.length 1 (a1.f1.flatMap encI))])], [2 = 2 ∧ 1 + 1 ≤ 2, 2 = 2 ∧ 1 + 1 ≤ 2, COK (hget [(256, [(.sl true a0.f0.length 2 (a0.f0.flatMap e93)), (.sl true a0.f1.length 1 (a0.f1.flatMap encI))]), (257, [(.sl true a1.f0.length 2 (a1.f0.flatMap e93)), (.sl true a1.f1.length 1 (a1.f1.flatMap encI))])]) [(.sl true a0.f1.length 1 (a0.f1.flatMap encI)), (.sl true a1.f1.length 1 (a1.f1.flatMap encI))] ⟨41, [(.sl true a0.f1.length 1 (a0.f1.flatMap encI)), (.sl true a1.f1.length 1 (a1.f1.flatMap encI))], [], (B x2), [], [], [], [], (B x2), []⟩], [⟨41, [(.sl true a0.f1.length 1 (a0.f1.flatMap encI)), (.sl true a1.f1.length 1 (a1.f1.flatMap encI))], [], (B x2), [], [], [], [], (B x2), []⟩]⟩ [c_ 29, c_ 15] (alc ⟨rfl, by decide⟩ (alc ⟨rfl, by decide⟩ (alc (cok0 false (a2c (.z (frz_sl encI_ok (fun h => h))) (a2c (.z (frz_sl encI_ok (fun h => h))) a2n)) (.z .s) (fun h => absurd h (by decide))) aln))) (acal (laws_eqIntS.J k a0.f1 a1.f1 _ hx2) nocal) ?_
    by_cases c2 : x2 = true
    · rw [if_pos c2] at h
      refine .cond' (.tmp 16) false [c_ 30, c_ 31] (bF (nF c2)) ?_
      refine .reg' [4] [] ⟨[(4, (B true))], [(256, [(.sl true a0.f0.length 2 (a0.f0.flatMap e93)), (.sl true a0.f1.length 1 (a0.f1.flatMap encI))]), (257, [(.sl true a1.f0.length 2 (a1.f0.flatMap e93)), (.sl true a1.f1.length 1 (a1.f1.flatMap encI))])], [], []⟩ [c_ 31] aln nocal ?_
      have h := Option.some.inj h
      subst h
      exact .fin0 [] (B true) [] aln (.z .s)
    · rw [if_neg c2] at h
      refine .cond' (.tmp 16) true [c_ 116, c_ 117, c_ 15] (bT (nT (vF c2))) ?_
      refine .reg' [4] [] ⟨[(4, (B false))], [(256, [(.sl true a0.f0.length 2 (a0.f0.flatMap e93)), (.sl true a0.f1.length 1 (a0.f1.flatMap encI))]), (257, [(.sl true a1.f0.length 2 (a1.f0.flatMap e93)), (.sl true a1.f1.length 1 (a1.f1.flatMap encI))])], [], []⟩ [c_ 117, c_ 15] aln nocal ?_
      have h := Option.some.inj h
      subst h
      exact .fin0 [] (B false) [] aln (.z .s)
  · rw [if_neg c1] at h
    refine .cond' (.tmp 10) true [c_ 52, c_ 53, c_ 7] (bT (nT (vF c1))) ?_
    refine .reg' [4] [] ⟨[(4, (B false))], [(256, [(.sl true a0.f0.length 2 (a0.f0.flatMap e93)), (.sl true a0.f1.length 1 (a0.f1.flatMap encI))]), (257, [(.sl true a1.f0.length 2 (a1.f0.flatMap e93)), (.sl true a1.f1.length 1 (a1.f1.flatMap encI))])], [], []⟩ [c_ 53, c_ 7] aln nocal ?_
    have h := Option.some.inj h
    subst h
    exact .fin0 [] (B false) [] aln (.z .s)
/-! laws_eqRouteS: function 59 -/
def laws_eqRouteS.l0 : Nat → (List S83) → (List S83) → Int → Option Bool
 | 0, _, _, _ => none
 | k + 1, a0, a1, x1 => (if x1 < (a0.length : Int) then (if 0 ≤ x1 then (if x1 < (a1.length : Int) then ((laws_eqRoute.f k (at_ a0 x1) (at_ a1 x1)).bind fun x2 => (if x2 = true then (laws_eqRouteS.l0 k a0 a1 (wrap64 (x1 + 1))) else (some false))) else none) else none) else (some true))
def laws_eqRouteS.f (k : Nat) (a0 : (List S83)) (a1 : (List S83)) : Option Bool := (if (a0.length : Int) = (a1.length : Int) then (laws_eqRouteS.l0 k a0 a1 0) else (some false))
theorem laws_eqRouteS.lab : ∀ k, (∀ (a0 : (List S83)) (a1 : (List S83)) (x1 : Int) (r : Bool), laws_eqRouteS.l0 k a0 a1 x1 = some r → J prog (.run 59 [] [l_ 58, b_ 0, c_ 15] [(0, (.sl true a0.length 2 (a0.flatMap (e83 true)))), (1, (.sl true a1.length 2 (a1.flatMap (e83 true)))), (5, (I x1))] [] (B r) []))
 | 0 => (by intro a0 a1 x1 r h; unfold laws_eqRouteS.l0 at h; cases h)
 | k + 1 => by
  have ih0 := laws_eqRouteS.lab k
  · intro a0 a1 x1 r h
    unfold laws_eqRouteS.l0 at h
    refine .loop' [c_ 464, c_ 465, c_ 233, l_ 58, b_ 0, c_ 15] ?_
    refine .reg' [0, 1, 5, 14] [] ⟨[(0, (.sl true a0.length 2 (a0.flatMap (e83 true)))), (1, (.sl true a1.length 2 (a1.flatMap (e83 true)))), (5, (I x1)), (14, (B (decide (x1 < (a0.length : Int)))))], [], [], []⟩ [c_ 465, c_ 233, l_ 58, b_ 0, c_ 15] aln nocal ?_
    by_cases c2 : x1 < (a0.length : Int)
    · rw [if_pos c2] at h
      refine .cond' (.tmp 14) true [c_ 1864, c_ 1865, b_ 1, c_ 467, l_ 58, b_ 0, c_ 15] (bT (dT c2)) ?_
      by_cases c3 : 0 ≤ x1
      · rw [if_pos c3] at h
        by_cases c4 : x1 < (a1.length : Int)
        · rw [if_pos c4] at h
          obtain ⟨x2, hx2, h⟩ := Option.bind_eq_some_iff.mp h
          refine .reg' [0, 1, 5, 26] [.no, .no, .no, .v (.ag [(.sl true (at_ a0 x1).f0.length 2 ((at_ a0 x1).f0.flatMap e93)), (.sl true (at_ a0 x1).f1.length 1 ((at_ a0 x1).f1.flatMap encI))]), .no, .no, .no, .v (.ag [(.sl true (at_ a1 x1).f0.length 2 ((at_ a1 x1).f0.flatMap e93)), (.sl true (at_ a1 x1).f1.length 1 ((at_ a1 x1).f1.flatMap encI))]), .c ⟨101, [(.ag [(.sl true (at_ a0 x1).f0.length 2 ((at_ a0 x1).f0.flatMap e93)), (.sl true (at_ a0 x1).f1.length 1 ((at_ a0 x1).f1.flatMap encI))]), (.ag [(.sl true (at_ a1 x1).f0.length 2 ((at_ a1 x1).f0.flatMap e93)), (.sl true (at_ a1 x1).f1.length 1 ((at_ a1 x1).f1.flatMap encI))])], [], (B x2), [], [], [], [], (B x2), []⟩] ⟨[(0, (.sl true a0.length 2 (a0.flatMap (e83 true)))), (1, (.sl true a1.length 2 (a1.flatMap (e83 true)))), (5, (I x1)), (26, (B (!x2)))], [], [(0 : Int) ≤ x1 ∧ x1 < (a0.length : Int), rdC prog 84 ((a0.flatMap (e83 true)).drop (x1.toNat * 2)) = (.ag [(.sl true (at_ a0 x1).f0.length 2 ((at_ a0 x1).f0.flatMap e93)), (.sl true (at_ a0 x1).f1.length 1 ((at_ a0 x1).f1.flatMap encI))]), 2 ≤ ((a0.flatMap (e83 true)).drop (x1.toNat * 2)).length, (0 : Int) ≤ x1 ∧ x1 < (a1.length : Int), rdC prog 84 ((a1.flatMap (e83 true)).drop (x1.toNat * 2)) = (.ag [(.sl true (at_ a1 x1).f0.length 2 ((at_ a1 x1).f0.flatMap e93)), (.sl true (at_ a1 x1).f1.length 1 ((at_ a1 x1).f1.flatMap encI))]), 2 ≤ ((a1.flatMap (e83 true)).drop (x1.toNat * 2)).length, COK (hget []) [(.ag [(.sl true (at_ a0 x1).f0.length 2 ((at_ a0 x1).f0.flatMap e93)), (.sl true (at_ a0 x1).f1.length 1 ((at_ a0 x1).f1.flatMap encI))]), (.ag [(.sl true (at_ a1 x1).f0.length 2 ((at_ a1 x1).f0.flatMap e93)), (.sl true (at_ a1 x1).f1.length 1 ((at_ a1 x1).f1.flatMap encI))])] ⟨101, [(.ag [(.sl true (at_ a0 x1).f0.length 2 ((at_ a0 x1).f0.flatMap e93)), (.sl true (at_ a0 x1).f1.length 1 ((at_ a0 x1).f1.flatMap encI))]), (.ag [(.sl true (at_ a1 x1).f0.length 2 ((at_ a1 x1).f0.flatMap e93)), (.sl true (at_ a1 x1).f1.length 1 ((at_ a1 x1).f1.flatMap encI))])], [], (B x2), [], [], [], [], (B x2), []⟩], [⟨101, [(.ag [(.sl true (at_ a0 x1).f0.length 2 ((at_ a0 x1).f0.flatMap e93)), (.sl true (at_ a0 x1).f1.length 1 ((at_ a0 x1).f1.flatMap encI))]), (.ag [(.sl true (at_ a1 x1).f0.length 2 ((at_ a1 x1).f0.flatMap e93)), (.sl true (at_ a1 x1).f1.length 1 ((at_ a1 x1).f1.flatMap encI))])], [], (B x2), [], [], [], [], (B x2), []⟩]⟩ [c_ 1865, b_ 1, c_ 467, l_ 58, b_ 0, c_ 15] (alc ⟨c3, c2⟩ (alc (ldA (e83_ok true) rfl rfl c3 c2) (alc (okI (e83_ok true) c3 c2 (by decide)) (alc ⟨c3, c4⟩ (alc (ldA (e83_ok true) rfl rfl c3 c4) (alc (okI (e83_ok true) c3 c4 (by decide)) (alc (cok0 false (a2c (.z (frz_ag (a2c (frz_sl e93_ok (fun h => h)) (a2c (frz_sl encI_ok (fun h => h)) a2n)))) (a2c (.z (frz_ag (a2c (frz_sl e93_ok (fun h => h)) (a2c (frz_sl encI_ok (fun h => h)) a2n)))) a2n)) (.z .s) (fun h => absurd h (by decide))) aln))))))) (acal (laws_eqRoute.J k (at_ a0 x1) (at_ a1 x1) _ hx2) nocal) ?_
          by_cases c5 : x2 = true
          · rw [if_pos c5] at h
            refine .cond' (.tmp 26) false [c_ 467, l_ 58, b_ 0, c_ 15] (bF (nF c5)) ?_
            refine .reg' [0, 1, 5] [] ⟨[(0, (.sl true a0.length 2 (a0.flatMap (e83 true)))), (1, (.sl true a1.length 2 (a1.flatMap (e83 true)))), (5, (I (wrap64 (x1 + 1))))], [], [], []⟩ [l_ 58, b_ 0, c_ 15] aln nocal ?_
            exact ih0 a0 a1 (wrap64 (x1 + 1)) _ h
          · rw [if_neg c5] at h
            refine .cond' (.tmp 26) true [c_ 7460, c_ 7461, b_ 1, c_ 467, l_ 58, b_ 0, c_ 15] (bT (nT (vF c5))) ?_
            refine .reg' [4] [] ⟨[(4, (B false))], [], [], []⟩ [c_ 7461, b_ 1, c_ 467, l_ 58, b_ 0, c_ 15] aln nocal ?_
            have h := Option.some.inj h
            subst h
            exact .fin0 [] (B false) [] aln (.z .s)
        · rw [if_neg c4] at h
          cases h
      · rw [if_neg c3] at h
        cases h
    · rw [if_neg c2] at h
      refine .cond' (.tmp 14) false [c_ 30, c_ 31] (bF (dF c2)) ?_
      refine .reg' [4] [] ⟨[(4, (B true))], [], [], []⟩ [c_ 31] aln nocal ?_
      have h := Option.some.inj h
      subst h
      exact .fin0 [] (B true) [] aln (.z .s)
theorem laws_eqRouteS.J (k : Nat) (a0 : (List S83)) (a1 : (List S83)) (r : Bool) (h : laws_eqRouteS.f k a0 a1 = some r) : J prog (.call 59 [(.sl true a0.length 2 (a0.flatMap (e83 true))), (.sl true a1.length 2 (a1.flatMap (e83 true)))] [] (B r) []) := by
  unfold laws_eqRouteS.f at h
  have ih0 := laws_eqRouteS.lab k
  refine .call' [c_ 2, c_ 3] ?_
  refine .reg' [0, 1] [] ⟨[(0, (.sl true a0.length 2 (a0.flatMap (e83 true)))), (1, (.sl true a1.length 2 (a1.flatMap (e83 true))))], [], [], []⟩ [c_ 12, c_ 13, c_ 7] aln nocal ?_
  refine .reg' [0, 1, 10] [] ⟨[(0, (.sl true a0.length 2 (a0.flatMap (e83 true)))), (1, (.sl true a1.length 2 (a1.flatMap (e83 true)))), (10, (B (!((a0.length : Int) == (a1.length : Int)))))], [], [], []⟩ [c_ 13, c_ 7] aln nocal ?_
  by_cases c1 : (a0.length : Int) = (a1.length : Int)
  · rw [if_pos c1] at h
    refine .cond' (.tmp 10) false [c_ 28, c_ 29, c_ 15] (bF (nF (qT c1))) ?_
    refine .reg' [0, 1, 5] [] ⟨[(0, (.sl true a0.length 2 (a0.flatMap (e83 true)))), (1, (.sl true a1.length 2 (a1.flatMap (e83 true)))), (5, (I 0))], [], [], []⟩ [l_ 58, b_ 0, c_ 15] aln nocal ?_
    exact ih0 a0 a1 0 _ h
  · rw [if_neg c1] at h
    refine .cond' (.tmp 10) true [c_ 52, c_ 53, c_ 7] (bT (nT (qF c1))) ?_
    refine .reg' [4] [] ⟨[(4, (B false))], [], [], []⟩ [c_ 53, c_ 7] aln nocal ?_
    have h := Option.some.inj h
    subst h
    exact .fin0 [] (B false) [] aln (.z .s)
/-! laws_eqPlant: function 14 -/
def laws_eqPlant.f (k : Nat) (a0 : S29) (a1 : S29) : Option Bool := ((laws_eqIntS.f k a0.f0 a1.f0).bind fun x1 => (if x1 = true then (if a0.f1 = a1.f1 then ((laws_eqRouteS.f k a0.f2 a1.f2).bind fun x2 => (if x2 = true then (some true) else (some false))) else (some false)) else (some false)))
theorem laws_eqPlant.J (k : Nat) (a0 : S29) (a1 : S29) (r : Bool) (h : laws_eqPlant.f k a0 a1 = some r) : J prog (.call 14 [(.ag [(.sl true a0.f0.length 1 (a0.f0.flatMap encI)), (I a0.f1), (.sl true a0.f2.length 2 (a0.f2.flatMap (e83 true)))]), (.ag [(.sl true a1.f0.length 1 (a1.f0.flatMap encI)), (I a1.f1), (.sl true a1.f2.length 2 (a1.f2.flatMap (e83 true)))])] [] (B r) []) := by
  unfold laws_eqPlant.f at h
  refine .call' [c_ 2, c_ 3] ?_
  refine .reg' [2, 3] [] ⟨[(2, (.pt 256 0 3)), (3, (.pt 257 0 3))], [(256, [(.sl true a0.f0.length 1 (a0.f0.flatMap encI)), (I a0.f1), (.sl true a0.f2.length 2 (a0.f2.flatMap (e83 true)))]), (257, [(.sl true a1.f0.length 1 (a1.f0.flatMap encI)), (I a1.f1), (.sl true a1.f2.length 2 (a1.f2.flatMap (e83 true)))])], [], []⟩ [c_ 12, c_ 13, c_ 7] aln nocal ?_
  obtain ⟨x1, hx1, h⟩ := Option.bind_eq_some_iff.mp h
  refine .reg' [2, 3, 10] [.no, .no, .no, .no, .c ⟨41, [(.sl true a0.f0.length 1 (a0.f0.flatMap encI)), (.sl true a1.f0.length 1 (a1.f0.flatMap encI))], [], (B x1), [], [], [], [], (B x1), []⟩] ⟨[(2, (.pt 256 0 3)), (3, (.pt 257 0 3)), (10, (B (!x1)))], [(256, [(.sl true a0.f0.length 1 (a0.f0.flatMap encI)), (I a0.f1), (.sl true a0.f2.length 2 (a0.f2.flatMap (e83 true)))]), (257, [(.sl true a1.f0.length 1 (a1.f0.flatMap encI)), (I a1.f1), (.sl true a1.f2.length 2 (a1.f2.flatMap (e83 true)))])], [3 = 3 ∧ 0 + 1 ≤ 3, 3 = 3 ∧ 0 + 1 ≤ 3, COK (hget [(256, [(.sl true a0.f0.length 1 (a0.f0.flatMap encI)), (I a0.f1), (.sl true a0.f2.length 2 (a0.f2.flatMap (e83 true)))]), (257, [(.sl true a1.f0.length 1 (a1.f0.flatMap encI)), (I a1.f1), (.sl true a1.f2.length 2 (a1.f2.flatMap (e83 true)))])]) [(.sl true a0.f0.length 1 (a0.f0.flatMap encI)), (.sl true a1.f0.length 1 (a1.f0.flatMap encI))] ⟨41, [(.sl true a0.f0.length 1 (a0.f0.flatMap encI)), (.sl true a1.f0.length 1 (a1.f0.flatMap encI))], [], (B x1), [], [], [], [], (B x1), []⟩], [⟨41, [(.sl true a0.f0.length 1 (a0.f0.flatMap encI)), (.sl true a1.f0.length 1 (a1.f0.flatMap encI))], [], (B x1), [], [], [], [], (B x1), []⟩]⟩ [c_ 13, c_ 7] (alc ⟨rfl, by decide⟩ (alc ⟨rfl, by decide⟩ (alc (cok0 false (a2c (.z (frz_sl encI_ok (fun h => h))) (a2c (.z (frz_sl encI_ok (fun h => h))) a2n)) (.z .s) (fun h => absurd h (by decide))) aln))) (acal (laws_eqIntS.J k a0.f0 a1.f0 _ hx1) nocal) ?_
  by_cases c1 : x1 = true
  · rw [if_pos c1] at h
    refine .cond' (.tmp 10) false [c_ 28, c_ 29, c_ 15] (bF (nF c1)) ?_
    refine .reg' [2, 3, 15] [] ⟨[(2, (.pt 256 0 3)), (3, (.pt 257 0 3)), (15, (B (!(a0.f1 == a1.f1))))], [(256, [(.sl true a0.f0.length 1 (a0.f0.flatMap encI)), (I a0.f1), (.sl true a0.f2.length 2 (a0.f2.flatMap (e83 true)))]), (257, [(.sl true a1.f0.length 1 (a1.f0.flatMap encI)), (I a1.f1), (.sl true a1.f2.length 2 (a1.f2.flatMap (e83 true)))])], [3 = 3 ∧ 1 + 1 ≤ 3, 3 = 3 ∧ 1 + 1 ≤ 3], []⟩ [c_ 29, c_ 15] (alc ⟨rfl, by decide⟩ (alc ⟨rfl, by decide⟩ aln)) nocal ?_
    by_cases c2 : a0.f1 = a1.f1
    · rw [if_pos c2] at h
      refine .cond' (.tmp 15) false [c_ 60, c_ 61, c_ 31] (bF (nF (qT c2))) ?_
      obtain ⟨x2, hx2, h⟩ := Option.bind_eq_some_iff.mp h
      refine .reg' [21] [.no, .no, .no, .no, .c ⟨59, [(.sl true a0.f2.length 2 (a0.f2.flatMap (e83 true))), (.sl true a1.f2.length 2 (a1.f2.flatMap (e83 true)))], [], (B x2), [], [], [], [], (B x2), []⟩] ⟨[(21, (B (!x2)))], [(256, [(.sl true a0.f0.length 1 (a0.f0.flatMap encI)), (I a0.f1), (.sl true a0.f2.length 2 (a0.f2.flatMap (e83 true)))]), (257, [(.sl true a1.f0.length 1 (a1.f0.flatMap encI)), (I a1.f1), (.sl true a1.f2.length 2 (a1.f2.flatMap (e83 true)))])], [3 = 3 ∧ 2 + 1 ≤ 3, 3 = 3 ∧ 2 + 1 ≤ 3, COK (hget [(256, [(.sl true a0.f0.length 1 (a0.f0.flatMap encI)), (I a0.f1), (.sl true a0.f2.length 2 (a0.f2.flatMap (e83 true)))]), (257, [(.sl true a1.f0.length 1 (a1.f0.flatMap encI)), (I a1.f1), (.sl true a1.f2.length 2 (a1.f2.flatMap (e83 true)))])]) [(.sl true a0.f2.length 2 (a0.f2.flatMap (e83 true))), (.sl true a1.f2.length 2 (a1.f2.flatMap (e83 true)))] ⟨59, [(.sl true a0.f2.length 2 (a0.f2.flatMap (e83 true))), (.sl true a1.f2.length 2 (a1.f2.flatMap (e83 true)))], [], (B x2), [], [], [], [], (B x2), []⟩], [⟨59, [(.sl true a0.f2.length 2 (a0.f2.flatMap (e83 true))), (.sl true a1.f2.length 2 (a1.f2.flatMap (e83 true)))], [], (B x2), [], [], [], [], (B x2), []⟩]⟩ [c_ 61, c_ 31] (alc ⟨rfl, by decide⟩ (alc ⟨rfl, by decide⟩ (alc (cok0 false (a2c (.z (frz_sl (e83_ok true) (fun h => h))) (a2c (.z (frz_sl (e83_ok true) (fun h => h))) a2n)) (.z .s) (fun h => absurd h (by decide))) aln))) (acal (laws_eqRouteS.J k a0.f2 a1.f2 _ hx2) nocal) ?_
      by_cases c3 : x2 = true
      · rw [if_pos c3] at h
        refine .cond' (.tmp 21) false [c_ 62, c_ 63] (bF (nF c3)) ?_
        refine .reg' [4] [] ⟨[(4, (B true))], [(256, [(.sl true a0.f0.length 1 (a0.f0.flatMap encI)), (I a0.f1), (.sl true a0.f2.length 2 (a0.f2.flatMap (e83 true)))]), (257, [(.sl true a1.f0.length 1 (a1.f0.flatMap encI)), (I a1.f1), (.sl true a1.f2.length 2 (a1.f2.flatMap (e83 true)))])], [], []⟩ [c_ 63] aln nocal ?_
        have h := Option.some.inj h
        subst h
        exact .fin0 [] (B true) [] aln (.z .s)
      · rw [if_neg c3] at h
        refine .cond' (.tmp 21) true [c_ 244, c_ 245, c_ 31] (bT (nT (vF c3))) ?_
        refine .reg' [4] [] ⟨[(4, (B false))], [(256, [(.sl true a0.f0.length 1 (a0.f0.flatMap encI)), (I a0.f1), (.sl true a0.f2.length 2 (a0.f2.flatMap (e83 true)))]), (257, [(.sl true a1.f0.length 1 (a1.f0.flatMap encI)), (I a1.f1), (.sl true a1.f2.length 2 (a1.f2.flatMap (e83 true)))])], [], []⟩ [c_ 245, c_ 31] aln nocal ?_
        have h := Option.some.inj h
        subst h
        exact .fin0 [] (B false) [] aln (.z .s)
    · rw [if_neg c2] at h
      refine .cond' (.tmp 15) true [c_ 116, c_ 117, c_ 15] (bT (nT (qF c2))) ?_
      refine .reg' [4] [] ⟨[(4, (B false))], [(256, [(.sl true a0.f0.length 1 (a0.f0.flatMap encI)), (I a0.f1), (.sl true a0.f2.length 2 (a0.f2.flatMap (e83 true)))]), (257, [(.sl true a1.f0.length 1 (a1.f0.flatMap encI)), (I a1.f1), (.sl true a1.f2.length 2 (a1.f2.flatMap (e83 true)))])], [], []⟩ [c_ 117, c_ 15] aln nocal ?_
      have h := Option.some.inj h
      subst h
      exact .fin0 [] (B false) [] aln (.z .s)
  · rw [if_neg c1] at h
    refine .cond' (.tmp 10) true [c_ 52, c_ 53, c_ 7] (bT (nT (vF c1))) ?_
    refine .reg' [4] [] ⟨[(4, (B false))], [(256, [(.sl true a0.f0.length 1 (a0.f0.flatMap encI)), (I a0.f1), (.sl true a0.f2.length 2 (a0.f2.flatMap (e83 true)))]), (257, [(.sl true a1.f0.length 1 (a1.f0.flatMap encI)), (I a1.f1), (.sl true a1.f2.length 2 (a1.f2.flatMap (e83 true)))])], [], []⟩ [c_ 53, c_ 7] aln nocal ?_
    have h := Option.some.inj h
    subst h
    exact .fin0 [] (B false) [] aln (.z .s)
/-! laws_markIntS: function 43 -/
def laws_markIntS.l0 : Nat → (List Int) → Int → Int → Option (Int × (List Int))
 | 0, _, _, _ => none
 | k + 1, x1, x2, x3 => (if x3 < (x1.length : Int) then (if 0 ≤ x3 then (laws_markIntS.l0 k (x1.set x3.toNat x2) (wrap64 (x2 + 1)) (wrap64 (x3 + 1))) else none) else (some (x2, x1)))
def laws_markIntS.f (k : Nat) (a0 : (List Int)) (a1 : Int) : Option (Int × (List Int)) := (laws_markIntS.l0 k a0 a1 0)
theorem laws_markIntS.lab : ∀ k, (∀ (x1 : (List Int)) (x2 : Int) (x3 : Int) (r : (Int × (List Int))), laws_markIntS.l0 k x1 x2 x3 = some r → J prog (.run 43 [0] [l_ 26, b_ 0, c_ 7] [(0, (.rf 0 0 x1.length 1 (x1.length * 1))), (1, (I x2)), (5, (I x3))] [(0, (x1.flatMap encI))] (I r.1) [(0, (r.2.flatMap encI))]))
 | 0 => (by intro x1 x2 x3 r h; unfold laws_markIntS.l0 at h; cases h)
 | k + 1 => by
  have ih0 := laws_markIntS.lab k
  · intro x1 x2 x3 r h
    unfold laws_markIntS.l0 at h
    refine .loop' [c_ 208, c_ 209, c_ 105, l_ 26, b_ 0, c_ 7] ?_
    refine .reg' [0, 1, 5, 9] [] ⟨[(0, (.rf 0 0 x1.length 1 (x1.length * 1))), (1, (I x2)), (5, (I x3)), (9, (B (decide (x3 < (x1.length : Int)))))], [(0, (x1.flatMap encI))], [], []⟩ [c_ 209, c_ 105, l_ 26, b_ 0, c_ 7] aln nocal ?_
    by_cases c1 : x3 < (x1.length : Int)
    · rw [if_pos c1] at h
      refine .cond' (.tmp 9) true [c_ 840, c_ 841, b_ 1, c_ 211, l_ 26, b_ 0, c_ 7] (bT (dT c1)) ?_
      by_cases c2 : 0 ≤ x3
      · rw [if_pos c2] at h
        refine .reg' [0, 1, 5] [.no, .no, .no, .no, .w .un ((x1.set x3.toNat x2).flatMap encI)] ⟨[(0, (.rf 0 0 x1.length 1 (x1.length * 1))), (1, (I x2)), (5, (I x3))], [(0, ((x1.set x3.toNat x2).flatMap encI))], [(0 : Int) ≤ x3 ∧ x3 < (x1.length : Int), V.un = V.un, spl (x1.flatMap encI) (0 + x3.toNat * 1) [(I x2)] = ((x1.set x3.toNat x2).flatMap encI), x1.length * 1 = (x1.flatMap encI).length ∧ 0 + x3.toNat * 1 + 1 ≤ (x1.flatMap encI).length], []⟩ [c_ 841, b_ 1, c_ 211, l_ 26, b_ 0, c_ 7] (alc ⟨c2, c1⟩ (alc rfl (alc (st_row1 encI_ok c2 c1 (I x2) rfl) (alc (okA0 encI_ok c2 c1 (by decide)) aln)))) nocal ?_
        refine .eqs (env2 := [(0, (.rf 0 0 ((x1.set x3.toNat x2).length) 1 ((x1.set x3.toNat x2).length * 1))), (1, (I x2)), (5, (I x3))]) (H2 := [(0, ((x1.set x3.toNat x2).flatMap encI))]) (by first | (simp only [List.length_set]; done) | simp) (by first | rfl | (simp only [List.length_set]; done) | simp) ?_
        refine .reg' [0, 1, 5] [] ⟨[(0, (.rf 0 0 ((x1.set x3.toNat x2).length) 1 ((x1.set x3.toNat x2).length * 1))), (1, (I (wrap64 (x2 + 1)))), (5, (I x3))], [(0, ((x1.set x3.toNat x2).flatMap encI))], [], []⟩ [c_ 211, l_ 26, b_ 0, c_ 7] aln nocal ?_
        refine .reg' [0, 1, 5] [] ⟨[(0, (.rf 0 0 ((x1.set x3.toNat x2).length) 1 ((x1.set x3.toNat x2).length * 1))), (1, (I (wrap64 (x2 + 1)))), (5, (I (wrap64 (x3 + 1))))], [(0, ((x1.set x3.toNat x2).flatMap encI))], [], []⟩ [l_ 26, b_ 0, c_ 7] aln nocal ?_
        exact ih0 (x1.set x3.toNat x2) (wrap64 (x2 + 1)) (wrap64 (x3 + 1)) _ h
      · rw [if_neg c2] at h
        cases h
    · rw [if_neg c1] at h
      refine .cond' (.tmp 9) false [c_ 14, c_ 15] (bF (dF c1)) ?_
      refine .reg' [4] [] ⟨[(4, (I x2))], [(0, (x1.flatMap encI))], [], []⟩ [c_ 15] aln nocal ?_
      have h := Option.some.inj h
      subst h
      exact .fin' [] [(0, 0)] (I x2) [] aln (shc 0 (rowF encI_ok _) shn) (.z .s)
theorem laws_markIntS.J (k : Nat) (a0 : (List Int)) (a1 : Int) (r : (Int × (List Int))) (h : laws_markIntS.f k a0 a1 = some r) : J prog (.call 43 [(.rf 0 0 a0.length 1 (a0.length * 1)), (I a1)] [(0, (a0.flatMap encI))] (I r.1) [(0, (r.2.flatMap encI))]) := by
  unfold laws_markIntS.f at h
  have ih0 := laws_markIntS.lab k
  refine .call' [c_ 2, c_ 3] ?_
  refine .reg' [0, 1] [] ⟨[(0, (.rf 0 0 a0.length 1 (a0.length * 1))), (1, (I a1))], [(0, (a0.flatMap encI))], [], []⟩ [c_ 12, c_ 13, c_ 7] aln nocal ?_
  refine .reg' [0, 1, 5] [] ⟨[(0, (.rf 0 0 a0.length 1 (a0.length * 1))), (1, (I a1)), (5, (I 0))], [(0, (a0.flatMap encI))], [], []⟩ [l_ 26, b_ 0, c_ 7] aln nocal ?_
  exact ih0 a0 a1 0 _ h
theorem laws_markIntS.lenl : ∀ k, (∀ (x1 : (List Int)) (x2 : Int) (x3 : Int) (r : (Int × (List Int))), laws_markIntS.l0 k x1 x2 x3 = some r → r.2.length = x1.length)
 | 0 => (by intro x1 x2 x3 r h; unfold laws_markIntS.l0 at h; cases h)
 | k + 1 => by
  have ih0 := laws_markIntS.lenl k
  · intro x1 x2 x3 r h
    unfold laws_markIntS.l0 at h
    by_cases c1 : x3 < (x1.length : Int)
    · rw [if_pos c1] at h
      by_cases c2 : 0 ≤ x3
      · rw [if_pos c2] at h
        have q := ih0 (x1.set x3.toNat x2) (wrap64 (x2 + 1)) (wrap64 (x3 + 1)) _ h
        first | exact q | (simp only [List.length_set] at q; exact q)
      · rw [if_neg c2] at h
        cases h
    · rw [if_neg c1] at h
      have h := Option.some.inj h
      subst h
      first | rfl | (simp only [List.length_set]; done) | exact ⟨by first | rfl | simp only [List.length_set]⟩
theorem laws_markIntS.len (k : Nat) (a0 : (List Int)) (a1 : Int) (r : (Int × (List Int))) (h : laws_markIntS.f k a0 a1 = some r) : r.2.length = a0.length := by
  unfold laws_markIntS.f at h
  have ih0 := laws_markIntS.lenl k
  have q := ih0 a0 a1 0 _ h
  first | exact q | (simp only [List.length_set] at q; exact q)
/-! laws_markNeedS: function 102 -/
def laws_markNeedS.l0 : Nat → (List S93) → Int → Int → Option (Int × (List S93))
 | 0, _, _, _ => none
 | k + 1, x1, x2, x3 => (if x3 < (x1.length : Int) then (if 0 ≤ x3 then (laws_markNeedS.l0 k (x1.set x3.toNat (⟨x2, (wrap64 (x2 + 1))⟩ : S93)) (wrap64 ((wrap64 (x2 + 1)) + 1)) (wrap64 (x3 + 1))) else none) else (some (x2, x1)))
def laws_markNeedS.f (k : Nat) (a0 : (List S93)) (a1 : Int) : Option (Int × (List S93)) := (laws_markNeedS.l0 k a0 a1 0)
theorem laws_markNeedS.lab : ∀ k, (∀ (x1 : (List S93)) (x2 : Int) (x3 : Int) (r : (Int × (List S93))), laws_markNeedS.l0 k x1 x2 x3 = some r → J prog (.run 102 [0] [l_ 26, b_ 0, c_ 7] [(0, (.rf 0 0 x1.length 2 (x1.length * 2))), (1, (I x2)), (5, (I x3))] [(0, (x1.flatMap e93))] (I r.1) [(0, (r.2.flatMap e93))]))
 | 0 => (by intro x1 x2 x3 r h; unfold laws_markNeedS.l0 at h; cases h)
 | k + 1 => by
  have ih0 := laws_markNeedS.lab k
  · intro x1 x2 x3 r h
    unfold laws_markNeedS.l0 at h
    refine .loop' [c_ 208, c_ 209, c_ 105, l_ 26, b_ 0, c_ 7] ?_
    refine .reg' [0, 1, 5, 9] [] ⟨[(0, (.rf 0 0 x1.length 2 (x1.length * 2))), (1, (I x2)), (5, (I x3)), (9, (B (decide (x3 < (x1.length : Int)))))], [(0, (x1.flatMap e93))], [], []⟩ [c_ 209, c_ 105, l_ 26, b_ 0, c_ 7] aln nocal ?_
    by_cases c1 : x3 < (x1.length : Int)
    · rw [if_pos c1] at h
      refine .cond' (.tmp 9) true [c_ 840, c_ 841, b_ 1, c_ 211, l_ 26, b_ 0, c_ 7] (bT (dT c1)) ?_
      by_cases c2 : 0 ≤ x3
      · rw [if_pos c2] at h
        refine .reg' [0, 1, 5] [.no, .no, .no, .no, .no, .w .un ((x1.set x3.toNat (⟨x2, (at_ x1 x3).f1⟩ : S93)).flatMap e93)] ⟨[(0, (.rf 0 0 x1.length 2 (x1.length * 2))), (1, (I x2)), (5, (I x3))], [(0, ((x1.set x3.toNat (⟨x2, (at_ x1 x3).f1⟩ : S93)).flatMap e93))], [(0 : Int) ≤ x3 ∧ x3 < (x1.length : Int), V.un = V.un, spl (x1.flatMap e93) (0 + x3.toNat * 2 + 0) [(I x2)] = ((x1.set x3.toNat (⟨x2, (at_ x1 x3).f1⟩ : S93)).flatMap e93), x1.length * 2 = (x1.flatMap e93).length ∧ 0 + x3.toNat * 2 + 0 + 1 ≤ (x1.flatMap e93).length], []⟩ [c_ 1682, c_ 1683, b_ 1, c_ 211, l_ 26, b_ 0, c_ 7] (alc ⟨c2, c1⟩ (alc rfl (alc (st_row e93_ok 0 c2 c1 (Nat.le_of_ble_eq_true rfl) rfl) (alc (okA e93_ok c2 c1 (by decide)) aln)))) nocal ?_
        refine .eqs (env2 := [(0, (.rf 0 0 ((x1.set x3.toNat (⟨x2, (at_ x1 x3).f1⟩ : S93)).length) 2 ((x1.set x3.toNat (⟨x2, (at_ x1 x3).f1⟩ : S93)).length * 2))), (1, (I x2)), (5, (I x3))]) (H2 := [(0, ((x1.set x3.toNat (⟨x2, (at_ x1 x3).f1⟩ : S93)).flatMap e93))]) (by first | (simp only [List.length_set]; done) | simp) (by first | rfl | (simp only [List.length_set]; done) | simp) ?_
        refine .reg' [0, 1, 5] [] ⟨[(0, (.rf 0 0 ((x1.set x3.toNat (⟨x2, (at_ x1 x3).f1⟩ : S93)).length) 2 ((x1.set x3.toNat (⟨x2, (at_ x1 x3).f1⟩ : S93)).length * 2))), (1, (I (wrap64 (x2 + 1)))), (5, (I x3))], [(0, ((x1.set x3.toNat (⟨x2, (at_ x1 x3).f1⟩ : S93)).flatMap e93))], [], []⟩ [c_ 3366, c_ 3367, b_ 1, c_ 211, l_ 26, b_ 0, c_ 7] aln nocal ?_
        refine .reg' [0, 1, 5] [.no, .no, .no, .no, .no, .w .un ((x1.set x3.toNat (⟨x2, (wrap64 (x2 + 1))⟩ : S93)).flatMap e93)] ⟨[(0, (.rf 0 0 ((x1.set x3.toNat (⟨x2, (at_ x1 x3).f1⟩ : S93)).length) 2 ((x1.set x3.toNat (⟨x2, (at_ x1 x3).f1⟩ : S93)).length * 2))), (1, (I (wrap64 (x2 + 1)))), (5, (I x3))], [(0, ((x1.set x3.toNat (⟨x2, (wrap64 (x2 + 1))⟩ : S93)).flatMap e93))], [(0 : Int) ≤ x3 ∧ x3 < ((x1.set x3.toNat (⟨x2, (at_ x1 x3).f1⟩ : S93)).length : Int), V.un = V.un, spl ((x1.set x3.toNat (⟨x2, (at_ x1 x3).f1⟩ : S93)).flatMap e93) (0 + x3.toNat * 2 + 1) [(I (wrap64 (x2 + 1)))] = ((x1.set x3.toNat (⟨x2, (wrap64 (x2 + 1))⟩ : S93)).flatMap e93), (x1.set x3.toNat (⟨x2, (at_ x1 x3).f1⟩ : S93)).length * 2 = ((x1.set x3.toNat (⟨x2, (at_ x1 x3).f1⟩ : S93)).flatMap e93).length ∧ 0 + x3.toNat * 2 + 1 + 1 ≤ ((x1.set x3.toNat (⟨x2, (at_ x1 x3).f1⟩ : S93)).flatMap e93).length], []⟩ [c_ 3367, b_ 1, c_ 211, l_ 26, b_ 0, c_ 7] (alc ⟨c2, (ls c1)⟩ (alc rfl (alc (st_row2 e93_ok 1 c2 c1 (Nat.le_of_ble_eq_true rfl) rfl) (alc (okA e93_ok c2 (ls c1) (by decide)) aln)))) nocal ?_
        refine .eqs (env2 := [(0, (.rf 0 0 ((x1.set x3.toNat (⟨x2, (wrap64 (x2 + 1))⟩ : S93)).length) 2 ((x1.set x3.toNat (⟨x2, (wrap64 (x2 + 1))⟩ : S93)).length * 2))), (1, (I (wrap64 (x2 + 1)))), (5, (I x3))]) (H2 := [(0, ((x1.set x3.toNat (⟨x2, (wrap64 (x2 + 1))⟩ : S93)).flatMap e93))]) (by first | (simp only [List.length_set]; done) | simp) (by first | rfl | (simp only [List.length_set]; done) | simp) ?_
        refine .reg' [0, 1, 5] [] ⟨[(0, (.rf 0 0 ((x1.set x3.toNat (⟨x2, (wrap64 (x2 + 1))⟩ : S93)).length) 2 ((x1.set x3.toNat (⟨x2, (wrap64 (x2 + 1))⟩ : S93)).length * 2))), (1, (I (wrap64 ((wrap64 (x2 + 1)) + 1)))), (5, (I x3))], [(0, ((x1.set x3.toNat (⟨x2, (wrap64 (x2 + 1))⟩ : S93)).flatMap e93))], [], []⟩ [c_ 211, l_ 26, b_ 0, c_ 7] aln nocal ?_
        refine .reg' [0, 1, 5] [] ⟨[(0, (.rf 0 0 ((x1.set x3.toNat (⟨x2, (wrap64 (x2 + 1))⟩ : S93)).length) 2 ((x1.set x3.toNat (⟨x2, (wrap64 (x2 + 1))⟩ : S93)).length * 2))), (1, (I (wrap64 ((wrap64 (x2 + 1)) + 1)))), (5, (I (wrap64 (x3 + 1))))], [(0, ((x1.set x3.toNat (⟨x2, (wrap64 (x2 + 1))⟩ : S93)).flatMap e93))], [], []⟩ [l_ 26, b_ 0, c_ 7] aln nocal ?_
        exact ih0 (x1.set x3.toNat (⟨x2, (wrap64 (x2 + 1))⟩ : S93)) (wrap64 ((wrap64 (x2 + 1)) + 1)) (wrap64 (x3 + 1)) _ h
      · rw [if_neg c2] at h
        cases h
    · rw [if_neg c1] at h
      refine .cond' (.tmp 9) false [c_ 14, c_ 15] (bF (dF c1)) ?_
      refine .reg' [4] [] ⟨[(4, (I x2))], [(0, (x1.flatMap e93))], [], []⟩ [c_ 15] aln nocal ?_
      have h := Option.some.inj h
      subst h
      exact .fin' [] [(0, 0)] (I x2) [] aln (shc 0 (rowF e93_ok _) shn) (.z .s)
theorem laws_markNeedS.J (k : Nat) (a0 : (List S93)) (a1 : Int) (r : (Int × (List S93))) (h : laws_markNeedS.f k a0 a1 = some r) : J prog (.call 102 [(.rf 0 0 a0.length 2 (a0.length * 2)), (I a1)] [(0, (a0.flatMap e93))] (I r.1) [(0, (r.2.flatMap e93))]) := by
  unfold laws_markNeedS.f at h
  have ih0 := laws_markNeedS.lab k
  refine .call' [c_ 2, c_ 3] ?_
  refine .reg' [0, 1] [] ⟨[(0, (.rf 0 0 a0.length 2 (a0.length * 2))), (1, (I a1))], [(0, (a0.flatMap e93))], [], []⟩ [c_ 12, c_ 13, c_ 7] aln nocal ?_
  refine .reg' [0, 1, 5] [] ⟨[(0, (.rf 0 0 a0.length 2 (a0.length * 2))), (1, (I a1)), (5, (I 0))], [(0, (a0.flatMap e93))], [], []⟩ [l_ 26, b_ 0, c_ 7] aln nocal ?_
  exact ih0 a0 a1 0 _ h
theorem laws_markNeedS.lenl : ∀ k, (∀ (x1 : (List S93)) (x2 : Int) (x3 : Int) (r : (Int × (List S93))), laws_markNeedS.l0 k x1 x2 x3 = some r → r.2.length = x1.length)
 | 0 => (by intro x1 x2 x3 r h; unfold laws_markNeedS.l0 at h; cases h)
 | k + 1 => by
  have ih0 := laws_markNeedS.lenl k
  · intro x1 x2 x3 r h
    unfold laws_markNeedS.l0 at h
    by_cases c1 : x3 < (x1.length : Int)
    · rw [if_pos c1] at h
      by_cases c2 : 0 ≤ x3
      · rw [if_pos c2] at h
        have q := ih0 (x1.set x3.toNat (⟨x2, (wrap64 (x2 + 1))⟩ : S93)) (wrap64 ((wrap64 (x2 + 1)) + 1)) (wrap64 (x3 + 1)) _ h
        first | exact q | (simp only [List.length_set] at q; exact q)
      · rw [if_neg c2] at h
        cases h
    · rw [if_neg c1] at h
      have h := Option.some.inj h
      subst h
      first | rfl | (simp only [List.length_set]; done) | exact ⟨by first | rfl | simp only [List.length_set]⟩
theorem laws_markNeedS.len (k : Nat) (a0 : (List S93)) (a1 : Int) (r : (Int × (List S93))) (h : laws_markNeedS.f k a0 a1 = some r) : r.2.length = a0.length := by
  unfold laws_markNeedS.f at h
  have ih0 := laws_markNeedS.lenl k
  have q := ih0 a0 a1 0 _ h
  first | exact q | (simp only [List.length_set] at q; exact q)
/-! laws_markRouteS: function 63 -/
def laws_markRouteS.l0 : Nat → (List S83) → Int → Int → Option (Int × (List S83))
 | 0, _, _, _ => none
 | k + 1, x1, x2, x3 => (if x3 < (x1.length : Int) then (if 0 ≤ x3 then ((laws_markNeedS.f k ((at_ x1 x3).f0) x2).bind fun x4 => ((laws_markIntS.f k ((at_ (x1.set x3.toNat (⟨x4.2, (at_ x1 x3).f1⟩ : S83)) x3).f1) x4.1).bind fun x5 => (laws_markRouteS.l0 k ((x1.set x3.toNat (⟨x4.2, (at_ x1 x3).f1⟩ : S83)).set x3.toNat (⟨(at_ (x1.set x3.toNat (⟨x4.2, (at_ x1 x3).f1⟩ : S83)) x3).f0, x5.2⟩ : S83)) x5.1 (wrap64 (x3 + 1))))) else none) else (some (x2, x1)))
def laws_markRouteS.f (k : Nat) (a0 : (List S83)) (a1 : Int) : Option (Int × (List S83)) := (laws_markRouteS.l0 k a0 a1 0)
theorem laws_markRouteS.lab : ∀ k, (∀ (x1 : (List S83)) (x2 : Int) (x3 : Int) (r : (Int × (List S83))), laws_markRouteS.l0 k x1 x2 x3 = some r → J prog (.run 63 [4000000000] [l_ 26, b_ 0, c_ 7] [(0, (.rf 4000000000 0 x1.length 2 (x1.length * 2))), (1, (I x2)), (5, (I x3))] [(4000000000, (x1.flatMap o83))] (I r.1) [(4000000000, (r.2.flatMap o83))]))
 | 0 => (by intro x1 x2 x3 r h; unfold laws_markRouteS.l0 at h; cases h)
 | k + 1 => by
  have ih0 := laws_markRouteS.lab k
  · intro x1 x2 x3 r h
    unfold laws_markRouteS.l0 at h
    refine .loop' [c_ 208, c_ 209, c_ 105, l_ 26, b_ 0, c_ 7] ?_
    refine .reg' [0, 1, 5, 9] [] ⟨[(0, (.rf 4000000000 0 x1.length 2 (x1.length * 2))), (1, (I x2)), (5, (I x3)), (9, (B (decide (x3 < (x1.length : Int)))))], [(4000000000, (x1.flatMap o83))], [], []⟩ [c_ 209, c_ 105, l_ 26, b_ 0, c_ 7] aln nocal ?_
    by_cases c1 : x3 < (x1.length : Int)
    · rw [if_pos c1] at h
      refine .cond' (.tmp 9) true [c_ 840, c_ 841, b_ 1, c_ 211, l_ 26, b_ 0, c_ 7] (bT (dT c1)) ?_
      by_cases c2 : 0 ≤ x3
      · rw [if_pos c2] at h
        refine .opX 1000000000 4000000000 (x3.toNat * 2 + 0) (at_ x1 x3).f0.length 2 (cs' := (foc o83 x1 x3.toNat [(.rf 1000000000 0 ((at_ x1 x3).f0.length) 2 ((at_ x1 x3).f0.length * 2)), (.on (at_ x1 x3).f1.length 1 ((at_ x1 x3).f1.flatMap encI))])) (ds := ((at_ x1 x3).f0.flatMap e93)) (H2 := []) ((foc_op o83_ok c2 c1 0 (by decide)).trans rfl) (foc_ops o83_ok c2 c1 0 (by decide) _) ?_
        obtain ⟨x4, hx4, h⟩ := Option.bind_eq_some_iff.mp h
        refine .reg' [0, 1, 5] [.no, .no, .no, .no, .v (.rf 1000000000 0 ((at_ x1 x3).f0.length) 2 ((at_ x1 x3).f0.length * 2)), .no, .c ⟨102, [(.rf 0 0 ((at_ x1 x3).f0.length) 2 ((at_ x1 x3).f0.length * 2)), (I x2)], [(0, ((at_ x1 x3).f0.flatMap e93))], (I x4.1), [(0, (x4.2.flatMap e93))], [], [(1000000000, 0)], [(1000000000, 0)], (I x4.1), [(1000000000, (x4.2.flatMap e93))]⟩] ⟨[(0, (.rf 4000000000 0 x1.length 2 (x1.length * 2))), (1, (I x4.1)), (5, (I x3))], [(4000000000, (foc o83 x1 x3.toNat [(.rf 1000000000 0 ((at_ x1 x3).f0.length) 2 ((at_ x1 x3).f0.length * 2)), (.on (at_ x1 x3).f1.length 1 ((at_ x1 x3).f1.flatMap encI))])), (1000000000, (x4.2.flatMap e93))], [(0 : Int) ≤ x3 ∧ x3 < (x1.length : Int), rdC prog 82 ((foc o83 x1 x3.toNat [(.rf 1000000000 0 ((at_ x1 x3).f0.length) 2 ((at_ x1 x3).f0.length * 2)), (.on (at_ x1 x3).f1.length 1 ((at_ x1 x3).f1.flatMap encI))]).drop (0 + x3.toNat * 2 + 0)) = (.rf 1000000000 0 ((at_ x1 x3).f0.length) 2 ((at_ x1 x3).f0.length * 2)), x1.length * 2 = (foc o83 x1 x3.toNat [(.rf 1000000000 0 ((at_ x1 x3).f0.length) 2 ((at_ x1 x3).f0.length * 2)), (.on (at_ x1 x3).f1.length 1 ((at_ x1 x3).f1.flatMap encI))]).length ∧ 0 + x3.toNat * 2 + 0 + 1 ≤ (foc o83 x1 x3.toNat [(.rf 1000000000 0 ((at_ x1 x3).f0.length) 2 ((at_ x1 x3).f0.length * 2)), (.on (at_ x1 x3).f1.length 1 ((at_ x1 x3).f1.flatMap encI))]).length, COK (hget [(4000000000, (foc o83 x1 x3.toNat [(.rf 1000000000 0 ((at_ x1 x3).f0.length) 2 ((at_ x1 x3).f0.length * 2)), (.on (at_ x1 x3).f1.length 1 ((at_ x1 x3).f1.flatMap encI))])), (1000000000, ((at_ x1 x3).f0.flatMap e93))]) [(.rf 1000000000 0 ((at_ x1 x3).f0.length) 2 ((at_ x1 x3).f0.length * 2)), (I x2)] ⟨102, [(.rf 0 0 ((at_ x1 x3).f0.length) 2 ((at_ x1 x3).f0.length * 2)), (I x2)], [(0, ((at_ x1 x3).f0.flatMap e93))], (I x4.1), [(0, (x4.2.flatMap e93))], [], [(1000000000, 0)], [(1000000000, 0)], (I x4.1), [(1000000000, (x4.2.flatMap e93))]⟩], [⟨102, [(.rf 0 0 ((at_ x1 x3).f0.length) 2 ((at_ x1 x3).f0.length * 2)), (I x2)], [(0, ((at_ x1 x3).f0.flatMap e93))], (I x4.1), [(0, (x4.2.flatMap e93))], [], [(1000000000, 0)], [(1000000000, 0)], (I x4.1), [(1000000000, (x4.2.flatMap e93))]⟩]⟩ [c_ 841, b_ 1, c_ 211, l_ 26, b_ 0, c_ 7] (alc ⟨c2, c1⟩ (alc ((foc_ld o83_ok c2 c1 rfl 0 (by decide) rfl).trans rfl) (alc (foc_ok o83_ok c2 c1 rfl (by decide)) (alc (cokW false (a2c (.rf (memP_mem (p := (1000000000, 0)) rfl)) (a2c (.z .s) a2n)) (akc ⟨_, _, rfl, rfl, (rowF e93_ok _)⟩ akn) (akc (.inl rfl) akn) (.z .s) (akc ⟨_, _, rfl, rfl, rowB e93_c _⟩ akn) (fun h => absurd h (by decide))) aln)))) (acal (laws_markNeedS.J k ((at_ x1 x3).f0) x2 _ hx4) nocal) ?_
        refine .eqs (env2 := [(0, (.rf 4000000000 0 x1.length 2 (x1.length * 2))), (1, (I x4.1)), (5, (I x3))]) (H2 := [(4000000000, (foc o83 x1 x3.toNat [(.rf 1000000000 0 x4.2.length 2 (x4.2.length * 2)), (.on (at_ x1 x3).f1.length 1 ((at_ x1 x3).f1.flatMap encI))])), (1000000000, (x4.2.flatMap e93))]) (by first | (simp only [List.length_set, (laws_markNeedS.len k ((at_ x1 x3).f0) x2 _ hx4)]; done) | simp) (by first | rfl | (simp only [List.length_set, (laws_markNeedS.len k ((at_ x1 x3).f0) x2 _ hx4)]; done) | simp) ?_
        refine .clX [1000000000] 1000000000 4000000000 (x3.toNat * 2 + 0) x4.2.length 2 (cs' := ((x1.set x3.toNat (⟨x4.2, (at_ x1 x3).f1⟩ : S83)).flatMap o83)) (ds := (x4.2.flatMap e93)) (H2 := []) ((foc_get (vs := [(.rf 1000000000 0 x4.2.length 2 (x4.2.length * 2)), (.on (at_ x1 x3).f1.length 1 ((at_ x1 x3).f1.flatMap encI))]) o83_ok c2 c1 rfl 0 (by decide)).trans rfl) ((foc_set (vs := [(.rf 1000000000 0 x4.2.length 2 (x4.2.length * 2)), (.on (at_ x1 x3).f1.length 1 ((at_ x1 x3).f1.flatMap encI))]) o83_ok c2 c1 rfl 0 (by decide) _).trans (foc_end o83_ok c2 c1 (⟨x4.2, (at_ x1 x3).f1⟩ : S83))) (row_len e93_ok _) (rowS e93_s _) (rsc (rqE o83_ok _) rsn) ?_
        refine .opX 1000000001 4000000000 (x3.toNat * 2 + 1) (at_ (x1.set x3.toNat (⟨x4.2, (at_ x1 x3).f1⟩ : S83)) x3).f1.length 1 (cs' := (foc o83 (x1.set x3.toNat (⟨x4.2, (at_ x1 x3).f1⟩ : S83)) x3.toNat [(.on (at_ (x1.set x3.toNat (⟨x4.2, (at_ x1 x3).f1⟩ : S83)) x3).f0.length 2 ((at_ (x1.set x3.toNat (⟨x4.2, (at_ x1 x3).f1⟩ : S83)) x3).f0.flatMap e93)), (.rf 1000000001 0 ((at_ (x1.set x3.toNat (⟨x4.2, (at_ x1 x3).f1⟩ : S83)) x3).f1.length) 1 ((at_ (x1.set x3.toNat (⟨x4.2, (at_ x1 x3).f1⟩ : S83)) x3).f1.length * 1))])) (ds := ((at_ (x1.set x3.toNat (⟨x4.2, (at_ x1 x3).f1⟩ : S83)) x3).f1.flatMap encI)) (H2 := []) ((foc_op o83_ok c2 (ls c1) 1 (by decide)).trans rfl) (foc_ops o83_ok c2 (ls c1) 1 (by decide) _) ?_
        obtain ⟨x5, hx5, h⟩ := Option.bind_eq_some_iff.mp h
        refine .reg' [0, 1, 5] [.no, .no, .no, .no, .v (.rf 1000000001 0 ((at_ (x1.set x3.toNat (⟨x4.2, (at_ x1 x3).f1⟩ : S83)) x3).f1.length) 1 ((at_ (x1.set x3.toNat (⟨x4.2, (at_ x1 x3).f1⟩ : S83)) x3).f1.length * 1)), .no, .c ⟨43, [(.rf 0 0 ((at_ (x1.set x3.toNat (⟨x4.2, (at_ x1 x3).f1⟩ : S83)) x3).f1.length) 1 ((at_ (x1.set x3.toNat (⟨x4.2, (at_ x1 x3).f1⟩ : S83)) x3).f1.length * 1)), (I x4.1)], [(0, ((at_ (x1.set x3.toNat (⟨x4.2, (at_ x1 x3).f1⟩ : S83)) x3).f1.flatMap encI))], (I x5.1), [(0, (x5.2.flatMap encI))], [], [(1000000001, 0)], [(1000000001, 0)], (I x5.1), [(1000000001, (x5.2.flatMap encI))]⟩] ⟨[(0, (.rf 4000000000 0 x1.length 2 (x1.length * 2))), (1, (I x5.1)), (5, (I x3))], [(4000000000, (foc o83 (x1.set x3.toNat (⟨x4.2, (at_ x1 x3).f1⟩ : S83)) x3.toNat [(.on (at_ (x1.set x3.toNat (⟨x4.2, (at_ x1 x3).f1⟩ : S83)) x3).f0.length 2 ((at_ (x1.set x3.toNat (⟨x4.2, (at_ x1 x3).f1⟩ : S83)) x3).f0.flatMap e93)), (.rf 1000000001 0 ((at_ (x1.set x3.toNat (⟨x4.2, (at_ x1 x3).f1⟩ : S83)) x3).f1.length) 1 ((at_ (x1.set x3.toNat (⟨x4.2, (at_ x1 x3).f1⟩ : S83)) x3).f1.length * 1))])), (1000000001, (x5.2.flatMap encI))], [(0 : Int) ≤ x3 ∧ x3 < (x1.length : Int), rdC prog 22 ((foc o83 (x1.set x3.toNat (⟨x4.2, (at_ x1 x3).f1⟩ : S83)) x3.toNat [(.on (at_ (x1.set x3.toNat (⟨x4.2, (at_ x1 x3).f1⟩ : S83)) x3).f0.length 2 ((at_ (x1.set x3.toNat (⟨x4.2, (at_ x1 x3).f1⟩ : S83)) x3).f0.flatMap e93)), (.rf 1000000001 0 ((at_ (x1.set x3.toNat (⟨x4.2, (at_ x1 x3).f1⟩ : S83)) x3).f1.length) 1 ((at_ (x1.set x3.toNat (⟨x4.2, (at_ x1 x3).f1⟩ : S83)) x3).f1.length * 1))]).drop (0 + x3.toNat * 2 + 1)) = (.rf 1000000001 0 ((at_ (x1.set x3.toNat (⟨x4.2, (at_ x1 x3).f1⟩ : S83)) x3).f1.length) 1 ((at_ (x1.set x3.toNat (⟨x4.2, (at_ x1 x3).f1⟩ : S83)) x3).f1.length * 1)), x1.length * 2 = (foc o83 (x1.set x3.toNat (⟨x4.2, (at_ x1 x3).f1⟩ : S83)) x3.toNat [(.on (at_ (x1.set x3.toNat (⟨x4.2, (at_ x1 x3).f1⟩ : S83)) x3).f0.length 2 ((at_ (x1.set x3.toNat (⟨x4.2, (at_ x1 x3).f1⟩ : S83)) x3).f0.flatMap e93)), (.rf 1000000001 0 ((at_ (x1.set x3.toNat (⟨x4.2, (at_ x1 x3).f1⟩ : S83)) x3).f1.length) 1 ((at_ (x1.set x3.toNat (⟨x4.2, (at_ x1 x3).f1⟩ : S83)) x3).f1.length * 1))]).length ∧ 0 + x3.toNat * 2 + 1 + 1 ≤ (foc o83 (x1.set x3.toNat (⟨x4.2, (at_ x1 x3).f1⟩ : S83)) x3.toNat [(.on (at_ (x1.set x3.toNat (⟨x4.2, (at_ x1 x3).f1⟩ : S83)) x3).f0.length 2 ((at_ (x1.set x3.toNat (⟨x4.2, (at_ x1 x3).f1⟩ : S83)) x3).f0.flatMap e93)), (.rf 1000000001 0 ((at_ (x1.set x3.toNat (⟨x4.2, (at_ x1 x3).f1⟩ : S83)) x3).f1.length) 1 ((at_ (x1.set x3.toNat (⟨x4.2, (at_ x1 x3).f1⟩ : S83)) x3).f1.length * 1))]).length, COK (hget [(4000000000, (foc o83 (x1.set x3.toNat (⟨x4.2, (at_ x1 x3).f1⟩ : S83)) x3.toNat [(.on (at_ (x1.set x3.toNat (⟨x4.2, (at_ x1 x3).f1⟩ : S83)) x3).f0.length 2 ((at_ (x1.set x3.toNat (⟨x4.2, (at_ x1 x3).f1⟩ : S83)) x3).f0.flatMap e93)), (.rf 1000000001 0 ((at_ (x1.set x3.toNat (⟨x4.2, (at_ x1 x3).f1⟩ : S83)) x3).f1.length) 1 ((at_ (x1.set x3.toNat (⟨x4.2, (at_ x1 x3).f1⟩ : S83)) x3).f1.length * 1))])), (1000000001, ((at_ (x1.set x3.toNat (⟨x4.2, (at_ x1 x3).f1⟩ : S83)) x3).f1.flatMap encI))]) [(.rf 1000000001 0 ((at_ (x1.set x3.toNat (⟨x4.2, (at_ x1 x3).f1⟩ : S83)) x3).f1.length) 1 ((at_ (x1.set x3.toNat (⟨x4.2, (at_ x1 x3).f1⟩ : S83)) x3).f1.length * 1)), (I x4.1)] ⟨43, [(.rf 0 0 ((at_ (x1.set x3.toNat (⟨x4.2, (at_ x1 x3).f1⟩ : S83)) x3).f1.length) 1 ((at_ (x1.set x3.toNat (⟨x4.2, (at_ x1 x3).f1⟩ : S83)) x3).f1.length * 1)), (I x4.1)], [(0, ((at_ (x1.set x3.toNat (⟨x4.2, (at_ x1 x3).f1⟩ : S83)) x3).f1.flatMap encI))], (I x5.1), [(0, (x5.2.flatMap encI))], [], [(1000000001, 0)], [(1000000001, 0)], (I x5.1), [(1000000001, (x5.2.flatMap encI))]⟩], [⟨43, [(.rf 0 0 ((at_ (x1.set x3.toNat (⟨x4.2, (at_ x1 x3).f1⟩ : S83)) x3).f1.length) 1 ((at_ (x1.set x3.toNat (⟨x4.2, (at_ x1 x3).f1⟩ : S83)) x3).f1.length * 1)), (I x4.1)], [(0, ((at_ (x1.set x3.toNat (⟨x4.2, (at_ x1 x3).f1⟩ : S83)) x3).f1.flatMap encI))], (I x5.1), [(0, (x5.2.flatMap encI))], [], [(1000000001, 0)], [(1000000001, 0)], (I x5.1), [(1000000001, (x5.2.flatMap encI))]⟩]⟩ [c_ 211, l_ 26, b_ 0, c_ 7] (alc ⟨c2, c1⟩ (alc ((foc_ld o83_ok c2 (ls c1) rfl 1 (by decide) rfl).trans rfl) (alc (okL (by simp only [List.length_set]) (foc_ok o83_ok c2 (ls c1) rfl (by decide))) (alc (cokW false (a2c (.rf (memP_mem (p := (1000000001, 0)) rfl)) (a2c (.z .s) a2n)) (akc ⟨_, _, rfl, rfl, (rowF encI_ok _)⟩ akn) (akc (.inl rfl) akn) (.z .s) (akc ⟨_, _, rfl, rfl, rowB encI_c _⟩ akn) (fun h => absurd h (by decide))) aln)))) (acal (laws_markIntS.J k ((at_ (x1.set x3.toNat (⟨x4.2, (at_ x1 x3).f1⟩ : S83)) x3).f1) x4.1 _ hx5) nocal) ?_
        refine .eqs (env2 := [(0, (.rf 4000000000 0 x1.length 2 (x1.length * 2))), (1, (I x5.1)), (5, (I x3))]) (H2 := [(4000000000, (foc o83 (x1.set x3.toNat (⟨x4.2, (at_ x1 x3).f1⟩ : S83)) x3.toNat [(.on (at_ (x1.set x3.toNat (⟨x4.2, (at_ x1 x3).f1⟩ : S83)) x3).f0.length 2 ((at_ (x1.set x3.toNat (⟨x4.2, (at_ x1 x3).f1⟩ : S83)) x3).f0.flatMap e93)), (.rf 1000000001 0 x5.2.length 1 (x5.2.length * 1))])), (1000000001, (x5.2.flatMap encI))]) (by first | (simp only [List.length_set, (laws_markIntS.len k ((at_ (x1.set x3.toNat (⟨x4.2, (at_ x1 x3).f1⟩ : S83)) x3).f1) x4.1 _ hx5)]; done) | simp) (by first | rfl | (simp only [List.length_set, (laws_markIntS.len k ((at_ (x1.set x3.toNat (⟨x4.2, (at_ x1 x3).f1⟩ : S83)) x3).f1) x4.1 _ hx5)]; done) | simp) ?_
        refine .clX [1000000001] 1000000001 4000000000 (x3.toNat * 2 + 1) x5.2.length 1 (cs' := (((x1.set x3.toNat (⟨x4.2, (at_ x1 x3).f1⟩ : S83)).set x3.toNat (⟨(at_ (x1.set x3.toNat (⟨x4.2, (at_ x1 x3).f1⟩ : S83)) x3).f0, x5.2⟩ : S83)).flatMap o83)) (ds := (x5.2.flatMap encI)) (H2 := []) ((foc_get (vs := [(.on (at_ (x1.set x3.toNat (⟨x4.2, (at_ x1 x3).f1⟩ : S83)) x3).f0.length 2 ((at_ (x1.set x3.toNat (⟨x4.2, (at_ x1 x3).f1⟩ : S83)) x3).f0.flatMap e93)), (.rf 1000000001 0 x5.2.length 1 (x5.2.length * 1))]) o83_ok c2 (ls c1) rfl 1 (by decide)).trans rfl) ((foc_set (vs := [(.on (at_ (x1.set x3.toNat (⟨x4.2, (at_ x1 x3).f1⟩ : S83)) x3).f0.length 2 ((at_ (x1.set x3.toNat (⟨x4.2, (at_ x1 x3).f1⟩ : S83)) x3).f0.flatMap e93)), (.rf 1000000001 0 x5.2.length 1 (x5.2.length * 1))]) o83_ok c2 (ls c1) rfl 1 (by decide) _).trans (foc_end o83_ok c2 (ls c1) (⟨(at_ (x1.set x3.toNat (⟨x4.2, (at_ x1 x3).f1⟩ : S83)) x3).f0, x5.2⟩ : S83))) (row_len encI_ok _) (rowS encI_s _) (rsc (rqE o83_ok _) rsn) ?_
        refine .reg' [0, 1, 5] [] ⟨[(0, (.rf 4000000000 0 x1.length 2 (x1.length * 2))), (1, (I x5.1)), (5, (I (wrap64 (x3 + 1))))], [(4000000000, (((x1.set x3.toNat (⟨x4.2, (at_ x1 x3).f1⟩ : S83)).set x3.toNat (⟨(at_ (x1.set x3.toNat (⟨x4.2, (at_ x1 x3).f1⟩ : S83)) x3).f0, x5.2⟩ : S83)).flatMap o83))], [], []⟩ [l_ 26, b_ 0, c_ 7] aln nocal ?_
        refine .eqs (env2 := [(0, (.rf 4000000000 0 (((x1.set x3.toNat (⟨x4.2, (at_ x1 x3).f1⟩ : S83)).set x3.toNat (⟨(at_ (x1.set x3.toNat (⟨x4.2, (at_ x1 x3).f1⟩ : S83)) x3).f0, x5.2⟩ : S83)).length) 2 (((x1.set x3.toNat (⟨x4.2, (at_ x1 x3).f1⟩ : S83)).set x3.toNat (⟨(at_ (x1.set x3.toNat (⟨x4.2, (at_ x1 x3).f1⟩ : S83)) x3).f0, x5.2⟩ : S83)).length * 2))), (1, (I x5.1)), (5, (I (wrap64 (x3 + 1))))]) (H2 := [(4000000000, (((x1.set x3.toNat (⟨x4.2, (at_ x1 x3).f1⟩ : S83)).set x3.toNat (⟨(at_ (x1.set x3.toNat (⟨x4.2, (at_ x1 x3).f1⟩ : S83)) x3).f0, x5.2⟩ : S83)).flatMap o83))]) (by first | (simp only [List.length_set]; done) | simp) (by first | rfl | (simp only [List.length_set]; done) | simp) ?_
        exact ih0 ((x1.set x3.toNat (⟨x4.2, (at_ x1 x3).f1⟩ : S83)).set x3.toNat (⟨(at_ (x1.set x3.toNat (⟨x4.2, (at_ x1 x3).f1⟩ : S83)) x3).f0, x5.2⟩ : S83)) x5.1 (wrap64 (x3 + 1)) _ h
      · rw [if_neg c2] at h
        cases h
    · rw [if_neg c1] at h
      refine .cond' (.tmp 9) false [c_ 14, c_ 15] (bF (dF c1)) ?_
      refine .reg' [4] [] ⟨[(4, (I x2))], [(4000000000, (x1.flatMap o83))], [], []⟩ [c_ 15] aln nocal ?_
      have h := Option.some.inj h
      subst h
      exact .fin' [] [(4000000000, 4000000000)] (I x2) [] aln (shc 4000000000 (rowF o83_ok _) shn) (.z .s)
theorem laws_markRouteS.J (k : Nat) (a0 : (List S83)) (a1 : Int) (r : (Int × (List S83))) (h : laws_markRouteS.f k a0 a1 = some r) : J prog (.call 63 [(.rf 4000000000 0 a0.length 2 (a0.length * 2)), (I a1)] [(4000000000, (a0.flatMap o83))] (I r.1) [(4000000000, (r.2.flatMap o83))]) := by
  unfold laws_markRouteS.f at h
  have ih0 := laws_markRouteS.lab k
  refine .call' [c_ 2, c_ 3] ?_
  refine .reg' [0, 1] [] ⟨[(0, (.rf 4000000000 0 a0.length 2 (a0.length * 2))), (1, (I a1))], [(4000000000, (a0.flatMap o83))], [], []⟩ [c_ 12, c_ 13, c_ 7] aln nocal ?_
  refine .reg' [0, 1, 5] [] ⟨[(0, (.rf 4000000000 0 a0.length 2 (a0.length * 2))), (1, (I a1)), (5, (I 0))], [(4000000000, (a0.flatMap o83))], [], []⟩ [l_ 26, b_ 0, c_ 7] aln nocal ?_
  exact ih0 a0 a1 0 _ h
theorem laws_markRouteS.lenl : ∀ k, (∀ (x1 : (List S83)) (x2 : Int) (x3 : Int) (r : (Int × (List S83))), laws_markRouteS.l0 k x1 x2 x3 = some r → r.2.length = x1.length)
 | 0 => (by intro x1 x2 x3 r h; unfold laws_markRouteS.l0 at h; cases h)
 | k + 1 => by
  have ih0 := laws_markRouteS.lenl k
  · intro x1 x2 x3 r h
    unfold laws_markRouteS.l0 at h
    by_cases c1 : x3 < (x1.length : Int)
    · rw [if_pos c1] at h
      by_cases c2 : 0 ≤ x3
      · rw [if_pos c2] at h
        obtain ⟨x4, hx4, h⟩ := Option.bind_eq_some_iff.mp h
        have lhx4 := laws_markNeedS.len k ((at_ x1 x3).f0) x2 _ hx4
        obtain ⟨x5, hx5, h⟩ := Option.bind_eq_some_iff.mp h
        have lhx5 := laws_markIntS.len k ((at_ (x1.set x3.toNat (⟨x4.2, (at_ x1 x3).f1⟩ : S83)) x3).f1) x4.1 _ hx5
        have q := ih0 ((x1.set x3.toNat (⟨x4.2, (at_ x1 x3).f1⟩ : S83)).set x3.toNat (⟨(at_ (x1.set x3.toNat (⟨x4.2, (at_ x1 x3).f1⟩ : S83)) x3).f0, x5.2⟩ : S83)) x5.1 (wrap64 (x3 + 1)) _ h
        first | exact q | (simp only [List.length_set, lhx4, lhx5] at q; exact q)
      · rw [if_neg c2] at h
        cases h
    · rw [if_neg c1] at h
      have h := Option.some.inj h
      subst h
      first | rfl | (simp only [List.length_set]; done) | exact ⟨by first | rfl | simp only [List.length_set]⟩
theorem laws_markRouteS.len (k : Nat) (a0 : (List S83)) (a1 : Int) (r : (Int × (List S83))) (h : laws_markRouteS.f k a0 a1 = some r) : r.2.length = a0.length := by
  unfold laws_markRouteS.f at h
  have ih0 := laws_markRouteS.lenl k
  have q := ih0 a0 a1 0 _ h
  first | exact q | (simp only [List.length_set] at q; exact q)
/-! laws_markPlant: function 20 -/
def laws_markPlant.f (k : Nat) (a0 : S29) (a1 : Int) : Option (Int × (List Int) × (List S83)) := ((laws_markIntS.f k a0.f0 a1).bind fun x1 => ((laws_markRouteS.f k a0.f2 x1.1).bind fun x2 => (some (x2.1, x1.2, x2.2))))
theorem laws_markPlant.J (k : Nat) (a0 : S29) (a1 : Int) (r : (Int × (List Int) × (List S83))) (h : laws_markPlant.f k a0 a1 = some r) : J prog (.call 20 [(.ag [(.rf 0 0 a0.f0.length 1 (a0.f0.length * 1)), (I a0.f1), (.rf 4000000002 0 a0.f2.length 2 (a0.f2.length * 2))]), (I a1)] [(0, (a0.f0.flatMap encI)), (4000000002, (a0.f2.flatMap o83))] (I r.1) [(0, (r.2.1.flatMap encI)), (4000000002, (r.2.2.flatMap o83))]) := by
  unfold laws_markPlant.f at h
  refine .call' [c_ 2, c_ 3] ?_
  refine .reg' [1, 2] [] ⟨[(1, (I a1)), (2, (.pt 256 0 3))], [(0, (a0.f0.flatMap encI)), (4000000002, (a0.f2.flatMap o83)), (256, [(.rf 0 0 a0.f0.length 1 (a0.f0.length * 1)), (I a0.f1), (.rf 4000000002 0 a0.f2.length 2 (a0.f2.length * 2))])], [], []⟩ [c_ 6, c_ 7] aln nocal ?_
  obtain ⟨x1, hx1, h⟩ := Option.bind_eq_some_iff.mp h
  refine .reg' [1, 2] [.no, .no, .no, .c ⟨43, [(.rf 0 0 a0.f0.length 1 (a0.f0.length * 1)), (I a1)], [(0, (a0.f0.flatMap encI))], (I x1.1), [(0, (x1.2.flatMap encI))], [], [(0, 0)], [(0, 0)], (I x1.1), [(0, (x1.2.flatMap encI))]⟩] ⟨[(1, (I x1.1)), (2, (.pt 256 0 3))], [(0, (x1.2.flatMap encI)), (4000000002, (a0.f2.flatMap o83)), (256, [(.rf 0 0 a0.f0.length 1 (a0.f0.length * 1)), (I a0.f1), (.rf 4000000002 0 a0.f2.length 2 (a0.f2.length * 2))])], [3 = 3 ∧ 0 + 1 ≤ 3, COK (hget [(0, (a0.f0.flatMap encI)), (4000000002, (a0.f2.flatMap o83)), (256, [(.rf 0 0 a0.f0.length 1 (a0.f0.length * 1)), (I a0.f1), (.rf 4000000002 0 a0.f2.length 2 (a0.f2.length * 2))])]) [(.rf 0 0 a0.f0.length 1 (a0.f0.length * 1)), (I a1)] ⟨43, [(.rf 0 0 a0.f0.length 1 (a0.f0.length * 1)), (I a1)], [(0, (a0.f0.flatMap encI))], (I x1.1), [(0, (x1.2.flatMap encI))], [], [(0, 0)], [(0, 0)], (I x1.1), [(0, (x1.2.flatMap encI))]⟩], [⟨43, [(.rf 0 0 a0.f0.length 1 (a0.f0.length * 1)), (I a1)], [(0, (a0.f0.flatMap encI))], (I x1.1), [(0, (x1.2.flatMap encI))], [], [(0, 0)], [(0, 0)], (I x1.1), [(0, (x1.2.flatMap encI))]⟩]⟩ [c_ 14, c_ 15] (alc ⟨rfl, by decide⟩ (alc (cokW false (a2c (.rf (memP_mem (p := (0, 0)) rfl)) (a2c (.z .s) a2n)) (akc ⟨_, _, rfl, rfl, (rowF encI_ok _)⟩ akn) (akc (.inl rfl) akn) (.z .s) (akc ⟨_, _, rfl, rfl, rowB encI_c _⟩ akn) (fun h => absurd h (by decide))) aln)) (acal (laws_markIntS.J k a0.f0 a1 _ hx1) nocal) ?_
  refine .eqs (env2 := [(1, (I x1.1)), (2, (.pt 256 0 3))]) (H2 := [(0, (x1.2.flatMap encI)), (4000000002, (a0.f2.flatMap o83)), (256, [(.rf 0 0 x1.2.length 1 (x1.2.length * 1)), (I a0.f1), (.rf 4000000002 0 a0.f2.length 2 (a0.f2.length * 2))])]) (by first | (simp only [List.length_set, (laws_markIntS.len k a0.f0 a1 _ hx1)]; done) | simp) (by first | rfl | (simp only [List.length_set, (laws_markIntS.len k a0.f0 a1 _ hx1)]; done) | simp) ?_
  obtain ⟨x2, hx2, h⟩ := Option.bind_eq_some_iff.mp h
  refine .reg' [1] [.no, .no, .no, .c ⟨63, [(.rf 4000000000 0 a0.f2.length 2 (a0.f2.length * 2)), (I x1.1)], [(4000000000, (a0.f2.flatMap o83))], (I x2.1), [(4000000000, (x2.2.flatMap o83))], [], [(4000000002, 4000000000)], [(4000000002, 4000000000)], (I x2.1), [(4000000002, (x2.2.flatMap o83))]⟩] ⟨[(1, (I x2.1))], [(0, (x1.2.flatMap encI)), (4000000002, (x2.2.flatMap o83)), (256, [(.rf 0 0 x1.2.length 1 (x1.2.length * 1)), (I a0.f1), (.rf 4000000002 0 a0.f2.length 2 (a0.f2.length * 2))])], [3 = 3 ∧ 2 + 1 ≤ 3, COK (hget [(0, (x1.2.flatMap encI)), (4000000002, (a0.f2.flatMap o83)), (256, [(.rf 0 0 x1.2.length 1 (x1.2.length * 1)), (I a0.f1), (.rf 4000000002 0 a0.f2.length 2 (a0.f2.length * 2))])]) [(.rf 4000000002 0 a0.f2.length 2 (a0.f2.length * 2)), (I x1.1)] ⟨63, [(.rf 4000000000 0 a0.f2.length 2 (a0.f2.length * 2)), (I x1.1)], [(4000000000, (a0.f2.flatMap o83))], (I x2.1), [(4000000000, (x2.2.flatMap o83))], [], [(4000000002, 4000000000)], [(4000000002, 4000000000)], (I x2.1), [(4000000002, (x2.2.flatMap o83))]⟩], [⟨63, [(.rf 4000000000 0 a0.f2.length 2 (a0.f2.length * 2)), (I x1.1)], [(4000000000, (a0.f2.flatMap o83))], (I x2.1), [(4000000000, (x2.2.flatMap o83))], [], [(4000000002, 4000000000)], [(4000000002, 4000000000)], (I x2.1), [(4000000002, (x2.2.flatMap o83))]⟩]⟩ [c_ 30, c_ 31] (alc ⟨rfl, by decide⟩ (alc (cokW false (a2c (.rf (memP_mem (p := (4000000002, 4000000000)) rfl)) (a2c (.z .s) a2n)) (akc ⟨_, _, rfl, rfl, (rowF o83_ok _)⟩ akn) (akc (.inl rfl) akn) (.z .s) (akc ⟨_, _, rfl, rfl, rowB o83_c _⟩ akn) (fun h => absurd h (by decide))) aln)) (acal (laws_markRouteS.J k a0.f2 x1.1 _ hx2) nocal) ?_
  refine .eqs (env2 := [(1, (I x2.1))]) (H2 := [(0, (x1.2.flatMap encI)), (4000000002, (x2.2.flatMap o83)), (256, [(.rf 0 0 x1.2.length 1 (x1.2.length * 1)), (I a0.f1), (.rf 4000000002 0 x2.2.length 2 (x2.2.length * 2))])]) (by first | (simp only [List.length_set, (laws_markIntS.len k a0.f0 a1 _ hx1), (laws_markRouteS.len k a0.f2 x1.1 _ hx2)]; done) | simp) (by first | rfl | (simp only [List.length_set, (laws_markIntS.len k a0.f0 a1 _ hx1), (laws_markRouteS.len k a0.f2 x1.1 _ hx2)]; done) | simp) ?_
  refine .reg' [4] [] ⟨[(4, (I x2.1))], [(0, (x1.2.flatMap encI)), (4000000002, (x2.2.flatMap o83)), (256, [(.rf 0 0 x1.2.length 1 (x1.2.length * 1)), (I a0.f1), (.rf 4000000002 0 x2.2.length 2 (x2.2.length * 2))])], [], []⟩ [c_ 31] aln nocal ?_
  have h := Option.some.inj h
  subst h
  exact .fin' [] [(0, 0), (4000000002, 4000000002)] (I x2.1) [] aln (shc 0 (rowF encI_ok _) (shc 4000000002 (rowF o83_ok _) shn)) (.z .s)
theorem laws_markPlant.len (k : Nat) (a0 : S29) (a1 : Int) (r : (Int × (List Int) × (List S83))) (h : laws_markPlant.f k a0 a1 = some r) : r.2.1.length = a0.f0.length ∧ r.2.2.length = a0.f2.length := by
  unfold laws_markPlant.f at h
  obtain ⟨x1, hx1, h⟩ := Option.bind_eq_some_iff.mp h
  have lhx1 := laws_markIntS.len k a0.f0 a1 _ hx1
  obtain ⟨x2, hx2, h⟩ := Option.bind_eq_some_iff.mp h
  have lhx2 := laws_markRouteS.len k a0.f2 x1.1 _ hx2
  have h := Option.some.inj h
  subst h
  first | rfl | (simp only [List.length_set, lhx1, lhx2]; done) | exact ⟨by first | rfl | simp only [List.length_set, lhx1, lhx2], by first | rfl | simp only [List.length_set, lhx1, lhx2]⟩
/-! laws_markBoolS: function 64 -/
def laws_markBoolS.l0 : Nat → (List Bool) → Int → Int → Option (Int × (List Bool))
 | 0, _, _, _ => none
 | k + 1, x1, x2, x3 => (if x3 < (x1.length : Int) then (if 0 ≤ x3 then (laws_markBoolS.l0 k (x1.set x3.toNat ((x2.tmod (3 : Int)) == 0)) (wrap64 (x2 + 1)) (wrap64 (x3 + 1))) else none) else (some (x2, x1)))
def laws_markBoolS.f (k : Nat) (a0 : (List Bool)) (a1 : Int) : Option (Int × (List Bool)) := (laws_markBoolS.l0 k a0 a1 0)
theorem laws_markBoolS.lab : ∀ k, (∀ (x1 : (List Bool)) (x2 : Int) (x3 : Int) (r : (Int × (List Bool))), laws_markBoolS.l0 k x1 x2 x3 = some r → J prog (.run 64 [0] [l_ 26, b_ 0, c_ 7] [(0, (.rf 0 0 x1.length 1 (x1.length * 1))), (1, (I x2)), (5, (I x3))] [(0, (x1.flatMap encB))] (I r.1) [(0, (r.2.flatMap encB))]))
 | 0 => (by intro x1 x2 x3 r h; unfold laws_markBoolS.l0 at h; cases h)
 | k + 1 => by
  have ih0 := laws_markBoolS.lab k
  · intro x1 x2 x3 r h
    unfold laws_markBoolS.l0 at h
    refine .loop' [c_ 208, c_ 209, c_ 105, l_ 26, b_ 0, c_ 7] ?_
    refine .reg' [0, 1, 5, 9] [] ⟨[(0, (.rf 0 0 x1.length 1 (x1.length * 1))), (1, (I x2)), (5, (I x3)), (9, (B (decide (x3 < (x1.length : Int)))))], [(0, (x1.flatMap encB))], [], []⟩ [c_ 209, c_ 105, l_ 26, b_ 0, c_ 7] aln nocal ?_
    by_cases c1 : x3 < (x1.length : Int)
    · rw [if_pos c1] at h
      refine .cond' (.tmp 9) true [c_ 840, c_ 841, b_ 1, c_ 211, l_ 26, b_ 0, c_ 7] (bT (dT c1)) ?_
      by_cases c2 : 0 ≤ x3
      · rw [if_pos c2] at h
        refine .reg' [0, 1, 5] [.no, .no, .no, .no, .no, .no, .w .un ((x1.set x3.toNat ((x2.tmod (3 : Int)) == 0)).flatMap encB)] ⟨[(0, (.rf 0 0 x1.length 1 (x1.length * 1))), (1, (I x2)), (5, (I x3))], [(0, ((x1.set x3.toNat ((x2.tmod (3 : Int)) == 0)).flatMap encB))], [(3 : Int) ≠ 0, (0 : Int) ≤ x3 ∧ x3 < (x1.length : Int), V.un = V.un, spl (x1.flatMap encB) (0 + x3.toNat * 1) [(B ((x2.tmod (3 : Int)) == 0))] = ((x1.set x3.toNat ((x2.tmod (3 : Int)) == 0)).flatMap encB), x1.length * 1 = (x1.flatMap encB).length ∧ 0 + x3.toNat * 1 + 1 ≤ (x1.flatMap encB).length], []⟩ [c_ 841, b_ 1, c_ 211, l_ 26, b_ 0, c_ 7] (alc (by decide) (alc ⟨c2, c1⟩ (alc rfl (alc (st_row1 encB_ok c2 c1 (B ((x2.tmod (3 : Int)) == 0)) rfl) (alc (okA0 encB_ok c2 c1 (by decide)) aln))))) nocal ?_
        refine .eqs (env2 := [(0, (.rf 0 0 ((x1.set x3.toNat ((x2.tmod (3 : Int)) == 0)).length) 1 ((x1.set x3.toNat ((x2.tmod (3 : Int)) == 0)).length * 1))), (1, (I x2)), (5, (I x3))]) (H2 := [(0, ((x1.set x3.toNat ((x2.tmod (3 : Int)) == 0)).flatMap encB))]) (by first | (simp only [List.length_set]; done) | simp) (by first | rfl | (simp only [List.length_set]; done) | simp) ?_
        refine .reg' [0, 1, 5] [] ⟨[(0, (.rf 0 0 ((x1.set x3.toNat ((x2.tmod (3 : Int)) == 0)).length) 1 ((x1.set x3.toNat ((x2.tmod (3 : Int)) == 0)).length * 1))), (1, (I (wrap64 (x2 + 1)))), (5, (I x3))], [(0, ((x1.set x3.toNat ((x2.tmod (3 : Int)) == 0)).flatMap encB))], [], []⟩ [c_ 211, l_ 26, b_ 0, c_ 7] aln nocal ?_
        refine .reg' [0, 1, 5] [] ⟨[(0, (.rf 0 0 ((x1.set x3.toNat ((x2.tmod (3 : Int)) == 0)).length) 1 ((x1.set x3.toNat ((x2.tmod (3 : Int)) == 0)).length * 1))), (1, (I (wrap64 (x2 + 1)))), (5, (I (wrap64 (x3 + 1))))], [(0, ((x1.set x3.toNat ((x2.tmod (3 : Int)) == 0)).flatMap encB))], [], []⟩ [l_ 26, b_ 0, c_ 7] aln nocal ?_
        exact ih0 (x1.set x3.toNat ((x2.tmod (3 : Int)) == 0)) (wrap64 (x2 + 1)) (wrap64 (x3 + 1)) _ h
      · rw [if_neg c2] at h
        cases h
    · rw [if_neg c1] at h
      refine .cond' (.tmp 9) false [c_ 14, c_ 15] (bF (dF c1)) ?_
      refine .reg' [4] [] ⟨[(4, (I x2))], [(0, (x1.flatMap encB))], [], []⟩ [c_ 15] aln nocal ?_
      have h := Option.some.inj h
      subst h
      exact .fin' [] [(0, 0)] (I x2) [] aln (shc 0 (rowF encB_ok _) shn) (.z .s)
theorem laws_markBoolS.J (k : Nat) (a0 : (List Bool)) (a1 : Int) (r : (Int × (List Bool))) (h : laws_markBoolS.f k a0 a1 = some r) : J prog (.call 64 [(.rf 0 0 a0.length 1 (a0.length * 1)), (I a1)] [(0, (a0.flatMap encB))] (I r.1) [(0, (r.2.flatMap encB))]) := by
  unfold laws_markBoolS.f at h
  have ih0 := laws_markBoolS.lab k
  refine .call' [c_ 2, c_ 3] ?_
  refine .reg' [0, 1] [] ⟨[(0, (.rf 0 0 a0.length 1 (a0.length * 1))), (1, (I a1))], [(0, (a0.flatMap encB))], [], []⟩ [c_ 12, c_ 13, c_ 7] aln nocal ?_
  refine .reg' [0, 1, 5] [] ⟨[(0, (.rf 0 0 a0.length 1 (a0.length * 1))), (1, (I a1)), (5, (I 0))], [(0, (a0.flatMap encB))], [], []⟩ [l_ 26, b_ 0, c_ 7] aln nocal ?_
  exact ih0 a0 a1 0 _ h
theorem laws_markBoolS.lenl : ∀ k, (∀ (x1 : (List Bool)) (x2 : Int) (x3 : Int) (r : (Int × (List Bool))), laws_markBoolS.l0 k x1 x2 x3 = some r → r.2.length = x1.length)
 | 0 => (by intro x1 x2 x3 r h; unfold laws_markBoolS.l0 at h; cases h)
 | k + 1 => by
  have ih0 := laws_markBoolS.lenl k
  · intro x1 x2 x3 r h
    unfold laws_markBoolS.l0 at h
    by_cases c1 : x3 < (x1.length : Int)
    · rw [if_pos c1] at h
      by_cases c2 : 0 ≤ x3
      · rw [if_pos c2] at h
        have q := ih0 (x1.set x3.toNat ((x2.tmod (3 : Int)) == 0)) (wrap64 (x2 + 1)) (wrap64 (x3 + 1)) _ h
        first | exact q | (simp only [List.length_set] at q; exact q)
      · rw [if_neg c2] at h
        cases h
    · rw [if_neg c1] at h
      have h := Option.some.inj h
      subst h
      first | rfl | (simp only [List.length_set]; done) | exact ⟨by first | rfl | simp only [List.length_set]⟩
theorem laws_markBoolS.len (k : Nat) (a0 : (List Bool)) (a1 : Int) (r : (Int × (List Bool))) (h : laws_markBoolS.f k a0 a1 = some r) : r.2.length = a0.length := by
  unfold laws_markBoolS.f at h
  have ih0 := laws_markBoolS.lenl k
  have q := ih0 a0 a1 0 _ h
  first | exact q | (simp only [List.length_set] at q; exact q)
/-! laws_markLocking: function 21 -/
def laws_markLocking.f (k : Nat) (a0 : S37) (a1 : Int) : Option (Int × (List Int) × (List Bool) × (List Bool)) := ((laws_markIntS.f k a0.f0 a1).bind fun x1 => ((laws_markBoolS.f k a0.f1 x1.1).bind fun x2 => ((laws_markBoolS.f k a0.f2 x2.1).bind fun x3 => (some (x3.1, x1.2, x2.2, x3.2)))))
theorem laws_markLocking.J (k : Nat) (a0 : S37) (a1 : Int) (r : (Int × (List Int) × (List Bool) × (List Bool))) (h : laws_markLocking.f k a0 a1 = some r) : J prog (.call 21 [(.ag [(.rf 0 0 a0.f0.length 1 (a0.f0.length * 1)), (.rf 1 0 a0.f1.length 1 (a0.f1.length * 1)), (.rf 2 0 a0.f2.length 1 (a0.f2.length * 1))]), (I a1)] [(0, (a0.f0.flatMap encI)), (1, (a0.f1.flatMap encB)), (2, (a0.f2.flatMap encB))] (I r.1) [(0, (r.2.1.flatMap encI)), (1, (r.2.2.1.flatMap encB)), (2, (r.2.2.2.flatMap encB))]) := by
  unfold laws_markLocking.f at h
  refine .call' [c_ 2, c_ 3] ?_
  refine .reg' [1, 2] [] ⟨[(1, (I a1)), (2, (.pt 256 0 3))], [(0, (a0.f0.flatMap encI)), (1, (a0.f1.flatMap encB)), (2, (a0.f2.flatMap encB)), (256, [(.rf 0 0 a0.f0.length 1 (a0.f0.length * 1)), (.rf 1 0 a0.f1.length 1 (a0.f1.length * 1)), (.rf 2 0 a0.f2.length 1 (a0.f2.length * 1))])], [], []⟩ [c_ 6, c_ 7] aln nocal ?_
  obtain ⟨x1, hx1, h⟩ := Option.bind_eq_some_iff.mp h
  refine .reg' [1, 2] [.no, .no, .no, .c ⟨43, [(.rf 0 0 a0.f0.length 1 (a0.f0.length * 1)), (I a1)], [(0, (a0.f0.flatMap encI))], (I x1.1), [(0, (x1.2.flatMap encI))], [], [(0, 0)], [(0, 0)], (I x1.1), [(0, (x1.2.flatMap encI))]⟩] ⟨[(1, (I x1.1)), (2, (.pt 256 0 3))], [(0, (x1.2.flatMap encI)), (1, (a0.f1.flatMap encB)), (2, (a0.f2.flatMap encB)), (256, [(.rf 0 0 a0.f0.length 1 (a0.f0.length * 1)), (.rf 1 0 a0.f1.length 1 (a0.f1.length * 1)), (.rf 2 0 a0.f2.length 1 (a0.f2.length * 1))])], [3 = 3 ∧ 0 + 1 ≤ 3, COK (hget [(0, (a0.f0.flatMap encI)), (1, (a0.f1.flatMap encB)), (2, (a0.f2.flatMap encB)), (256, [(.rf 0 0 a0.f0.length 1 (a0.f0.length * 1)), (.rf 1 0 a0.f1.length 1 (a0.f1.length * 1)), (.rf 2 0 a0.f2.length 1 (a0.f2.length * 1))])]) [(.rf 0 0 a0.f0.length 1 (a0.f0.length * 1)), (I a1)] ⟨43, [(.rf 0 0 a0.f0.length 1 (a0.f0.length * 1)), (I a1)], [(0, (a0.f0.flatMap encI))], (I x1.1), [(0, (x1.2.flatMap encI))], [], [(0, 0)], [(0, 0)], (I x1.1), [(0, (x1.2.flatMap encI))]⟩], [⟨43, [(.rf 0 0 a0.f0.length 1 (a0.f0.length * 1)), (I a1)], [(0, (a0.f0.flatMap encI))], (I x1.1), [(0, (x1.2.flatMap encI))], [], [(0, 0)], [(0, 0)], (I x1.1), [(0, (x1.2.flatMap encI))]⟩]⟩ [c_ 14, c_ 15] (alc ⟨rfl, by decide⟩ (alc (cokW false (a2c (.rf (memP_mem (p := (0, 0)) rfl)) (a2c (.z .s) a2n)) (akc ⟨_, _, rfl, rfl, (rowF encI_ok _)⟩ akn) (akc (.inl rfl) akn) (.z .s) (akc ⟨_, _, rfl, rfl, rowB encI_c _⟩ akn) (fun h => absurd h (by decide))) aln)) (acal (laws_markIntS.J k a0.f0 a1 _ hx1) nocal) ?_
  refine .eqs (env2 := [(1, (I x1.1)), (2, (.pt 256 0 3))]) (H2 := [(0, (x1.2.flatMap encI)), (1, (a0.f1.flatMap encB)), (2, (a0.f2.flatMap encB)), (256, [(.rf 0 0 x1.2.length 1 (x1.2.length * 1)), (.rf 1 0 a0.f1.length 1 (a0.f1.length * 1)), (.rf 2 0 a0.f2.length 1 (a0.f2.length * 1))])]) (by first | (simp only [List.length_set, (laws_markIntS.len k a0.f0 a1 _ hx1)]; done) | simp) (by first | rfl | (simp only [List.length_set, (laws_markIntS.len k a0.f0 a1 _ hx1)]; done) | simp) ?_
  obtain ⟨x2, hx2, h⟩ := Option.bind_eq_some_iff.mp h
  refine .reg' [1, 2] [.no, .no, .no, .c ⟨64, [(.rf 0 0 a0.f1.length 1 (a0.f1.length * 1)), (I x1.1)], [(0, (a0.f1.flatMap encB))], (I x2.1), [(0, (x2.2.flatMap encB))], [], [(1, 0)], [(1, 0)], (I x2.1), [(1, (x2.2.flatMap encB))]⟩] ⟨[(1, (I x2.1)), (2, (.pt 256 0 3))], [(0, (x1.2.flatMap encI)), (1, (x2.2.flatMap encB)), (2, (a0.f2.flatMap encB)), (256, [(.rf 0 0 x1.2.length 1 (x1.2.length * 1)), (.rf 1 0 a0.f1.length 1 (a0.f1.length * 1)), (.rf 2 0 a0.f2.length 1 (a0.f2.length * 1))])], [3 = 3 ∧ 1 + 1 ≤ 3, COK (hget [(0, (x1.2.flatMap encI)), (1, (a0.f1.flatMap encB)), (2, (a0.f2.flatMap encB)), (256, [(.rf 0 0 x1.2.length 1 (x1.2.length * 1)), (.rf 1 0 a0.f1.length 1 (a0.f1.length * 1)), (.rf 2 0 a0.f2.length 1 (a0.f2.length * 1))])]) [(.rf 1 0 a0.f1.length 1 (a0.f1.length * 1)), (I x1.1)] ⟨64, [(.rf 0 0 a0.f1.length 1 (a0.f1.length * 1)), (I x1.1)], [(0, (a0.f1.flatMap encB))], (I x2.1), [(0, (x2.2.flatMap encB))], [], [(1, 0)], [(1, 0)], (I x2.1), [(1, (x2.2.flatMap encB))]⟩], [⟨64, [(.rf 0 0 a0.f1.length 1 (a0.f1.length * 1)), (I x1.1)], [(0, (a0.f1.flatMap encB))], (I x2.1), [(0, (x2.2.flatMap encB))], [], [(1, 0)], [(1, 0)], (I x2.1), [(1, (x2.2.flatMap encB))]⟩]⟩ [c_ 30, c_ 31] (alc ⟨rfl, by decide⟩ (alc (cokW false (a2c (.rf (memP_mem (p := (1, 0)) rfl)) (a2c (.z .s) a2n)) (akc ⟨_, _, rfl, rfl, (rowF encB_ok _)⟩ akn) (akc (.inl rfl) akn) (.z .s) (akc ⟨_, _, rfl, rfl, rowB encB_c _⟩ akn) (fun h => absurd h (by decide))) aln)) (acal (laws_markBoolS.J k a0.f1 x1.1 _ hx2) nocal) ?_
  refine .eqs (env2 := [(1, (I x2.1)), (2, (.pt 256 0 3))]) (H2 := [(0, (x1.2.flatMap encI)), (1, (x2.2.flatMap encB)), (2, (a0.f2.flatMap encB)), (256, [(.rf 0 0 x1.2.length 1 (x1.2.length * 1)), (.rf 1 0 x2.2.length 1 (x2.2.length * 1)), (.rf 2 0 a0.f2.length 1 (a0.f2.length * 1))])]) (by first | (simp only [List.length_set, (laws_markIntS.len k a0.f0 a1 _ hx1), (laws_markBoolS.len k a0.f1 x1.1 _ hx2)]; done) | simp) (by first | rfl | (simp only [List.length_set, (laws_markIntS.len k a0.f0 a1 _ hx1), (laws_markBoolS.len k a0.f1 x1.1 _ hx2)]; done) | simp) ?_
  obtain ⟨x3, hx3, h⟩ := Option.bind_eq_some_iff.mp h
  refine .reg' [1] [.no, .no, .no, .c ⟨64, [(.rf 0 0 a0.f2.length 1 (a0.f2.length * 1)), (I x2.1)], [(0, (a0.f2.flatMap encB))], (I x3.1), [(0, (x3.2.flatMap encB))], [], [(2, 0)], [(2, 0)], (I x3.1), [(2, (x3.2.flatMap encB))]⟩] ⟨[(1, (I x3.1))], [(0, (x1.2.flatMap encI)), (1, (x2.2.flatMap encB)), (2, (x3.2.flatMap encB)), (256, [(.rf 0 0 x1.2.length 1 (x1.2.length * 1)), (.rf 1 0 x2.2.length 1 (x2.2.length * 1)), (.rf 2 0 a0.f2.length 1 (a0.f2.length * 1))])], [3 = 3 ∧ 2 + 1 ≤ 3, COK (hget [(0, (x1.2.flatMap encI)), (1, (x2.2.flatMap encB)), (2, (a0.f2.flatMap encB)), (256, [(.rf 0 0 x1.2.length 1 (x1.2.length * 1)), (.rf 1 0 x2.2.length 1 (x2.2.length * 1)), (.rf 2 0 a0.f2.length 1 (a0.f2.length * 1))])]) [(.rf 2 0 a0.f2.length 1 (a0.f2.length * 1)), (I x2.1)] ⟨64, [(.rf 0 0 a0.f2.length 1 (a0.f2.length * 1)), (I x2.1)], [(0, (a0.f2.flatMap encB))], (I x3.1), [(0, (x3.2.flatMap encB))], [], [(2, 0)], [(2, 0)], (I x3.1), [(2, (x3.2.flatMap encB))]⟩], [⟨64, [(.rf 0 0 a0.f2.length 1 (a0.f2.length * 1)), (I x2.1)], [(0, (a0.f2.flatMap encB))], (I x3.1), [(0, (x3.2.flatMap encB))], [], [(2, 0)], [(2, 0)], (I x3.1), [(2, (x3.2.flatMap encB))]⟩]⟩ [c_ 62, c_ 63] (alc ⟨rfl, by decide⟩ (alc (cokW false (a2c (.rf (memP_mem (p := (2, 0)) rfl)) (a2c (.z .s) a2n)) (akc ⟨_, _, rfl, rfl, (rowF encB_ok _)⟩ akn) (akc (.inl rfl) akn) (.z .s) (akc ⟨_, _, rfl, rfl, rowB encB_c _⟩ akn) (fun h => absurd h (by decide))) aln)) (acal (laws_markBoolS.J k a0.f2 x2.1 _ hx3) nocal) ?_
  refine .eqs (env2 := [(1, (I x3.1))]) (H2 := [(0, (x1.2.flatMap encI)), (1, (x2.2.flatMap encB)), (2, (x3.2.flatMap encB)), (256, [(.rf 0 0 x1.2.length 1 (x1.2.length * 1)), (.rf 1 0 x2.2.length 1 (x2.2.length * 1)), (.rf 2 0 x3.2.length 1 (x3.2.length * 1))])]) (by first | (simp only [List.length_set, (laws_markIntS.len k a0.f0 a1 _ hx1), (laws_markBoolS.len k a0.f1 x1.1 _ hx2), (laws_markBoolS.len k a0.f2 x2.1 _ hx3)]; done) | simp) (by first | rfl | (simp only [List.length_set, (laws_markIntS.len k a0.f0 a1 _ hx1), (laws_markBoolS.len k a0.f1 x1.1 _ hx2), (laws_markBoolS.len k a0.f2 x2.1 _ hx3)]; done) | simp) ?_
  refine .reg' [4] [] ⟨[(4, (I x3.1))], [(0, (x1.2.flatMap encI)), (1, (x2.2.flatMap encB)), (2, (x3.2.flatMap encB)), (256, [(.rf 0 0 x1.2.length 1 (x1.2.length * 1)), (.rf 1 0 x2.2.length 1 (x2.2.length * 1)), (.rf 2 0 x3.2.length 1 (x3.2.length * 1))])], [], []⟩ [c_ 63] aln nocal ?_
  have h := Option.some.inj h
  subst h
  exact .fin' [] [(0, 0), (1, 1), (2, 2)] (I x3.1) [] aln (shc 0 (rowF encI_ok _) (shc 1 (rowF encB_ok _) (shc 2 (rowF encB_ok _) shn))) (.z .s)
theorem laws_markLocking.len (k : Nat) (a0 : S37) (a1 : Int) (r : (Int × (List Int) × (List Bool) × (List Bool))) (h : laws_markLocking.f k a0 a1 = some r) : r.2.1.length = a0.f0.length ∧ r.2.2.1.length = a0.f1.length ∧ r.2.2.2.length = a0.f2.length := by
  unfold laws_markLocking.f at h
  obtain ⟨x1, hx1, h⟩ := Option.bind_eq_some_iff.mp h
  have lhx1 := laws_markIntS.len k a0.f0 a1 _ hx1
  obtain ⟨x2, hx2, h⟩ := Option.bind_eq_some_iff.mp h
  have lhx2 := laws_markBoolS.len k a0.f1 x1.1 _ hx2
  obtain ⟨x3, hx3, h⟩ := Option.bind_eq_some_iff.mp h
  have lhx3 := laws_markBoolS.len k a0.f2 x2.1 _ hx3
  have h := Option.some.inj h
  subst h
  first | rfl | (simp only [List.length_set, lhx1, lhx2, lhx3]; done) | exact ⟨by first | rfl | simp only [List.length_set, lhx1, lhx2, lhx3], by first | rfl | simp only [List.length_set, lhx1, lhx2, lhx3], by first | rfl | simp only [List.length_set, lhx1, lhx2, lhx3]⟩
/-! laws_heldIntS: function 65 -/
def laws_heldIntS.l0 : Nat → (List Int) → Int → Int → Option Int
 | 0, _, _, _ => none
 | k + 1, a0, x1, x2 => (if x2 < (a0.length : Int) then (if 0 ≤ x2 then (if (at_ a0 x2) = x1 then (laws_heldIntS.l0 k a0 (wrap64 (x1 + 1)) (wrap64 (x2 + 1))) else (some (-1))) else none) else (some x1))
def laws_heldIntS.f (k : Nat) (a0 : (List Int)) (a1 : Int) : Option Int := (laws_heldIntS.l0 k a0 a1 0)
theorem laws_heldIntS.lab : ∀ k, (∀ (a0 : (List Int)) (x1 : Int) (x2 : Int) (r : Int), laws_heldIntS.l0 k a0 x1 x2 = some r → J prog (.run 65 [] [l_ 26, b_ 0, c_ 7] [(0, (.sl true a0.length 1 (a0.flatMap encI))), (1, (I x1)), (5, (I x2))] [] (I r) []))
 | 0 => (by intro a0 x1 x2 r h; unfold laws_heldIntS.l0 at h; cases h)
 | k + 1 => by
  have ih0 := laws_heldIntS.lab k
  · intro a0 x1 x2 r h
    unfold laws_heldIntS.l0 at h
    refine .loop' [c_ 208, c_ 209, c_ 105, l_ 26, b_ 0, c_ 7] ?_
    refine .reg' [0, 1, 5, 9] [] ⟨[(0, (.sl true a0.length 1 (a0.flatMap encI))), (1, (I x1)), (5, (I x2)), (9, (B (decide (x2 < (a0.length : Int)))))], [], [], []⟩ [c_ 209, c_ 105, l_ 26, b_ 0, c_ 7] aln nocal ?_
    by_cases c1 : x2 < (a0.length : Int)
    · rw [if_pos c1] at h
      refine .cond' (.tmp 9) true [c_ 1680, c_ 1681, c_ 841, b_ 1, c_ 211, l_ 26, b_ 0, c_ 7] (bT (dT c1)) ?_
      by_cases c2 : 0 ≤ x2
      · rw [if_pos c2] at h
        refine .reg' [0, 1, 5, 17] [.no, .no, .no, .v (I (at_ a0 x2))] ⟨[(0, (.sl true a0.length 1 (a0.flatMap encI))), (1, (I x1)), (5, (I x2)), (17, (B (!((at_ a0 x2) == x1))))], [], [(0 : Int) ≤ x2 ∧ x2 < (a0.length : Int), rdC prog 3 ((a0.flatMap encI).drop (x2.toNat * 1)) = (I (at_ a0 x2)), 1 ≤ ((a0.flatMap encI).drop (x2.toNat * 1)).length], []⟩ [c_ 1681, c_ 841, b_ 1, c_ 211, l_ 26, b_ 0, c_ 7] (alc ⟨c2, c1⟩ (alc (ldC1 encI_ok rfl c2 c1) (alc (okI encI_ok c2 c1 (by decide)) aln))) nocal ?_
        by_cases c3 : (at_ a0 x2) = x1
        · rw [if_pos c3] at h
          refine .cond' (.tmp 17) false [c_ 841, b_ 1, c_ 211, l_ 26, b_ 0, c_ 7] (bF (nF (qT c3))) ?_
          refine .reg' [0, 1, 5] [] ⟨[(0, (.sl true a0.length 1 (a0.flatMap encI))), (1, (I (wrap64 (x1 + 1)))), (5, (I x2))], [], [], []⟩ [c_ 211, l_ 26, b_ 0, c_ 7] aln nocal ?_
          refine .reg' [0, 1, 5] [] ⟨[(0, (.sl true a0.length 1 (a0.flatMap encI))), (1, (I (wrap64 (x1 + 1)))), (5, (I (wrap64 (x2 + 1))))], [], [], []⟩ [l_ 26, b_ 0, c_ 7] aln nocal ?_
          exact ih0 a0 (wrap64 (x1 + 1)) (wrap64 (x2 + 1)) _ h
        · rw [if_neg c3] at h
          refine .cond' (.tmp 17) true [c_ 6724, c_ 6725, c_ 841, b_ 1, c_ 211, l_ 26, b_ 0, c_ 7] (bT (nT (qF c3))) ?_
          refine .reg' [4] [] ⟨[(4, (I (-1)))], [], [], []⟩ [c_ 6725, c_ 841, b_ 1, c_ 211, l_ 26, b_ 0, c_ 7] aln nocal ?_
          have h := Option.some.inj h
          subst h
          exact .fin0 [] (I (-1)) [] aln (.z .s)
      · rw [if_neg c2] at h
        cases h
    · rw [if_neg c1] at h
      refine .cond' (.tmp 9) false [c_ 14, c_ 15] (bF (dF c1)) ?_
      refine .reg' [4] [] ⟨[(4, (I x1))], [], [], []⟩ [c_ 15] aln nocal ?_
      have h := Option.some.inj h
      subst h
      exact .fin0 [] (I x1) [] aln (.z .s)
theorem laws_heldIntS.J (k : Nat) (a0 : (List Int)) (a1 : Int) (r : Int) (h : laws_heldIntS.f k a0 a1 = some r) : J prog (.call 65 [(.sl true a0.length 1 (a0.flatMap encI)), (I a1)] [] (I r) []) := by
  unfold laws_heldIntS.f at h
  have ih0 := laws_heldIntS.lab k
  refine .call' [c_ 2, c_ 3] ?_
  refine .reg' [0, 1] [] ⟨[(0, (.sl true a0.length 1 (a0.flatMap encI))), (1, (I a1))], [], [], []⟩ [c_ 12, c_ 13, c_ 7] aln nocal ?_
  refine .reg' [0, 1, 5] [] ⟨[(0, (.sl true a0.length 1 (a0.flatMap encI))), (1, (I a1)), (5, (I 0))], [], [], []⟩ [l_ 26, b_ 0, c_ 7] aln nocal ?_
  exact ih0 a0 a1 0 _ h
/-! laws_heldBoolS: function 66 -/
def laws_heldBoolS.l0 : Nat → (List Bool) → Int → Int → Option Int
 | 0, _, _, _ => none
 | k + 1, a0, x1, x2 => (if x2 < (a0.length : Int) then (if 0 ≤ x2 then (if ((at_ a0 x2) == ((x1.tmod (3 : Int)) == 0)) = true then (laws_heldBoolS.l0 k a0 (wrap64 (x1 + 1)) (wrap64 (x2 + 1))) else (some (-1))) else none) else (some x1))
def laws_heldBoolS.f (k : Nat) (a0 : (List Bool)) (a1 : Int) : Option Int := (laws_heldBoolS.l0 k a0 a1 0)
theorem laws_heldBoolS.lab : ∀ k, (∀ (a0 : (List Bool)) (x1 : Int) (x2 : Int) (r : Int), laws_heldBoolS.l0 k a0 x1 x2 = some r → J prog (.run 66 [] [l_ 26, b_ 0, c_ 7] [(0, (.sl true a0.length 1 (a0.flatMap encB))), (1, (I x1)), (5, (I x2))] [] (I r) []))
 | 0 => (by intro a0 x1 x2 r h; unfold laws_heldBoolS.l0 at h; cases h)
 | k + 1 => by
  have ih0 := laws_heldBoolS.lab k
  · intro a0 x1 x2 r h
    unfold laws_heldBoolS.l0 at h
    refine .loop' [c_ 208, c_ 209, c_ 105, l_ 26, b_ 0, c_ 7] ?_
    refine .reg' [0, 1, 5, 9] [] ⟨[(0, (.sl true a0.length 1 (a0.flatMap encB))), (1, (I x1)), (5, (I x2)), (9, (B (decide (x2 < (a0.length : Int)))))], [], [], []⟩ [c_ 209, c_ 105, l_ 26, b_ 0, c_ 7] aln nocal ?_
    by_cases c1 : x2 < (a0.length : Int)
    · rw [if_pos c1] at h
      refine .cond' (.tmp 9) true [c_ 1680, c_ 1681, c_ 841, b_ 1, c_ 211, l_ 26, b_ 0, c_ 7] (bT (dT c1)) ?_
      by_cases c2 : 0 ≤ x2
      · rw [if_pos c2] at h
        refine .reg' [0, 1, 5, 19] [.no, .no, .no, .v (B (at_ a0 x2))] ⟨[(0, (.sl true a0.length 1 (a0.flatMap encB))), (1, (I x1)), (5, (I x2)), (19, (B (!((at_ a0 x2) == ((x1.tmod (3 : Int)) == 0)))))], [], [(0 : Int) ≤ x2 ∧ x2 < (a0.length : Int), rdC prog 4 ((a0.flatMap encB).drop (x2.toNat * 1)) = (B (at_ a0 x2)), 1 ≤ ((a0.flatMap encB).drop (x2.toNat * 1)).length, (3 : Int) ≠ 0], []⟩ [c_ 1681, c_ 841, b_ 1, c_ 211, l_ 26, b_ 0, c_ 7] (alc ⟨c2, c1⟩ (alc (ldC1 encB_ok rfl c2 c1) (alc (okI encB_ok c2 c1 (by decide)) (alc (by decide) aln)))) nocal ?_
        by_cases c3 : ((at_ a0 x2) == ((x1.tmod (3 : Int)) == 0)) = true
        · rw [if_pos c3] at h
          refine .cond' (.tmp 19) false [c_ 841, b_ 1, c_ 211, l_ 26, b_ 0, c_ 7] (bF (nF c3)) ?_
          refine .reg' [0, 1, 5] [] ⟨[(0, (.sl true a0.length 1 (a0.flatMap encB))), (1, (I (wrap64 (x1 + 1)))), (5, (I x2))], [], [], []⟩ [c_ 211, l_ 26, b_ 0, c_ 7] aln nocal ?_
          refine .reg' [0, 1, 5] [] ⟨[(0, (.sl true a0.length 1 (a0.flatMap encB))), (1, (I (wrap64 (x1 + 1)))), (5, (I (wrap64 (x2 + 1))))], [], [], []⟩ [l_ 26, b_ 0, c_ 7] aln nocal ?_
          exact ih0 a0 (wrap64 (x1 + 1)) (wrap64 (x2 + 1)) _ h
        · rw [if_neg c3] at h
          refine .cond' (.tmp 19) true [c_ 6724, c_ 6725, c_ 841, b_ 1, c_ 211, l_ 26, b_ 0, c_ 7] (bT (nT (vF c3))) ?_
          refine .reg' [4] [] ⟨[(4, (I (-1)))], [], [], []⟩ [c_ 6725, c_ 841, b_ 1, c_ 211, l_ 26, b_ 0, c_ 7] aln nocal ?_
          have h := Option.some.inj h
          subst h
          exact .fin0 [] (I (-1)) [] aln (.z .s)
      · rw [if_neg c2] at h
        cases h
    · rw [if_neg c1] at h
      refine .cond' (.tmp 9) false [c_ 14, c_ 15] (bF (dF c1)) ?_
      refine .reg' [4] [] ⟨[(4, (I x1))], [], [], []⟩ [c_ 15] aln nocal ?_
      have h := Option.some.inj h
      subst h
      exact .fin0 [] (I x1) [] aln (.z .s)
theorem laws_heldBoolS.J (k : Nat) (a0 : (List Bool)) (a1 : Int) (r : Int) (h : laws_heldBoolS.f k a0 a1 = some r) : J prog (.call 66 [(.sl true a0.length 1 (a0.flatMap encB)), (I a1)] [] (I r) []) := by
  unfold laws_heldBoolS.f at h
  have ih0 := laws_heldBoolS.lab k
  refine .call' [c_ 2, c_ 3] ?_
  refine .reg' [0, 1] [] ⟨[(0, (.sl true a0.length 1 (a0.flatMap encB))), (1, (I a1))], [], [], []⟩ [c_ 12, c_ 13, c_ 7] aln nocal ?_
  refine .reg' [0, 1, 5] [] ⟨[(0, (.sl true a0.length 1 (a0.flatMap encB))), (1, (I a1)), (5, (I 0))], [], [], []⟩ [l_ 26, b_ 0, c_ 7] aln nocal ?_
  exact ih0 a0 a1 0 _ h
/-! laws_heldLocking: function 22 -/
def laws_heldLocking.f (k : Nat) (a0 : S37) (a1 : Int) : Option Int := ((laws_heldIntS.f k a0.f0 a1).bind fun x1 => (if x1 < 0 then (some (-1)) else ((laws_heldBoolS.f k a0.f1 x1).bind fun x2 => (if x2 < 0 then (some (-1)) else ((laws_heldBoolS.f k a0.f2 x2).bind fun x3 => (if x3 < 0 then (some (-1)) else (some x3)))))))
theorem laws_heldLocking.J (k : Nat) (a0 : S37) (a1 : Int) (r : Int) (h : laws_heldLocking.f k a0 a1 = some r) : J prog (.call 22 [(.ag [(.sl true a0.f0.length 1 (a0.f0.flatMap encI)), (.sl true a0.f1.length 1 (a0.f1.flatMap encB)), (.sl true a0.f2.length 1 (a0.f2.flatMap encB))]), (I a1)] [] (I r) []) := by
  unfold laws_heldLocking.f at h
  refine .call' [c_ 2, c_ 3] ?_
  refine .reg' [1, 2] [] ⟨[(1, (I a1)), (2, (.pt 256 0 3))], [(256, [(.sl true a0.f0.length 1 (a0.f0.flatMap encI)), (.sl true a0.f1.length 1 (a0.f1.flatMap encB)), (.sl true a0.f2.length 1 (a0.f2.flatMap encB))])], [], []⟩ [c_ 6, c_ 7] aln nocal ?_
  obtain ⟨x1, hx1, h⟩ := Option.bind_eq_some_iff.mp h
  refine .reg' [1, 2] [.no, .no, .no, .c ⟨65, [(.sl true a0.f0.length 1 (a0.f0.flatMap encI)), (I a1)], [], (I x1), [], [], [], [], (I x1), []⟩] ⟨[(1, (I x1)), (2, (.pt 256 0 3))], [(256, [(.sl true a0.f0.length 1 (a0.f0.flatMap encI)), (.sl true a0.f1.length 1 (a0.f1.flatMap encB)), (.sl true a0.f2.length 1 (a0.f2.flatMap encB))])], [3 = 3 ∧ 0 + 1 ≤ 3, COK (hget [(256, [(.sl true a0.f0.length 1 (a0.f0.flatMap encI)), (.sl true a0.f1.length 1 (a0.f1.flatMap encB)), (.sl true a0.f2.length 1 (a0.f2.flatMap encB))])]) [(.sl true a0.f0.length 1 (a0.f0.flatMap encI)), (I a1)] ⟨65, [(.sl true a0.f0.length 1 (a0.f0.flatMap encI)), (I a1)], [], (I x1), [], [], [], [], (I x1), []⟩], [⟨65, [(.sl true a0.f0.length 1 (a0.f0.flatMap encI)), (I a1)], [], (I x1), [], [], [], [], (I x1), []⟩]⟩ [c_ 28, c_ 29, c_ 15] (alc ⟨rfl, by decide⟩ (alc (cok0 false (a2c (.z (frz_sl encI_ok (fun h => h))) (a2c (.z .s) a2n)) (.z .s) (fun h => absurd h (by decide))) aln)) (acal (laws_heldIntS.J k a0.f0 a1 _ hx1) nocal) ?_
  refine .reg' [1, 2, 10] [] ⟨[(1, (I x1)), (2, (.pt 256 0 3)), (10, (B (decide (x1 < 0))))], [(256, [(.sl true a0.f0.length 1 (a0.f0.flatMap encI)), (.sl true a0.f1.length 1 (a0.f1.flatMap encB)), (.sl true a0.f2.length 1 (a0.f2.flatMap encB))])], [], []⟩ [c_ 29, c_ 15] aln nocal ?_
  by_cases c1 : x1 < 0
  · rw [if_pos c1] at h
    refine .cond' (.tmp 10) true [c_ 116, c_ 117, c_ 15] (bT (dT c1)) ?_
    refine .reg' [4] [] ⟨[(4, (I (-1)))], [(256, [(.sl true a0.f0.length 1 (a0.f0.flatMap encI)), (.sl true a0.f1.length 1 (a0.f1.flatMap encB)), (.sl true a0.f2.length 1 (a0.f2.flatMap encB))])], [], []⟩ [c_ 117, c_ 15] aln nocal ?_
    have h := Option.some.inj h
    subst h
    exact .fin0 [] (I (-1)) [] aln (.z .s)
  · rw [if_neg c1] at h
    refine .cond' (.tmp 10) false [c_ 30, c_ 31] (bF (dF c1)) ?_
    obtain ⟨x2, hx2, h⟩ := Option.bind_eq_some_iff.mp h
    refine .reg' [1, 2] [.no, .no, .no, .c ⟨66, [(.sl true a0.f1.length 1 (a0.f1.flatMap encB)), (I x1)], [], (I x2), [], [], [], [], (I x2), []⟩] ⟨[(1, (I x2)), (2, (.pt 256 0 3))], [(256, [(.sl true a0.f0.length 1 (a0.f0.flatMap encI)), (.sl true a0.f1.length 1 (a0.f1.flatMap encB)), (.sl true a0.f2.length 1 (a0.f2.flatMap encB))])], [3 = 3 ∧ 1 + 1 ≤ 3, COK (hget [(256, [(.sl true a0.f0.length 1 (a0.f0.flatMap encI)), (.sl true a0.f1.length 1 (a0.f1.flatMap encB)), (.sl true a0.f2.length 1 (a0.f2.flatMap encB))])]) [(.sl true a0.f1.length 1 (a0.f1.flatMap encB)), (I x1)] ⟨66, [(.sl true a0.f1.length 1 (a0.f1.flatMap encB)), (I x1)], [], (I x2), [], [], [], [], (I x2), []⟩], [⟨66, [(.sl true a0.f1.length 1 (a0.f1.flatMap encB)), (I x1)], [], (I x2), [], [], [], [], (I x2), []⟩]⟩ [c_ 124, c_ 125, c_ 63] (alc ⟨rfl, by decide⟩ (alc (cok0 false (a2c (.z (frz_sl encB_ok (fun h => h))) (a2c (.z .s) a2n)) (.z .s) (fun h => absurd h (by decide))) aln)) (acal (laws_heldBoolS.J k a0.f1 x1 _ hx2) nocal) ?_
    refine .reg' [1, 2, 16] [] ⟨[(1, (I x2)), (2, (.pt 256 0 3)), (16, (B (decide (x2 < 0))))], [(256, [(.sl true a0.f0.length 1 (a0.f0.flatMap encI)), (.sl true a0.f1.length 1 (a0.f1.flatMap encB)), (.sl true a0.f2.length 1 (a0.f2.flatMap encB))])], [], []⟩ [c_ 125, c_ 63] aln nocal ?_
    by_cases c2 : x2 < 0
    · rw [if_pos c2] at h
      refine .cond' (.tmp 16) true [c_ 500, c_ 501, c_ 63] (bT (dT c2)) ?_
      refine .reg' [4] [] ⟨[(4, (I (-1)))], [(256, [(.sl true a0.f0.length 1 (a0.f0.flatMap encI)), (.sl true a0.f1.length 1 (a0.f1.flatMap encB)), (.sl true a0.f2.length 1 (a0.f2.flatMap encB))])], [], []⟩ [c_ 501, c_ 63] aln nocal ?_
      have h := Option.some.inj h
      subst h
      exact .fin0 [] (I (-1)) [] aln (.z .s)
    · rw [if_neg c2] at h
      refine .cond' (.tmp 16) false [c_ 126, c_ 127] (bF (dF c2)) ?_
      obtain ⟨x3, hx3, h⟩ := Option.bind_eq_some_iff.mp h
      refine .reg' [1] [.no, .no, .no, .c ⟨66, [(.sl true a0.f2.length 1 (a0.f2.flatMap encB)), (I x2)], [], (I x3), [], [], [], [], (I x3), []⟩] ⟨[(1, (I x3))], [(256, [(.sl true a0.f0.length 1 (a0.f0.flatMap encI)), (.sl true a0.f1.length 1 (a0.f1.flatMap encB)), (.sl true a0.f2.length 1 (a0.f2.flatMap encB))])], [3 = 3 ∧ 2 + 1 ≤ 3, COK (hget [(256, [(.sl true a0.f0.length 1 (a0.f0.flatMap encI)), (.sl true a0.f1.length 1 (a0.f1.flatMap encB)), (.sl true a0.f2.length 1 (a0.f2.flatMap encB))])]) [(.sl true a0.f2.length 1 (a0.f2.flatMap encB)), (I x2)] ⟨66, [(.sl true a0.f2.length 1 (a0.f2.flatMap encB)), (I x2)], [], (I x3), [], [], [], [], (I x3), []⟩], [⟨66, [(.sl true a0.f2.length 1 (a0.f2.flatMap encB)), (I x2)], [], (I x3), [], [], [], [], (I x3), []⟩]⟩ [c_ 508, c_ 509, c_ 255] (alc ⟨rfl, by decide⟩ (alc (cok0 false (a2c (.z (frz_sl encB_ok (fun h => h))) (a2c (.z .s) a2n)) (.z .s) (fun h => absurd h (by decide))) aln)) (acal (laws_heldBoolS.J k a0.f2 x2 _ hx3) nocal) ?_
      refine .reg' [1, 22] [] ⟨[(1, (I x3)), (22, (B (decide (x3 < 0))))], [(256, [(.sl true a0.f0.length 1 (a0.f0.flatMap encI)), (.sl true a0.f1.length 1 (a0.f1.flatMap encB)), (.sl true a0.f2.length 1 (a0.f2.flatMap encB))])], [], []⟩ [c_ 509, c_ 255] aln nocal ?_
      by_cases c3 : x3 < 0
      · rw [if_pos c3] at h
        refine .cond' (.tmp 22) true [c_ 2036, c_ 2037, c_ 255] (bT (dT c3)) ?_
        refine .reg' [4] [] ⟨[(4, (I (-1)))], [(256, [(.sl true a0.f0.length 1 (a0.f0.flatMap encI)), (.sl true a0.f1.length 1 (a0.f1.flatMap encB)), (.sl true a0.f2.length 1 (a0.f2.flatMap encB))])], [], []⟩ [c_ 2037, c_ 255] aln nocal ?_
        have h := Option.some.inj h
        subst h
        exact .fin0 [] (I (-1)) [] aln (.z .s)
      · rw [if_neg c3] at h
        refine .cond' (.tmp 22) false [c_ 510, c_ 511] (bF (dF c3)) ?_
        refine .reg' [4] [] ⟨[(4, (I x3))], [(256, [(.sl true a0.f0.length 1 (a0.f0.flatMap encI)), (.sl true a0.f1.length 1 (a0.f1.flatMap encB)), (.sl true a0.f2.length 1 (a0.f2.flatMap encB))])], [], []⟩ [c_ 511] aln nocal ?_
        have h := Option.some.inj h
        subst h
        exact .fin0 [] (I x3) [] aln (.z .s)
/-! laws_FnExactBare: function 5 -/
def laws_FnExactBare.f (k : Nat) (a0 : S24) : Option Bool := ((laws_szPlant.f k a0 1048576).bind fun x1 => (if x1 < 0 then (some true) else ((laws_toPlant.f k a0).bind fun x2 => ((spec_Bare.f k x2).bind fun x3 => ((laws_toPlant.f k a0).bind fun x4 => ((impl_Bare.f k x4).bind fun x5 => ((laws_eqLocking.f k x5 x3).bind fun x6 => (if x6 = true then ((laws_toPlant.f k a0).bind fun x7 => ((laws_eqPlant.f k x4 x7).bind fun x8 => (if x8 = true then ((laws_markPlant.f k x4 1).bind fun x9 => (if x9.1 < 0 then (some false) else ((laws_eqLocking.f k x5 x3).bind fun x10 => (if x10 = true then ((laws_markLocking.f k x5 1).bind fun x11 => ((laws_heldLocking.f k (⟨x11.2.1, x11.2.2.1, x11.2.2.2⟩ : S37) 1).bind fun x12 => (if x12 < 0 then (some false) else (if x12 = x11.1 then ((laws_toPlant.f k a0).bind fun x13 => ((impl_Bare.f k x13).bind fun x14 => ((laws_eqLocking.f k x14 x3).bind fun x15 => (if x15 = true then ((laws_heldLocking.f k (⟨x11.2.1, x11.2.2.1, x11.2.2.2⟩ : S37) 1).bind fun x16 => (if x16 < 0 then (some false) else (if x16 = x11.1 then (some true) else (some false)))) else (some false))))) else (some false))))) else (some false))))) else (some false)))) else (some false)))))))))
end Go.Proofs.Ytjfjifnmfnlfoaa.Fns
